/-
  Joined texts:what a statement's proof reaches.
-/
import Derived.Laws.MakeOwn
import Derived.OwnWalk
import Derived.OpenShut
import Derived.Deep.Slices
import Derived.ChangeArms
import Derived.WalkSpells
import Derived.Test.YtjblgopghhgflaaGreatPCR2
set_option maxHeartbeats 8000000
set_option maxRecDepth 100000
set_option linter.unusedSimpArgs false
set_option linter.unusedVariables false
section
namespace Leg
open Go Codec Api
theorem wK(v:Value)(n:Nat):madeCells #[v] n=(List.replicate n v).toArray:=by
 unfold madeCells;apply Array.ext
 · simp
 · intro i h1 h2
   simp at h1;simp[Nat.mod_one]
theorem HL(n:Nat):ek (List.replicate n 0)=List.replicate n (.int .u8 0):=by simp[ek]
section
variable {P:Program} {w0:World} {F:Hl} {n:Nat} {ops:Array Oper} {Q:QQ} {D:List Deferred} {L:List (Nat×Value)} {H:List HP} {o:Oper} {l:List Oper} {d:Nat} {S:World→Prop}
theorem TL.mono{H':List HP}(m: ∀h,bH H h→bH H' h)(h:TL P w0 F n ops Q l D L H'):TL P w0 F n ops Q l D L H:=TL.weak (dE _) m h
abbrev cp:= @TL.mono
theorem TL.makeB{t e:TypeId}{x y:Operand}{k k':IntKind}{a b:Int}(m c:Nat)(hw:Want n D ops o L)(ho:o.op= .makeSlice t x y)(hd:o.dst=some d)(hn:Nat.blt d n=true)(ht:P.underlying t=some (.slice e))
 (hi:(P.info? e).map (λi=>(i.zero,i.size,i.bytes))=some (some (.int .u8 0),1,1)) (hx:cQ L x=some (.int k a)) (hy:cQ L y=some (.int k' b)) (ha:a=(m:Int)) (hb:b=(c:Int)) (h1:m≤c) (h2:c≤281474976710656)
 (h: ∀b,TL P w0 F n ops Q l D ((d, .slice (some ⟨b,0,none⟩) m c)::L) (aj b (ek (List.replicate c 0)) e::H)):TL P w0 F n ops Q (o::l) D L H:=
 lC hw λa w f sm q=>by
  subst ha;subst hb;obtain⟨i,hie,hz0,hs,hb⟩:=info_parts hi;have hr:=run_make (P:=P) w t e i (.int .u8 0) ht hie hz0 k k' (m:Int) (c:Int) (by omega) (by omega) (by rw[hb];omega) (by omega)
  have e1:madeCells (Value.cells (.int .u8 0)) ((c:Int).toNat*i.size)=(ek (List.replicate c 0)).toArray:=by
   rw[hs,fy,HA,HL];exact wK _ _
  rw[e1]at hr;simp only[HA]at hr
  have r:(execOp a.eval o).run P w= .ok (.value (.slice (some ⟨w.heap.size,0,none⟩) m c)) (w.alloc (.cells (ek (List.replicate c 0)).toArray e)):=by
   simp only[execOp,ho,f.eval hx,f.eval hy,Sem.run_bind,hr,Result.andThen_ok,Sem.run_pure]
  unfold Oper.wp;rw[r,Oper.upon_value,hd];exact h _ _ _ (f.put (lb hn) _) (sm.trans ⟨rfl,rfl,rfl,by simp⟩) (q.alloc _)
def jC:Value→Nat→Nat→Value
 | .slice a m c,lo,hi=> .slice (if c=lo then a else a.map (·.add lo)) (hi-lo) (c-lo)
 |v,_,_=>v
theorem PV.sliceLH{t e:TypeId}{x y z:Operand}{a:Option Addr}{len cap lo hi:Nat}{k k':IntKind}{i j:Int}(ho:o.op= .slice t x (some y) (some z) none)(ht:P.underlying t=some (.slice e))(hs:(P.info? e).map (·.size)=some 1)
 (hx:cQ L x=some (.slice a len cap)) (hy:cQ L y=some (.int k i)) (hz:cQ L z=some (.int k' j)) (hi':i=(lo:Int)) (hj:j=(hi:Int)) (h1:lo≤hi) (h2:hi≤cap):PV P n D L S o (jC (.slice a len cap) lo hi):=
 λb w g _=>by
  subst hi';subst hj;simp only[execOp,ho,g.eval hx,Option.map_some,Option.map_none,g.eval hy,g.eval hz,jC]
  by_cases q:cap=lo
  · have e2:hi=lo:=by omega
    subst e2;simp[Instr.sliceAt,Instr.slice,run_underlying ht,Instr.sliceBounds,Instr.sliceBound,asIntOf,dQ hs,q]
  · simp[Instr.sliceAt,Instr.slice,run_underlying ht,Instr.sliceBounds,Instr.sliceBound,asIntOf,h1,h2,dQ hs,q]
theorem PV.sliceH{t e:TypeId}{x z:Operand}{a:Option Addr}{len cap hi:Nat}{k':IntKind}{j:Int}(ho:o.op= .slice t x none (some z) none)(ht:P.underlying t=some (.slice e))(hs:(P.info? e).map (·.size)=some 1)
 (hx:cQ L x=some (.slice a len cap)) (hz:cQ L z=some (.int k' j)) (hj:j=(hi:Int)) (h2:hi≤cap):PV P n D L S o (jC (.slice a len cap) 0 hi):=
 λb w g _=>by
  subst hj;simp only[execOp,ho,g.eval hx,Option.map_some,Option.map_none,g.eval hz,jC]
  by_cases q:cap=0
  · have e2:hi=0:=by omega
    subst e2;simp[Instr.sliceAt,Instr.slice,run_underlying ht,Instr.sliceBounds,Instr.sliceBound,asIntOf,dQ hs,q]
  · simp[Instr.sliceAt,Instr.slice,run_underlying ht,Instr.sliceBounds,Instr.sliceBound,asIntOf,h2,dQ hs,q]
theorem PV.sliceL{t e:TypeId}{x y:Operand}{a:Option Addr}{len cap lo:Nat}{k:IntKind}{i:Int}(ho:o.op= .slice t x (some y) none none)(ht:P.underlying t=some (.slice e))(hs:(P.info? e).map (·.size)=some 1)
 (hx:cQ L x=some (.slice a len cap)) (hy:cQ L y=some (.int k i)) (hi:i=(lo:Int)) (h1:lo≤len):PV P n D L S o (jC (.slice a len cap) lo len):=
 λb w g _=>by
  subst hi;simp only[execOp,ho,g.eval hx,Option.map_some,Option.map_none,g.eval hy,jC]
  by_cases q:cap=lo
  · simp[Instr.sliceAt,Instr.slice,run_underlying ht,Instr.sliceBounds,Instr.sliceBound,asIntOf,h1,dQ hs,q]
  · simp[Instr.sliceAt,Instr.slice,run_underlying ht,Instr.sliceBounds,Instr.sliceBound,asIntOf,h1,dQ hs,q]
end
theorem IsW.form{v:Value}{bs:List UInt8}{F:Hl}(h:IsW v bs F): ∃a c,v= .slice a bs.length c∧bs.length≤c∧(bs.length=0∨c≤9223372036854775807):=by
 rcases h with(⟨rfl,rfl⟩| ⟨b,off,cap,cs,T,z,rfl,h1,h2,_⟩)| ⟨a,c,rfl,rfl⟩
 · exact⟨_,_,rfl,aP _, .inl rfl⟩
 · exact⟨_,_,rfl,h1, .inr h2⟩
 · exact⟨_,_,rfl,aN _, .inl rfl⟩
theorem IsW.lt{v:Value}{bs:List UInt8}{F:Hl}(h:IsW v bs F):bs.length≤9223372036854775807:=by
 obtain⟨a,c,_,h1,h2⟩:=h.form;omega
theorem IsW.cut{v:Value}{bs:List UInt8}{F:Hl}(h:IsW v bs F){lo hi:Nat}(h1:lo≤hi)(h2:hi≤bs.length):IsW (jC v lo hi) ((bs.take hi).drop lo) F:=by
 have hl:((bs.take hi).drop lo).length=hi-lo:=by simp;omega
 by_cases e:hi-lo=0
 · obtain⟨a,c,rfl,hc,_⟩:=h.form
   have e0:(bs.take hi).drop lo=[]:=List.eq_nil_of_length_eq_zero (by omega);rw[e0];simp only[jC,e];split
   · cases a with
     |some a=>exact .inr ⟨_,_,rfl,rfl⟩
     |none=>
      rcases h with(⟨h,rfl⟩| ⟨b,off,cap,cs,T,z,h,_⟩)| ⟨a,c,h,_⟩
      · injection h with _ _ h;subst h;exact .inl (.inl ⟨by simp,rfl⟩)
      · simp at h
      · simp at h
   · cases a with
     |some a=>exact .inr ⟨_,_,rfl,rfl⟩
     |none=>
      rcases h with(⟨h,rfl⟩| ⟨b,off,cap,cs,T,z,h,_⟩)| ⟨a,c,h,_⟩
      · injection h with _ _ h;subst h;exact .inl (.inl ⟨by simp,rfl⟩)
      · simp at h
      · simp at h
 · obtain⟨b,off,cap,cs,T,z,rfl,hb,hcs,hc⟩:=h.at (j:=0) (by omega)
   rcases h.form with⟨a,c,hv,_,hm⟩
   injection hv with _ _ hv
   subst hv;refine .inl (.inr ⟨b,off+lo,cap-lo,cs,T,z,?_,by omega,by omega,hb,λj hj=>?_⟩)
   · simp only[jC,hl,if_neg (show ¬cap=lo by omega),Option.map_some,px]
   · rw[hl]at hj
     rw[oF,hcs (lo+j) (by omega)];congr 2;simp[List.getD_eq_getElem?_getD,List.getElem?_take,show lo+j<hi by omega]
def gm(v:Value)(bs:List UInt8)(e:Nat):HP:=λh=>
 (v= .slice none 0 0∧bs=[]∧h=em)∨∃g off cap cur,v= .slice (some ⟨g,off,none⟩) bs.length cap∧h=sg g (.cells cur e (0,0))∧bs.length≤cap∧cap≤maxLen∧off+cap≤cur.size∧(cur.toList.drop off).take bs.length=ek bs
theorem oV{v:Value}{bs:List UInt8}{e:Nat}{h:Hl}(x:dL v bs e h):gm v bs e h:=by
 rcases x with⟨_,⟨h1,h2,h3⟩| ⟨g,cap,cur,h1,h2,h3,h4,h5,h6⟩⟩
 · exact .inl ⟨h1,List.eq_nil_of_length_eq_zero h2,h3⟩
 · exact .inr ⟨g,0,cap,cur,h1,h2,h3,h4,by omega,by simpa using h6⟩
section
variable {H:List HP} {F:Hl} {v:Value} {bs:List UInt8} {e:Nat}
theorem yz(i:Nat)(hi:Nat.blt i H.length=true)(hH:H.getD i (λ_=>True)=dL v bs e){h:Hl}(s:bH H h):bH (H.set i (gm v bs e)) h:=
 kb i (lb hi) (cA (eI i (lb hi) s) (λ_ x=>oV (by rwa [hH]at x)) λ_ x=>x)
theorem uR{lo hi nn:Nat}{bs':List UInt8}(i:Nat)(hi':Nat.blt i H.length=true)(hH:H.getD i (λ_=>True)=dL v bs e){g cap:Nat}(hv:v= .slice (some ⟨g,0,none⟩) nn cap)(h1:lo≤hi)(h2:hi≤bs.length)(h3:lo<bs.length)(hb:(bs.take hi).drop lo=bs'){h:Hl}(s:bH H h):
 bH (H.set i (gm (jC v lo hi) bs' e)) h:=by
 subst hb;have hl:((bs.take hi).drop lo).length=hi-lo:=by simp;omega
 refine kb i (lb hi') (cA (eI i (lb hi') s) (λ_ x=>?_) λ_ x=>x);rw[hH]at x;rcases x with⟨_,⟨h1,h2,_⟩| ⟨g',cap',cur,h4,h5,h6,h7,h8,h9⟩⟩
 · rw[hv]at h1;simp at h1
 · rw[hv]at h4 ⊢
   simp only[Value.slice.injEq,Option.some.injEq,Addr.mk.injEq,and_true,true_and]at h4;obtain⟨rfl,rfl,rfl⟩:=h4;refine .inr ⟨g,lo,cap-lo,cur,?_,h5,by omega,by omega,by omega,?_⟩
   · simp only[jC,hl,if_neg (show ¬cap=lo by omega),Option.map_some,px,bh]
   · rw[hl]
     rw[fy]at h9;have e1:=congrArg (λl:List Value=>(l.take hi).drop lo) h9;simp only[List.take_take,Nat.min_eq_left h2]at e1;rw[←nE,e1];simp[ek,oG,ko]
theorem Sat.sub_form{w:World}(i:Nat)(s:Sat H F w)(hi:Nat.blt i H.length=true)(hH:H.getD i (λ_=>True)=gm v bs e):(v= .slice none 0 0∧bs=[])∨∃g off cap cur,v= .slice (some ⟨g,off,none⟩) bs.length cap∧w.heap[g]?=some (.cells cur e (0,0))∧bs.length≤cap∧cap≤maxLen∧off+cap≤cur.size∧(cur.toList.drop off).take bs.length=ek bs:=by
 obtain⟨h,d,e',x⟩:=s;obtain⟨h1,h2,d',rfl,a,_⟩:=eI i (lb hi) x;rw[hH]at a;rcases a with⟨x1,x2,_⟩| ⟨g,off,cap,cur,x1,x2,x3⟩
 · exact .inl ⟨x1,x2⟩
 · refine .inr ⟨g,off,cap,cur,x1,?_,x3⟩
   have:hp w g=some (.cells cur e (0,0)):=by
    rw[e',iM];exact gG (by rw[x2];simp[sg])
   exact this
theorem Sat.sub_len{w:World}(i:Nat)(s:Sat H F w)(hi:Nat.blt i H.length=true)(hH:H.getD i (λ_=>True)=gm v bs e):oo v bs.length∧v.oneCell'=true:=by
 rcases s.sub_form i hi hH with⟨rfl,rfl⟩| ⟨g,off,cap,cur,rfl,_⟩
 · exact⟨⟨_,_,rfl⟩,rfl⟩
 · exact⟨⟨_,_,rfl⟩,rfl⟩
theorem Src.sub(i:Nat)(hi:Nat.blt i H.length=true)(hH:H.getD i (λ_=>True)=gm v bs e){w:World}(s:Sat H F w):Src (Sat H F) v bs.length (ek bs) 1:=by
 refine⟨by simp[ek],?_⟩;rcases s.sub_form i hi hH with⟨rfl,rfl⟩| ⟨g,off,cap,cur,rfl,_⟩
 · exact .inl ⟨rfl,rfl⟩
 · refine .inr ⟨⟨g,off,none⟩,cap,rfl,λw s j u hj=>?_⟩
   rcases s.sub_form i hi hH with⟨h1,_⟩| ⟨g',off',cap',cur',h1,h2,h3,h4,h5,h6⟩
   · simp at h1
   · simp only[Value.slice.injEq,Option.some.injEq,Addr.mk.injEq,and_true,true_and]at h1
     obtain⟨⟨rfl,rfl⟩,rfl⟩:=h1;rw[px];rw[←h6,List.getElem?_take]at hj;split at hj
     · simp only[World.cell?,h2,Option.isSome_none,Bool.false_eq_true,if_false]
       simpa using hj
     · cases hj
theorem y5(i:Nat){B:List HP}(hi:Nat.blt i B.length=true)(hH:B.getD i (λ_=>True)=gm v bs e): ∀g,Dj g F→bH B g→IsB v bs (jn g F):=λg _ s=>by
 obtain⟨h1,h2,d',rfl,a,_⟩:=eI i (lb hi) s;rw[hH]at a;rcases a with⟨x1,x2,_⟩| ⟨g,off,cap,cur,x1,x2,x3,x4,x5,x6⟩
 · exact .inl ⟨x1,x2⟩
 · refine .inr ⟨g,off,cap,cur.toList,e,(0,0),x1,x3,by simpa [maxLen]using x4,gG (gG (by rw[x2];simp[sg])),λj hj=>?_⟩
   have e1:=congrArg (λl:List Value=>l[j]?) x6;simp only[List.getElem?_take,if_pos hj,List.getElem?_drop]at e1;rw[e1];simp[ek,List.getD_eq_getElem?_getD,hj]
end
theorem sy{P:Program}(w:World)(t ty e:TypeId)(i:TypeInfo)(ht:P.underlying t=some (.slice e))(hi:P.info? e=some i)(g off sLen sCap:Nat)(cur:Array Value)(hg:w.heap[g]?=some (.cells cur e (0,0)))
 (a:Addr) (m c:Nat) (news:List Value) (hl:news.length=m*i.size) (hnews: ∀j u,news[j]?=some u→w.cell? (a.add j)=some u) (h1: ∀u∈news,u.oneCell'=true)
 (hroom:sLen+m≤sCap) (hfit:off+sLen*i.size+news.length≤cur.size):
 (Builtin.append_ #[t,t] ty #[.slice (some ⟨g,off,none⟩) sLen sCap, .slice (some a) m c]).run P w=
  .ok (.slice (some ⟨g,off,none⟩) (sLen+m) sCap) (w.setRow g (cur.toList.take (off+sLen*i.size)++news++cur.toList.drop (off+sLen*i.size+news.length)).toArray):=by
 have hf:=run_firstCells_some (P:=P) w i.size m a m c news hl hnews;have hst:=run_storeCells_at P g (off+sLen*i.size) e news 0 cur w hg (by simpa using hfit) h1;simp only[xb]at hst;simp[Builtin.append_,run_underlying ht,Go.sizeOf,typeInfo,hi,Builtin.lenOf,hroom,hf,Addr.add_lit,hst]
section
variable {P:Program} {w0:World} {F:Hl} {n:Nat} {ops:Array Oper} {Q:QQ} {D:List Deferred} {L:List (Nat×Value)} {H:List HP} {o:Oper} {l:List Oper} {d:Nat} {S:World→Prop}
theorem Sat.sub_open{w:World}{k:Nat}{v:Value}{bs:List UInt8}{e:TypeId}(s:Sat H F w)(hk:Nat.blt k H.length=true)(hH:H.getD k (λ_=>True)=gm v bs e):
 (v= .slice none 0 0∧bs=[]∧Sat (H.set k (dL (.slice none 0 0) [] e)) F w)∨∃g off cap cur,v= .slice (some ⟨g,off,none⟩) bs.length cap∧Sat (H.set k (yS g (.cells cur e (0,0)))) F w∧bs.length≤cap∧cap≤maxLen∧off+cap≤cur.size∧(cur.toList.drop off).take bs.length=ek bs:=by
 obtain⟨h,d,e',x⟩:=s;obtain⟨h1,h2,d',rfl,a,y⟩:=eI k (lb hk) x;rw[hH]at a;rcases a with⟨x1,x2,x3⟩| ⟨g,off,cap,cur,x1,x2,x3⟩
 · exact .inl ⟨x1,x2,_,d,e',kb k (lb hk) ⟨h1,h2,d',rfl,⟨rfl, .inl ⟨rfl,rfl,x3⟩⟩,y⟩⟩
 · exact .inr ⟨g,off,cap,cur,x1,⟨_,d,e',kb k (lb hk) ⟨h1,h2,d',rfl,x2,y⟩⟩,x3⟩
theorem Src.of_eq{S':World→Prop}{x:Value}{m size:Nat}{news:List Value}(h:Src S x m news size)(hS: ∀w,S' w→S w):Src S' x m news size:=⟨h.1,h.2.imp id λ⟨a,c,q3,q4⟩=>⟨a,c,q3,λw' s'=>q4 w' (hS w' s')⟩⟩
theorem Ac{k:Nat}{q:HP}(hk:Nat.blt k H.length=true)(hH:H.getD k (λ_=>True)=q):H.set k q=H:=by
 rw[←hH,List.getD_eq_getElem?_getD,List.getElem?_eq_getElem (lb hk)];exact List.set_getElem_self _
theorem Ai{w:World}{k:Nat}{v x:Value}{bs news:List UInt8}{t ty e:TypeId}(s:Sat H F w)(ht:P.underlying t=some (.slice e))(hi:(P.info? e).map (λi=>(i.zero,i.size,i.bytes))=some (some (.int .u8 0),1,1))
 (hk:Nat.blt k H.length=true) (hH:H.getD k (λ_=>True)=gm v bs e) (hx:Src (Sat H F) x news.length (ek news) 1) (hb:bs.length+news.length≤140737488355328):
 ∃v' w',(Builtin.append_ #[t,t] ty #[v,x]).run P w= .ok v' w'∧Same w w'∧Sat (H.set k (gm v' (bs++news) e)) F w':=by
 rcases s.sub_open hk hH with⟨rfl,rfl,s1⟩| ⟨g,off,cap,cur,rfl,s1,h3,h4,h5,h6⟩
 · have hx':Src (Sat (H.set k (dL (.slice none 0 0) [] e)) F) x news.length (ek news) 1:=hx.of_eq λw' s'=>by
    have:=s'.turn (q:=gm (.slice none 0 0) [] e) k (by simpa using lb hk) λh hh=>by
     rw[hY (lb hk)]at hh;exact oV hh
    rwa [lG,Ac hk hH]at this
   obtain⟨v',w',r1,r2,r3⟩:=s9 (k:=k) (nn:=0) (m:=news.length) (v:= .slice none 0 0) (xs:=ek []) (news:=ek news) (ty:=ty) s1 ht hi rfl (by decide) (by simpa using lb hk) (hY (lb hk) _) hx' (eU _) (by simp only[maxLen];simp at hb;omega) (by simp at hb;omega);refine⟨v',w',r1,r2,?_⟩;rw[lG]at r3
   have:=r3.turn (q:=gm v' ([]++news) e) k (by simpa using lb hk) λh hh=>by
    rw[hY (lb hk)]at hh;refine oV ?_;rw[←iC,bh,ce]at hh;exact hh
   rwa [lG]at this
 · obtain⟨i,hie,hz0,hsz,hby⟩:=info_parts hi
   obtain⟨hxl,hxx⟩:=hx;have hg:w.heap[g]?=some (.cells cur e (0,0)):=s1.block k (by simpa using lb hk) (hY (lb hk) _)
   by_cases hroom:bs.length+news.length≤cap
   · rcases hxx with⟨rfl,hm⟩| ⟨a0,c,rfl,hc⟩
     · have hn:news=[]:=List.eq_nil_of_length_eq_zero hm
       subst hn;refine⟨_,w,?_,qT w,by rw[aM,Ac hk hH];exact s⟩;simp[Builtin.append_,run_underlying ht,Go.sizeOf,typeInfo,hie,Builtin.lenOf,Builtin.firstCells,loadCells,loadCellsFrom,storeCells,h3]
     · have hfit:off+bs.length*i.size+(ek news).length≤cur.size:=by rw[hsz,fy,bm];omega
       refine⟨_,_,sy (P:=P) w t ty e i ht hie g off bs.length cap cur hg a0 news.length c (ek news) (by rw[hsz,bm,fy]) (λj v hj=>hc w s j v hj) (eU _) hroom hfit,⟨rfl,rfl,rfl,by simp⟩,?_⟩;have h2:=s1.write k (by simpa using lb hk) (hY (lb hk) _) (setRow_heap w g cur (cur.toList.take (off+bs.length*i.size)++ek news++cur.toList.drop (off+bs.length*i.size+(ek news).length)).toArray e _ hg) (λj hj=>setRow_other w g j _ hj);rw[lG]at h2
       have h7:=h2.turn (q:=gm (.slice (some ⟨g,off,none⟩) (bs.length+news.length) cap) (bs++news) e) k (by simpa using lb hk) (λh hh=>by
        rw[hY (lb hk)]at hh;rw[hsz,fy,bm]at hh;refine .inr ⟨g,off,cap,_,by rw[ad],hh,by rw[ad];exact hroom,h4,?_,?_⟩
        · simp only[List.size_toArray,ad,bo,dO,Array.length_toList,bm]
          rw[hsz,fy,bm]at hfit;omega
        · simp only[aY]
          rw[jY (by simp only[bo,Array.length_toList];rw[hsz,fy,bm]at hfit;omega),nE,cm,h6,←aY,←iC]
          rw[cr (by rw[bm];exact aP _),aC (by rw[bm];exact aP _)])
       rwa [lG]at h7
   · rcases hxx with⟨rfl,hm⟩| ⟨a0,c,rfl,hc⟩
     · omega
     · have holds: ∀j u,(ek bs)[j]?=some u→w.cell? ((⟨g,off,none⟩:Addr).add j)=some u:=λj u hj=>by
        rw[px];rw[←h6,List.getElem?_take]at hj;split at hj
        · simpa [World.cell?,hg]using hj
        · cases hj
       have hr:=run_append_grow (P:=P) w t ty e i _ ht hie hz0 ⟨g,off,none⟩ bs.length cap (ek bs) (by rw[hsz,bm,fy]) holds a0 news.length c (ek news) (by rw[hsz,bm,fy]) (λj v hj=>hc w s j v hj) (by omega) (by omega) (growslice_fits (by omega) (by rw[hby];omega));refine⟨_,_,hr,⟨rfl,rfl,rfl,by simp⟩,Sat.swap k (lb hk) (s.drew.alloc _) λh hh=>?_⟩;have hge:=grownCap_ge w (bs.length+news.length) cap e;refine .inr ⟨w.heap.size,0,_,_,by rw[ad],hh,by rw[ad];exact hge,grownCap_le_maxLen w (bs.length+news.length) cap e (by simp only[maxLen];omega),?_,?_⟩
       · simp only[Array.size_append,List.size_toArray,size_zeroCells,bm,bh]
         have:(Value.cells (.int .u8 0)).size=1:=rfl;rw[this,fy];omega
       · simp only[Array.toList_append,aY,bd]
         rw[←aY,←iC,←bm (bs++news)];exact rY
theorem TL.appendS{s x:Operand}{k:Nat}{v vx:Value}{bs news bs':List UInt8}{t e:TypeId}(hw:Want n D ops o L)
 (ho:o.op= .call {callee:= .builtin .append,args:=#[s,x],argTypes:=#[t,t]}) (hd:o.dst=some d) (hn:Nat.blt d n=true) (ht:P.underlying t=some (.slice e))
 (hi:(P.info? e).map (λi=>(i.zero,i.size,i.bytes))=some (some (.int .u8 0),1,1)) (hs:cQ L s=some v) (hx:cQ L x=some vx)
 (hk:Nat.blt k H.length=true) (hH:H.getD k (λ_=>True)=gm v bs e) (hsrc: ∀w,Sat H F w→Src (Sat H F) vx news.length (ek news) 1) (hb:bs.length+news.length≤140737488355328)
 (hxs:bs++news=bs') (h: ∀v',v'.oneCell'=true→TL P w0 F n ops Q l D ((d,v')::L) (H.set k (gm v' bs' e))):TL P w0 F n ops Q (o::l) D L H:=
 lC hw λa w f sm q=>by
  obtain⟨v',w',hr,s',q'⟩:=Ai (ty:=o.type) q ht hi hk hH (hsrc w q) hb;unfold Oper.wp execOp;simp only[ho,resolve,invoke,builtin,Sem.run_bind,Sem.run_pure,Result.andThen_ok,IE,fi,qP,f.eval hs,f.eval hx,hr];rw[Oper.upon_value,hd];subst hxs;have one:v'.oneCell'=true:=(q'.sub_len k (by simpa using hk) (hY (lb hk) _)).2;exact h v' one _ w' (f.put (lb hn) v') (sm.trans s') q'
theorem TL.subLen{v:Value}{bs:List UInt8}{e:Nat}(k:Nat)(hk:Nat.blt k H.length=true)(hH:H.getD k (λ_=>True)=gm v bs e)
 (h:oo v bs.length→v.oneCell'=true→TL P w0 F n ops Q l D L H):TL P w0 F n ops Q l D L H:=wW (λw m=>m.sub_len k hk hH) λ⟨h1,h2⟩=>h h1 h2
end
theorem rM{v:Value}{z:Array Value}(h:v.oneCell'=true)(hz:z.size=1):Instr.fill (λi=>some (i*1,1)) z [(0,v)]=some #[v]:=by
 rw[Instr.fill,x9 h];simp only[gi,List.size_toArray,ax,aA,bh,hz,ne_eq,not_true_eq_false,decide_false,Bool.false_or];rw[if_neg (by simp)]
 have:(#[v].zipIdx.foldl (λcs (c,j)=>cs.setIfInBounds (0+j) c) z)=#[v]:=by
  match z,hz with
  | ⟨[x]⟩,_=>rfl
 simp only[bh]at this;simp only[Instr.fill];rw[this]
theorem AN{x:Value}{bs:List UInt8}{F:Hl}(hx:IsW x bs F)(i:Nat){g T:Nat}{B:List HP}(hi:Nat.blt i B.length=true)(e:B.getD i (λ_=>True)=aj g [x] T): ∀h,Dj h F→bH B h→LP (.slice (some ⟨g,0,none⟩) 1 1) [bs] (jn h F):=λh d s=>
 .inr (.inr ⟨g,0,1,[x],T,(0,0),rfl,aP _,by decide,rr i hi e h d s,λj hj=>by
  obtain rfl:j=0:=by simpa using hj
  exact⟨[x],rfl,rfl,x,rfl,hx.more d⟩⟩)
theorem GZ(i n:Nat){g T:Nat}{bs:List UInt8}{B:List HP}{F:Hl}(hn:bs.length=n)(hl:n≤9223372036854775807)(hi:Nat.blt i B.length=true)(e:B.getD i (λ_=>True)=aj g (ek bs) T): ∀h,Dj h F→bH B h→IsB (.slice (some ⟨g,0,none⟩) n n) bs (jn h F):=by
 subst hn;exact If i hl hi e
def ej(us:List Value)(ls:List (List UInt8))(e:Nat):HP:=λh=>us.length=ls.length∧bH (List.zipWith (λu l=>gm u l e) us ls) h
abbrev lJ(te e:Nat)(v:Value)(ls:List (List UInt8)):HP:=pack λus:List Value=>[own v ls.length us te 1,ej us ls e]
theorem ui{α β γ:Type}(f:α→β→γ): ∀(us:List α) (ls:List β) (u:α) (l:β),us.length=ls.length→List.zipWith f (us++[u]) (ls++[l])=List.zipWith f us ls++[f u l]
 | [],[],_,_,_=>rfl
 | [],_::_,_,_,h=>by simp at h
 |_::_,[],_,_,h=>by simp at h
 |x::us,y::ls,u,l,h=>by simp[ui f us ls u l (by simpa using h)]
theorem sR{us:List Value}{ls:List (List UInt8)}{e:Nat}{u:Value}{l:List UInt8}{H:List HP}{h:Hl}(s:bH (ej us ls e::gm u l e::H) h):bH (ej (us++[u]) (ls++[l]) e::H) h:=by
 have t:=mf.2 s;refine cA t (λh' x=>?_) λ_ x=>x
 obtain⟨h1,h2,d,rfl,⟨hl,a⟩,b⟩:=x;refine⟨by simp[hl],?_⟩;rw[ui _ _ _ _ _ hl];exact(bY _ _).2 ⟨h1,h2,d,rfl,a,qj b⟩
theorem yb{e:Nat}{H:List HP}{h:Hl}(s:bH H h):bH (ej [] [] e::H) h:=⟨em,h,Bu h,(p2 h).symm,⟨rfl,trivial⟩,s⟩
theorem vV: ∀(us:List Value) (ls:List (List UInt8)) (e:Nat) (h:Hl),us.length=ls.length→bH (List.zipWith (λu l=>gm u l e) us ls) h→∀(j:Nat) (hj:j<ls.length),∃u,us[j]?=some u∧∃h1 h2,Dj h1 h2∧h=jn h1 h2∧gm u ls[j] e h1
 | [],[],_,_,_,_,j,hj=>by simp at hj
 | [],_::_,_,_,h,_,_,_=>by simp at h
 |_::_,[],_,_,h,_,_,_=>by simp at h
 |u::us,l::ls,e,h,hl,s,0,_=>by
  obtain⟨h1,h2,d,rfl,a,_⟩:=s;exact⟨u,rfl,h1,h2,d,rfl,a⟩
 |u::us,l::ls,e,h,hl,s,j+1,hj=>by
  obtain⟨h1,h2,d,rfl,_,b⟩:=s;obtain⟨u',e1,g1,g2,d',rfl,a⟩:=vV us ls e h2 (by simpa using hl) b j (by simpa using hj);refine⟨u',by simpa using e1,g1,jn h1 g2,?_,?_,a⟩
  · obtain⟨q1,q2⟩:=mO.1 d
    exact mO.2 ⟨q1.symm,d'⟩
  · rw[mJ d,iM,mJ (mO.1 d).2]
theorem zQ{v:Value}{bs:List UInt8}{e:Nat}{h1 G:Hl}(a:gm v bs e h1)(hG:Le h1 G):IsB v bs G:=by
 rcases a with⟨x1,x2,_⟩| ⟨g,off,cap,cur,x1,x2,x3,x4,x5,x6⟩
 · exact .inl ⟨x1,x2⟩
 · refine .inr ⟨g,off,cap,cur.toList,e,(0,0),x1,x3,by simpa [maxLen]using x4,hG _ _ (by rw[x2];simp[sg]),λj hj=>?_⟩
   have e1:=congrArg (λl:List Value=>l[j]?) x6;simp only[List.getElem?_take,if_pos hj,List.getElem?_drop]at e1;rw[e1];simp[ek,List.getD_eq_getElem?_getD,hj]
theorem s5(te e:Nat){H:List HP}{h:Hl}(s:bH H h):bH (lJ te e (.slice none 0 0) []::H) h:=bi (p:=λus:List Value=>[own (.slice none 0 0) 0 us te 1,ej us [] e]) [] (fR te 1 (yb s))
theorem s7{te e:Nat}{v' u:Value}{us:List Value}{ls:List (List UInt8)}{l:List UInt8}{H:List HP}{h:Hl}(s:bH (own v' (ls.length+1) (us++[u]) te 1::ej us ls e::gm u l e::H) h):bH (lJ te e v' (ls++[l])::H) h:=
 bi (p:=λus:List Value=>[own v' (ls++[l]).length us te 1,ej us (ls++[l]) e]) (us++[u]) (cA s (λ_ x=>by simpa using x) λ_ x=>sR x)
section
variable {P:Program} {w0:World} {F:Hl} {n:Nat} {ops:Array Oper} {Q:QQ} {D:List Deferred} {L:List (Nat×Value)} {H:List HP} {l:List Oper}
theorem TL.recsOpen{te e:Nat}{v:Value}{ls:List (List UInt8)}(h: ∀us,TL P w0 F n ops Q l D L (own v ls.length us te 1::ej us ls e::H)):TL P w0 F n ops Q l D L (lJ te e v ls::H):=
 Bq (λ_ s=>ff s) h
abbrev Jc:= @TL.recsOpen
theorem s6{te e:Nat}{v:Value}{ls:List (List UInt8)}{h:Hl}(s:lJ te e v ls h):oo v ls.length∧v.oneCell'=true:=by
 obtain⟨us,g1,g2,d2,rfl,a1,_⟩:=s;rcases a1 with⟨q0,⟨q1,q2,_⟩| ⟨g,cap,cur,q1,_⟩⟩
 · subst q1
   have:ls=[]:=List.eq_nil_of_length_eq_zero q2;subst this;exact⟨⟨_,_,rfl⟩,rfl⟩
 · subst q1;exact⟨⟨_,_,rfl⟩,rfl⟩
theorem TL.recsLen{te e:Nat}{v:Value}{ls:List (List UInt8)}(k:Nat)(hk:Nat.blt k H.length=true)(hH:H.getD k (λ_=>True)=lJ te e v ls)(h:oo v ls.length→v.oneCell'=true→TL P w0 F n ops Q l D L H):TL P w0 F n ops Q l D L H:=
 wW (p:=oo v ls.length∧v.oneCell'=true) (λw ⟨h,d,e',x⟩=>by
  obtain⟨h1,h2,d',rfl,a,_⟩:=eI k (lb hk) x;rw[hH]at a
  exact s6 a) λ⟨h1,h2⟩=>h h1 h2
end
end Leg
namespace Leg
open Go Codec Api
section
variable {P:Program} {w0:World} {F:Hl} {n:Nat} {L:List (Nat×Value)} {H:List HP}
theorem TE.ret3{fn:Func}{post:Ending→List HP→Prop}{t t' t'':Nat}{v v' v'':Value}(hr:fn.results=#[.tmp t, .tmp t', .tmp t''])(e:lk L t=some v)(e':lk L t'=some v')(e'':lk L t''=some v'')(h:post (.returned (.tuple #[v,v',v''])) H):
 TE w0 F n (bodyPost P fn (jq post w0 F)) .ret [] L H:=λa w f s m=>by
 refine bodyPost_ret (results_tmp3 hr _ _ _) f.2.1 ⟨s,H,m,?_⟩;have h1:=f.eval (x:= .tmp t) e;have h2:=f.eval (x:= .tmp t') e';have h3:=f.eval (x:= .tmp t'') e'';rw[show a.tmps.getD t undef=v from h1,show a.tmps.getD t' undef=v' from h2,show a.tmps.getD t'' undef=v'' from h3];exact h
abbrev my:= @TE.ret3
end
theorem p9{l:List UInt8}{j:Nat}(h:j<l.length):(ek l)[j]?=some (.int .u8 (((l.getD j 0).toNat:Nat):Int)):=by simp[ek,List.getD_eq_getElem?_getD,h]
theorem Ip{a:Addr}{m c k:Nat}(hc:0<c):jC (.slice (some a) m c) 0 k= .slice (some a) k c:=by
 simp only[jC,if_neg (show ¬c=0 by omega),Option.map_some,M8];rfl
end Leg
namespace Leg
open Go Codec Api
section
variable {P:Program} {w0:World} {F:Hl} {n:Nat} {ops:Array Oper} {Q:QQ} {D:List Deferred} {L:List (Nat×Value)} {H:List HP} {o:Oper} {l:List Oper} {d:Nat} {S:World→Prop}
end
end Leg
end

section
namespace Go.Proofs.YtjblgopghhgflaaGreat
open Go Leg Codec Api
theorem sv:(Tryz.prog.info? 61).map (·.size)=some 870:=by kernel_rfl
theorem oT:(Tryz.prog.info? 116).map (·.size)=some 875:=by kernel_rfl
theorem sX:(Tryz.prog.info? 121).map (·.size)=some 870:=by kernel_rfl
theorem IM:NM 168:=nk Tryz.func168
theorem KQ:NM 179:=nk Tryz.func179
theorem jM(w:Int):
 DT 157 #[(.int .i64 (w))] T0 [] (RI (.bool (cH w)) []):=by
 refine BD 9 Tryz.func157 rfl rfl rfl λw0 F hF=>sr λ_ J1=>PS ?_
 refine nx J1 (sr λ_ J2=>P2 ?_);refine am ?_ ?_<;>intro h4
 iterate 5 refine PS ?_
 refine nx J2 (ai (aq rfl rfl ?_));exact⟨congrArg Value.bool (by unfold cH;first| (rw[decide_eq_decide];omega)| (symm;rw[decide_eq_false_iff_not];omega)| (symm;rw[decide_eq_true_iff];omega)),rfl⟩;refine PS ?_;refine UF ?_;refine UF ?_;refine P2 ?_;refine nx J2 (ai (aq rfl rfl ?_));exact⟨congrArg Value.bool (by unfold cH;first| (rw[decide_eq_decide];omega)| (symm;rw[decide_eq_false_iff_not];omega)| (symm;rw[decide_eq_true_iff];omega)),rfl⟩
theorem kE(w:Int):
 DT 79 #[(.int .i64 (w))] T0 [] (RI (.bool (cH w)) []):=by
 refine BD 9 Tryz.func79 rfl rfl rfl λw0 F hF=>sr λ_ J1=>PS ?_
 refine nx J1 (sr λ_ J2=>P2 ?_);refine am ?_ ?_<;>intro h4
 iterate 5 refine PS ?_
 refine nx J2 (ai (aq rfl rfl ?_));exact⟨congrArg Value.bool (by unfold cH;first| (rw[decide_eq_decide];omega)| (symm;rw[decide_eq_false_iff_not];omega)| (symm;rw[decide_eq_true_iff];omega)),rfl⟩;refine PS ?_;refine UF ?_;refine UF ?_;refine P2 ?_;refine nx J2 (ai (aq rfl rfl ?_));exact⟨congrArg Value.bool (by unfold cH;first| (rw[decide_eq_decide];omega)| (symm;rw[decide_eq_false_iff_not];omega)| (symm;rw[decide_eq_true_iff];omega)),rfl⟩
theorem gV(w:Int):
 DT 117 #[(.int .i64 (w))] T0 [] (RI (.bool (cH w)) []):=by
 refine BD 9 Tryz.func117 rfl rfl rfl λw0 F hF=>sr λ_ J1=>PS ?_
 refine nx J1 (sr λ_ J2=>P2 ?_);refine am ?_ ?_<;>intro h4
 iterate 5 refine PS ?_
 refine nx J2 (ai (aq rfl rfl ?_));exact⟨congrArg Value.bool (by unfold cH;first| (rw[decide_eq_decide];omega)| (symm;rw[decide_eq_false_iff_not];omega)| (symm;rw[decide_eq_true_iff];omega)),rfl⟩;refine PS ?_;refine UF ?_;refine UF ?_;refine P2 ?_;refine nx J2 (ai (aq rfl rfl ?_));exact⟨congrArg Value.bool (by unfold cH;first| (rw[decide_eq_decide];omega)| (symm;rw[decide_eq_false_iff_not];omega)| (symm;rw[decide_eq_true_iff];omega)),rfl⟩
theorem qI(key n:Int):
 DT 161 #[(.int .i64 (key)),(.int .i64 (n))] T0 [] (RI (.bool (we key n)) []):=by
 refine BD 19 Tryz.func161 rfl rfl rfl λw0 F hF=>sr λ_ J1=>PS ?_
 refine nx J1 (sr λ_ J2=>P2 ?_);refine am ?_ ?_<;>intro h6;refine P3 ?_;refine am ?_ ?_<;>intro h9;refine P4 ?_;refine am ?_ ?_<;>intro h13;refine P3 ?_;refine CE DI (kK n) ID ?_;refine P2 ?_;refine nx J2 (ai (WK [] (aq rfl rfl ?_)));exact⟨congrArg Value.bool (by simp[we,mn, *]),rfl⟩;refine P2 ?_;refine UF ?_;refine UF ?_;refine P2 ?_;refine nx J2 (ai (WK [] (aq rfl rfl ?_)));exact⟨congrArg Value.bool (by simp[we,mn, *]),rfl⟩;refine P2 ?_;refine UF ?_;refine UF ?_;refine P2 ?_;refine UF ?_;refine UF ?_;refine P2 ?_;refine nx J2 (ai (WK [] (aq rfl rfl ?_)));exact⟨congrArg Value.bool (by simp[we,mn, *]),rfl⟩;refine PS ?_;refine UF ?_;refine UF ?_;refine P2 ?_;refine UF ?_;refine UF ?_;refine P2 ?_;refine UF ?_;refine UF ?_;refine P2 ?_;refine nx J2 (ai (WK [] (aq rfl rfl ?_)));exact⟨congrArg Value.bool (by simp[we,mn, *]),rfl⟩
theorem Fo(b off T:Nat)(cs:List Value)(n:Int)(h:cs[off]?=some (.int .i64 n)):
 DT 163 #[(.pointer (some ⟨b,off,none⟩))] T0 [aj b (cs) T] (RI (.tuple #[.int .i64 n, .pointer (some ⟨b,off,none⟩)]) [aj b cs T]):=by
 refine BD 11 Tryz.func163 rfl rfl rfl λw0 F hF=>sr λ_ J1=>P2 ?_
 refine nx J1 (aa λ_ J2=>D1 0 bf ?_);refine PD 0 ?_;refine PD 1 ?_;refine ta 2 rfl (a9 (r:=off) rfl mM rfl aO rfl rfl) ?_;refine LX 3 Y3 (.int .i64 (n)) ?_ (hc:=by exact h);refine PD 4 ?_;refine PD 5 ?_;refine ta 6 rfl (a9 (r:=off) rfl mM rfl aO rfl rfl) ?_;refine PD 7 ?_;refine PD 8 ?_;exact DN (ac J2 (ai (WK [0] (ii rfl rfl rfl ⟨rfl,rfl⟩))))
theorem FB(b off T:Nat)(cs:List Value)(n:Int)(h:cs[off+1]?=some (.int .i64 n)):
 DT 164 #[(.pointer (some ⟨b,off,none⟩))] T0 [aj b (cs) T] (RI (.tuple #[.int .i64 n, .pointer (some ⟨b,off+1,none⟩)]) [aj b cs T]):=by
 refine BD 11 Tryz.func164 rfl rfl rfl λw0 F hF=>sr λ_ J1=>P2 ?_
 refine nx J1 (aa λ_ J2=>D1 0 bf ?_);refine PD 0 ?_;refine PD 1 ?_;refine ta 2 rfl (a9 (r:=off+1) rfl mM rfl aO rfl rfl) ?_;refine LX 3 Y3 (.int .i64 (n)) ?_ (hc:=by exact h);refine PD 4 ?_;refine PD 5 ?_;refine ta 6 rfl (a9 (r:=off+1) rfl mM rfl aO rfl rfl) ?_;refine PD 7 ?_;refine PD 8 ?_;exact DN (ac J2 (ai (WK [0] (ii rfl rfl rfl ⟨rfl,rfl⟩))))
theorem Cy(b off T tb:Nat)(cs:List Value)(g:Vector Int 5)(to':Int)(ht:0≤to'∧to'<5)(h:(cs.drop (off+2)).take 5=ints g.toList):
 DT 165 #[(.pointer (some ⟨b,off,none⟩)),(.pointer (some ⟨tb,0,none⟩))] T0 [aj b (cs) T,aj tb [(.int .i64 (to'))] 3] (RI (.tuple #[.int .i64 (g.toList.foldl (λs g=>fZ (s+g)) 0), .pointer (some ⟨b,off+2+to'.toNat,none⟩)]) [aj b cs T,aj tb [.int .i64 to'] 3]):=by
 refine BD 25 Tryz.func165 rfl rfl rfl λw0 F hF=>sr λ_ J1=>P2 ?_
 refine nx J1 (sr λ_ J2=>PS ?_);refine nx J2 (aa λ_ J3=>sr λ_ J4=>P2 ?_);refine tp (a9 (r:=off+2) rfl mM rfl fO rfl rfl) ?_;refine tp (aK (vs:=ints g.toList) rfl l6 rfl fO rfl (RO 0) (iV g) h) ?_;refine PS ?_;refine nx J4 (ap ?_)
 refine bB (α:=(Nat)×(Int)) (λ⟨k,s⟩=>k≤5∧s=(g.toList.take k).foldl (λs g=>fZ (s+g)) 0) (λ⟨k,s⟩=>[(0,(.pointer (some ⟨b,off,none⟩))),(1,(.pointer (some ⟨tb,0,none⟩))),(3,(.int .i64 0)),(4,(.pointer none)),(5,(.int .i64 (s))),(11,(.agg (ints g.toList).toArray)),(12,(.int .i64 (((k:Nat):Int))))]) (λ⟨k,s⟩=>[aj b (cs) T,aj tb [(.int .i64 (to'))] 3]) (λ⟨k,s⟩=>5-k) (0,0)
  ⟨aN _,rfl⟩ SB
  (λ_ s=>s) (λ⟨k,s⟩ hinv=>?_)
 obtain⟨hk,hs⟩:=hinv;refine sr λ_ J5=>PS ?_
 refine am ?_ ?_<;>intro h13;refine nx J5 (aa λ_ J6=>CY (qx J6 (aa λ_ J7=>ap (sr λ_ J8=>tp (qU (cs:=ints g.toList) (v:=Value.int .i64 (g[k]'(by omega))) (r:=k) rfl l6 Y3 rfl aO rfl rfl (by omega) (by omega) (by omega) (jU g (by omega))) ?_))));refine PS ?_;refine nx J8 (af (P2 ?_));refine tp (cw (r:=(fZ (s+(g[k]'(by omega))))) rfl rfl rfl rfl) ?_;refine PS ?_;refine au (ag (ac J7 (af (AD ?_))));refine PS ?_;refine au ?_
 exact aJ ((k+1,(fZ (s+(g[k]'(by omega))))):(Nat)×(Int)) ⟨by omega,by rw[bW (by simp;omega),dU,←hs];simp⟩ (by show 5- (k+1)<5-k;omega)
  SB
  (λ_ s=>s)
 refine nx J5 (aa λ_ J9=>CN (aZ (aB (aB (bw (ac J3 (aa λ_ J10=>D1 1 bf ?_)))))));refine PD 0 ?_;refine PD 1 ?_;refine LX 2 Y3 (.int .i64 (to')) ?_ (hc:=by exact rfl);refine PD 3 ?_;refine ta 4 rfl (a9 (r:=off+2) rfl mM rfl fO rfl rfl) ?_;refine IY 5 (off+2+(to').toNat) l6 aO ?_;refine PD 6 ?_;refine PD 7 ?_;refine DN (ac J10 (ai (WK [0,0] (ii rfl rfl rfl ?_))));exact⟨by rw[hs,aC (by simp;omega)],rfl⟩
theorem yY(x:RowT)(key n:Int)(hk:0≤key∧key<4)(hn:1≤n∧n≤1099511627776):
 DT 162 #[(.agg (ints x.flat).toArray),(.int .i64 (key)),(.int .i64 (n)),(.func (.func 163) #[] #[])] T0 [] (RI (.tuple #[.agg (ints (ki x key n (dD x key).inn {dD x key with inn:=fZ ((dD x key).inn+n)}).1.flat).toArray, .int .i64 (ki x key n (dD x key).inn {dD x key with inn:=fZ ((dD x key).inn+n)}).2]) []):=by
 refine BD 36 Tryz.func162 rfl rfl rfl λw0 F hF=>?_
 have hkb:mn key=true:=decide_eq_true hk;have hcell:dD x key=x.cells[key.toNat]'(by omega):=by rw[dD,dif_pos hkb]
 refine sr λ_ J1=>XY (ints x.flat) λb4=>?_
 refine XZ uj (ints RowT.zero.flat) λb8=>?_
 refine PS ?_;refine nx J1 (sr λ_ J2=>P2 ?_);refine FA 1 dS kR ?_;refine IX (1+key.toNat*7) zw fJ ?_;refine TL.callRv (ab rfl) rfl rfl rfl rfl K7 rfl (Fo b4 (1+key.toNat*7) 60 (ints x.flat) x.cells[key.toNat].inn (tO x (key.toNat*7) (by omega) (by omega) (od bJ x.cells (i:=key.toNat) 0 (by omega) (by omega) (by decide) (xe _ rfl)))) (λ_ s=>az [1] rfl s) (λ_ _ _=>trivial) (λvR HR hR=>?_);obtain⟨rfl,rfl⟩:=hR;refine P4 ?_;refine PS ?_;refine nx J2 (aa λ_ J3=>sr λ_ J4=>P2 ?_);refine tp (jE (r:=(1099511627776-n)) rfl rfl rfl (bI (by omega) (by omega))) ?_;refine PS ?_;refine am ?_ ?_<;>intro h23;refine nx J4 (CY (sr λ_ J5=>BV ((ints RowT.zero.flat).toArray) ?_));refine SW 1 ba ah ?_;refine PS ?_;refine nx J5 (ai (ae (RT 1 [] dS ba (ah _) ?_)));exact⟨by rw[ki,hcell,if_pos h23],rfl⟩;refine nx J4 (CN (qx J3 (sr λ_ J6=>P2 ?_)));refine LT 0 Y3 (.int .i64 ((x.cells[key.toNat]'(by omega)).inn)) ?_ (hc:=by exact tO x (key.toNat*7) (by omega) (by omega) (od bJ x.cells (i:=key.toNat) 0 (by omega) (by omega) (by decide) (xe (x.cells[key.toNat]'(by omega)) rfl)));refine PS ?_;refine tp (cw (r:=(fZ (((x.cells[key.toNat]'(by omega)).inn)+n))) rfl rfl rfl rfl) ?_;refine PS ?_
 refine bT (i:=0) (ab rfl) rfl rfl rfl rfl rfl aO rfl rfl (LB (ah _)) (MJ x (key.toNat*7) (by omega) (by omega) (FV bJ x.cells (i:=key.toNat) 0 (by omega) (by omega) (by decide) (CellT.set_inn _ rfl _))) rfl (nx J6 (sr λ_ J7=>FA 0 dS aO ?_));refine LT 0 Y3 (.int .i64 (x.version)) ?_ (hc:=by exact cC _ rfl);refine tp (cw (r:=(fZ (x.version+1))) rfl rfl rfl rfl) ?_;refine FA 0 dS aO ?_;refine bT (i:=0) (ab rfl) rfl rfl rfl rfl rfl aO rfl rfl (LB (ah _)) (wl _ rfl _) rfl (nx J7 (sr λ_ J8=>LW 0 dS ba ah ?_));refine SW 1 ba ah ?_;refine PS ?_;refine nx J8 (ai (RT 1 [] dS ba (ah _) ?_));refine⟨?_,rfl⟩;rw[ki,hcell,if_neg h23,kJ,dif_pos hkb]
theorem yZ(x:RowT)(key n:Int)(hk:0≤key∧key<4)(hn:1≤n∧n≤1099511627776):
 DT 162 #[(.agg (ints x.flat).toArray),(.int .i64 (key)),(.int .i64 (n)),(.func (.func 164) #[] #[])] T0 [] (RI (.tuple #[.agg (ints (ki x key n (dD x key).out {dD x key with out:=fZ ((dD x key).out+n)}).1.flat).toArray, .int .i64 (ki x key n (dD x key).out {dD x key with out:=fZ ((dD x key).out+n)}).2]) []):=by
 refine BD 36 Tryz.func162 rfl rfl rfl λw0 F hF=>?_
 have hkb:mn key=true:=decide_eq_true hk;have hcell:dD x key=x.cells[key.toNat]'(by omega):=by rw[dD,dif_pos hkb]
 refine sr λ_ J1=>XY (ints x.flat) λb4=>?_
 refine XZ uj (ints RowT.zero.flat) λb8=>?_
 refine PS ?_;refine nx J1 (sr λ_ J2=>P2 ?_);refine FA 1 dS kR ?_;refine IX (1+key.toNat*7) zw fJ ?_;refine TL.callRv (ab rfl) rfl rfl rfl rfl K6 rfl (FB b4 (1+key.toNat*7) 60 (ints x.flat) x.cells[key.toNat].out (tO x (key.toNat*7+1) (by omega) (by omega) (od bJ x.cells (i:=key.toNat) 1 (by omega) (by omega) (by decide) (xd _ rfl)))) (λ_ s=>az [1] rfl s) (λ_ _ _=>trivial) (λvR HR hR=>?_);obtain⟨rfl,rfl⟩:=hR;refine P4 ?_;refine PS ?_;refine nx J2 (aa λ_ J3=>sr λ_ J4=>P2 ?_);refine tp (jE (r:=(1099511627776-n)) rfl rfl rfl (bI (by omega) (by omega))) ?_;refine PS ?_;refine am ?_ ?_<;>intro h23;refine nx J4 (CY (sr λ_ J5=>BV ((ints RowT.zero.flat).toArray) ?_));refine SW 1 ba ah ?_;refine PS ?_;refine nx J5 (ai (ae (RT 1 [] dS ba (ah _) ?_)));exact⟨by rw[ki,hcell,if_pos h23],rfl⟩;refine nx J4 (CN (qx J3 (sr λ_ J6=>P2 ?_)));refine LT 0 Y3 (.int .i64 ((x.cells[key.toNat]'(by omega)).out)) ?_ (hc:=by exact tO x (key.toNat*7+1) (by omega) (by omega) (od bJ x.cells (i:=key.toNat) 1 (by omega) (by omega) (by decide) (xd (x.cells[key.toNat]'(by omega)) rfl)));refine PS ?_;refine tp (cw (r:=(fZ (((x.cells[key.toNat]'(by omega)).out)+n))) rfl rfl rfl rfl) ?_;refine PS ?_
 refine bT (i:=0) (ab rfl) rfl rfl rfl rfl rfl aO rfl rfl (LB (ah _)) (MJ x (key.toNat*7+1) (by omega) (by omega) (FV bJ x.cells (i:=key.toNat) 1 (by omega) (by omega) (by decide) (CellT.set_out _ rfl _))) rfl (nx J6 (sr λ_ J7=>FA 0 dS aO ?_));refine LT 0 Y3 (.int .i64 (x.version)) ?_ (hc:=by exact cC _ rfl);refine tp (cw (r:=(fZ (x.version+1))) rfl rfl rfl rfl) ?_;refine FA 0 dS aO ?_;refine bT (i:=0) (ab rfl) rfl rfl rfl rfl rfl aO rfl rfl (LB (ah _)) (wl _ rfl _) rfl (nx J7 (sr λ_ J8=>LW 0 dS ba ah ?_));refine SW 1 ba ah ?_;refine PS ?_;refine nx J8 (ai (RT 1 [] dS ba (ah _) ?_));refine⟨?_,rfl⟩;rw[ki,hcell,if_neg h23,kJ,dif_pos hkb]
theorem wJ(x:RowT)(key n:Int)(hk:0≤key∧key<4)(hn:1≤n∧n≤1099511627776)(tb:Nat)(to':Int)(ht:0≤to'∧to'<5):
 DT 162 #[(.agg (ints x.flat).toArray),(.int .i64 (key)),(.int .i64 (n)),(.func (.func 165) #[] #[(.pointer (some ⟨tb,0,none⟩))])] T0 [aj tb [(.int .i64 (to'))] 3] (RI (.tuple #[.agg (ints (ki x key n (F3 (dD x key)) (vH (dD x key) to' (fZ (kL (dD x key) to'+n)))).1.flat).toArray, .int .i64 (ki x key n (F3 (dD x key)) (vH (dD x key) to' (fZ (kL (dD x key) to'+n)))).2]) [aj tb [.int .i64 to'] 3]):=by
 refine Leg.Does.body (vs:=[(.agg (ints x.flat).toArray),(.int .i64 (key)),(.int .i64 (n)),(.func (.func 165) #[] #[(.pointer (some ⟨tb,0,none⟩))])]) (n:=36) Tryz.func162 rfl rfl rfl (λw0 F hF=>?_);have hkb:mn key=true:=decide_eq_true hk;have hcell:dD x key=x.cells[key.toNat]'(by omega):=by rw[dD,dif_pos hkb]
 have htb:cH to'=true:=decide_eq_true ht;refine sr λ_ J1=>?_
 refine TL.box (ab rfl) rfl rfl rfl rfl (λb4=>?_);change TL _ _ _ _ _ _ _ _ _ [aj b4 (ints x.flat) 60,aj tb [(.int .i64 (to'))] 3];refine pA (ab rfl) rfl rfl rfl uj (λb8=>?_);change TL _ _ _ _ _ _ _ _ _ [aj b8 (ints RowT.zero.flat) 60,aj b4 (ints x.flat) 60,aj tb [(.int .i64 (to'))] 3];refine oD ?_;refine nx J1 ?_;refine sr λ_ J2=>?_
 refine mv ?_;refine mv ?_;refine tp (a9 (r:=1) rfl dS rfl kR rfl rfl) ?_;refine tp (pC (r:=1+key.toNat*7) rfl zw fJ rfl rfl (by omega) (by omega) (by omega)) ?_;refine TL.callRv (ab rfl) rfl rfl rfl rfl K0 rfl (Cy b4 (1+key.toNat*7) 60 tb (ints x.flat) x.cells[key.toNat].given to' ht (Bs x (key.toNat*7+2) (by omega) (by omega) (j7 bJ x.cells (i:=key.toNat) 2 (by omega) (by omega) (by decide) (CellT.sub_given (x.cells[key.toNat]'(by omega)) 0 rfl (by decide) (bk (iV ((x.cells[key.toNat]'(by omega)).given))))))) (λ_ s=>az [1,1] rfl s) (λ_ _ _=>trivial) (λvR HR hR=>?_);obtain⟨rfl,rfl⟩:=hR;refine mv ?_;refine tp (lp (vs:=[(.int .i64 ((F3 (x.cells[key.toNat]'(by omega))))),(.pointer (some ⟨b4,1+key.toNat*7+2+to'.toNat,none⟩))]) rfl rfl rfl) ?_;refine tp (lp (vs:=[(.int .i64 ((F3 (x.cells[key.toNat]'(by omega))))),(.pointer (some ⟨b4,1+key.toNat*7+2+to'.toNat,none⟩))]) rfl rfl rfl) ?_;refine oD ?_;refine oD ?_;refine nx J2 ?_;refine aa λ_ J3=>?_
 refine sr λ_ J4=>?_
 refine mv ?_;refine mv ?_;refine tp (jE (r:=(1099511627776-n)) rfl rfl rfl (bI (by omega) (by omega))) ?_;refine tp (PV.gtr rfl rfl rfl) ?_;refine am (λh23=>?_) (λh23=>?_);refine nx J4 ?_;refine mC rfl ?_;refine sr λ_ J5=>?_
 refine tp (jH (cells:=(ints RowT.zero.flat).toArray) rfl rfl (by as_aux_lemma=>kernel_rfl)) ?_;refine ck (vs:=ints RowT.zero.flat) (i:=2) (ab rfl) rfl rfl rfl rfl rfl (by rw[(ah RowT.zero)];exact ba) (bG _) rfl rfl (by have h0:=(ah RowT.zero);have h1:=(ah RowT.zero);omega) (cz ((ah RowT.zero).trans (ah RowT.zero).symm)) rfl ?_;refine oD ?_;refine nx J5 ?_;refine ai ?_;refine ae ?_;refine lj (H':=[aj tb [(.int .i64 (to'))] 3]) rfl rfl rfl dS rfl ba (eR 2 rfl rfl) (ah RowT.zero) (λ_ s=>ak [1] rfl s) ?_;exact⟨by rw[ki,hcell,if_pos h23],rfl⟩;refine nx J4 ?_;refine Ea rfl ?_;refine aQ ?_;refine ac J3 ?_;refine sr λ_ J6=>?_
 refine mv ?_;refine tp (fN rfl rfl) ?_;refine tp (gR (v:=(.int .i64 ((((x.cells[key.toNat]'(by omega)).given)[to'.toNat]'(by omega))))) rfl Y3 rfl rfl (eR 0 rfl rfl) (tO x (key.toNat*7+2+to'.toNat) (by omega) (by omega) (od bJ x.cells (i:=key.toNat) (2+to'.toNat) (by omega) (by omega) (by omega) (L1 (x.cells[key.toNat]'(by omega)) (to'.toNat) (by omega) (by omega) (jU ((x.cells[key.toNat]'(by omega)).given) (by omega)))))) ?_;refine mv ?_;refine tp (cw (r:=(fZ ((((x.cells[key.toNat]'(by omega)).given)[to'.toNat]'(by omega))+n))) rfl rfl rfl rfl) ?_;refine tp (fN rfl rfl) ?_;refine bT (i:=0) (ab rfl) rfl rfl rfl rfl rfl aO rfl rfl (by have h0:=(ah x);omega) (MJ x (key.toNat*7+2+to'.toNat) (by omega) (by omega) (FV bJ x.cells (i:=key.toNat) (2+to'.toNat) (by omega) (by omega) (by omega) (CellT.st_given (x.cells[key.toNat]'(by omega)) (to'.toNat) (by omega) (by omega) (xj ((x.cells[key.toNat]'(by omega)).given) (by omega) _)))) rfl ?_;refine nx J6 ?_;refine sr λ_ J7=>?_
 refine tp (a9 (r:=0) rfl dS rfl aO rfl rfl) ?_;refine tp (gR (v:=(.int .i64 (x.version))) rfl Y3 rfl rfl (eR 0 rfl rfl) (cC (RowT.mk x.version (x.cells.set key.toNat (CellT.mk ((x.cells[key.toNat]'(by omega)).inn) ((x.cells[key.toNat]'(by omega)).out) (((x.cells[key.toNat]'(by omega)).given).set to'.toNat (fZ ((((x.cells[key.toNat]'(by omega)).given)[to'.toNat]'(by omega))+n)) (by omega))) (by omega)) x.heir x.left) rfl)) ?_;refine tp (cw (r:=(fZ (x.version+1))) rfl rfl rfl rfl) ?_;refine tp (a9 (r:=0) rfl dS rfl aO rfl rfl) ?_;refine bT (i:=0) (ab rfl) rfl rfl rfl rfl rfl aO rfl rfl (by have h0:=(ah (RowT.mk x.version (x.cells.set key.toNat (CellT.mk ((x.cells[key.toNat]'(by omega)).inn) ((x.cells[key.toNat]'(by omega)).out) (((x.cells[key.toNat]'(by omega)).given).set to'.toNat (fZ ((((x.cells[key.toNat]'(by omega)).given)[to'.toNat]'(by omega))+n)) (by omega))) (by omega)) x.heir x.left));omega) (wl (RowT.mk x.version (x.cells.set key.toNat (CellT.mk ((x.cells[key.toNat]'(by omega)).inn) ((x.cells[key.toNat]'(by omega)).out) (((x.cells[key.toNat]'(by omega)).given).set to'.toNat (fZ ((((x.cells[key.toNat]'(by omega)).given)[to'.toNat]'(by omega))+n)) (by omega))) (by omega)) x.heir x.left) rfl _) rfl ?_;refine nx J7 ?_;refine sr λ_ J8=>?_
 refine tp (aK (vs:=ints (RowT.mk (fZ (x.version+1)) (x.cells.set key.toNat (CellT.mk ((x.cells[key.toNat]'(by omega)).inn) ((x.cells[key.toNat]'(by omega)).out) (((x.cells[key.toNat]'(by omega)).given).set to'.toNat (fZ ((((x.cells[key.toNat]'(by omega)).given)[to'.toNat]'(by omega))+n)) (by omega))) (by omega)) x.heir x.left).flat) rfl dS rfl ba rfl (eR 0 rfl rfl) (ah (RowT.mk (fZ (x.version+1)) (x.cells.set key.toNat (CellT.mk ((x.cells[key.toNat]'(by omega)).inn) ((x.cells[key.toNat]'(by omega)).out) (((x.cells[key.toNat]'(by omega)).given).set to'.toNat (fZ ((((x.cells[key.toNat]'(by omega)).given)[to'.toNat]'(by omega))+n)) (by omega))) (by omega)) x.heir x.left)) (bk (ah (RowT.mk (fZ (x.version+1)) (x.cells.set key.toNat (CellT.mk ((x.cells[key.toNat]'(by omega)).inn) ((x.cells[key.toNat]'(by omega)).out) (((x.cells[key.toNat]'(by omega)).given).set to'.toNat (fZ ((((x.cells[key.toNat]'(by omega)).given)[to'.toNat]'(by omega))+n)) (by omega))) (by omega)) x.heir x.left)))) ?_
 refine ck (vs:=ints (RowT.mk (fZ (x.version+1)) (x.cells.set key.toNat (CellT.mk ((x.cells[key.toNat]'(by omega)).inn) ((x.cells[key.toNat]'(by omega)).out) (((x.cells[key.toNat]'(by omega)).given).set to'.toNat (fZ ((((x.cells[key.toNat]'(by omega)).given)[to'.toNat]'(by omega))+n)) (by omega))) (by omega)) x.heir x.left).flat) (i:=2) (ab rfl) rfl rfl rfl rfl rfl (by rw[(ah (RowT.mk (fZ (x.version+1)) (x.cells.set key.toNat (CellT.mk ((x.cells[key.toNat]'(by omega)).inn) ((x.cells[key.toNat]'(by omega)).out) (((x.cells[key.toNat]'(by omega)).given).set to'.toNat (fZ ((((x.cells[key.toNat]'(by omega)).given)[to'.toNat]'(by omega))+n)) (by omega))) (by omega)) x.heir x.left))];exact ba) (bG _) rfl rfl (by have h0:=(ah RowT.zero);have h1:=(ah (RowT.mk (fZ (x.version+1)) (x.cells.set key.toNat (CellT.mk ((x.cells[key.toNat]'(by omega)).inn) ((x.cells[key.toNat]'(by omega)).out) (((x.cells[key.toNat]'(by omega)).given).set to'.toNat (fZ ((((x.cells[key.toNat]'(by omega)).given)[to'.toNat]'(by omega))+n)) (by omega))) (by omega)) x.heir x.left));omega) (cz ((ah RowT.zero).trans (ah (RowT.mk (fZ (x.version+1)) (x.cells.set key.toNat (CellT.mk ((x.cells[key.toNat]'(by omega)).inn) ((x.cells[key.toNat]'(by omega)).out) (((x.cells[key.toNat]'(by omega)).given).set to'.toNat (fZ ((((x.cells[key.toNat]'(by omega)).given)[to'.toNat]'(by omega))+n)) (by omega))) (by omega)) x.heir x.left)).symm)) rfl ?_;refine oD ?_;refine nx J8 ?_;refine ai ?_
 refine lj (H':=[aj tb [(.int .i64 (to'))] 3]) rfl rfl rfl dS rfl ba (eR 2 rfl rfl) (ah (RowT.mk (fZ (x.version+1)) (x.cells.set key.toNat (CellT.mk ((x.cells[key.toNat]'(by omega)).inn) ((x.cells[key.toNat]'(by omega)).out) (((x.cells[key.toNat]'(by omega)).given).set to'.toNat (fZ ((((x.cells[key.toNat]'(by omega)).given)[to'.toNat]'(by omega))+n)) (by omega))) (by omega)) x.heir x.left)) (λ_ s=>ak [1] rfl s) ?_;refine⟨?_,rfl⟩;rw[ki,hcell,if_neg h23,kJ,dif_pos hkb];simp[vH,kL,htb]
theorem Ak(x:RowT)(key n:Int):
 DT 133 #[(.agg (ints x.flat).toArray),(.int .i64 (key)),(.int .i64 (n))] T0 [] (RI (.tuple #[.agg (ints (nQ x key n).1.flat).toArray, .int .i64 (nQ x key n).2]) []):=by
 refine BD 19 Tryz.func133 rfl rfl rfl λw0 F hF=>sr λ_ J1=>XY (ints x.flat) λb3=>?_
 refine XZ uj (ints RowT.zero.flat) λb6=>?_
 refine PS ?_;refine nx J1 (aa λ_ J2=>sr λ_ J3=>P2 ?_);refine CE GC (qI key n) ID ?_;refine aX ?_ ?_<;>intro h10;have hq:=h10;unfold we mn Gv at hq;simp only[av,decide_eq_true_iff]at hq;have hk:0≤key∧key<4:=hq.1.1;have hn:1≤n∧n≤1099511627776:=⟨hq.1.2,hq.2.2⟩;refine PS ?_;refine nx J3 (CN (qx J2 (sr λ_ J4=>LW 1 dS ba ah ?_)));refine P2 ?_;refine CE GB (yY x key n hk hn) ID ?_;refine P2 ?_;refine SW 0 ba ah ?_;refine PS ?_;refine nx J4 (ai (RT 0 [] dS ba (ah _) ?_));exact⟨by simp[nQ, *],rfl⟩;refine PS ?_;refine nx J3 (CY (sr λ_ J5=>BV ((ints RowT.zero.flat).toArray) ?_));refine SW 0 ba ah ?_;refine PS ?_;refine nx J5 (ai (ae (RT 0 [] dS ba (ah _) ?_)));exact⟨by simp[nQ, *],rfl⟩
theorem Al(x:RowT)(key n:Int):
 DT 134 #[(.agg (ints x.flat).toArray),(.int .i64 (key)),(.int .i64 (n))] T0 [] (RI (.tuple #[.agg (ints (nR x key n).1.flat).toArray, .int .i64 (nR x key n).2]) []):=by
 refine BD 19 Tryz.func134 rfl rfl rfl λw0 F hF=>sr λ_ J1=>XY (ints x.flat) λb3=>?_
 refine XZ uj (ints RowT.zero.flat) λb6=>?_
 refine PS ?_;refine nx J1 (aa λ_ J2=>sr λ_ J3=>P2 ?_);refine CE GC (qI key n) ID ?_;refine aX ?_ ?_<;>intro h10;have hq:=h10;unfold we mn Gv at hq;simp only[av,decide_eq_true_iff]at hq;have hk:0≤key∧key<4:=hq.1.1;have hn:1≤n∧n≤1099511627776:=⟨hq.1.2,hq.2.2⟩;refine PS ?_;refine nx J3 (CN (qx J2 (sr λ_ J4=>LW 1 dS ba ah ?_)));refine P2 ?_;refine CE GB (yZ x key n hk hn) ID ?_;refine P2 ?_;refine SW 0 ba ah ?_;refine PS ?_;refine nx J4 (ai (RT 0 [] dS ba (ah _) ?_));exact⟨by simp[nR, *],rfl⟩;refine PS ?_;refine nx J3 (CY (sr λ_ J5=>BV ((ints RowT.zero.flat).toArray) ?_));refine SW 0 ba ah ?_;refine PS ?_;refine nx J5 (ai (ae (RT 0 [] dS ba (ah _) ?_)));exact⟨by simp[nR, *],rfl⟩
theorem yG(x:RowT)(key n to':Int):
 DT 135 #[(.agg (ints x.flat).toArray),(.int .i64 (key)),(.int .i64 (n)),(.int .i64 (to'))] T0 [] (RI (.tuple #[.agg (ints (kI x key n to').1.flat).toArray, .int .i64 (kI x key n to').2]) []):=by
 refine BD 27 Tryz.func135 rfl rfl rfl λw0 F hF=>sr λ_ J1=>XY (ints x.flat) λb4=>?_
 refine XB λb7=>?_
 refine XZ uj (ints RowT.zero.flat) λb8=>?_
 refine PS ?_;refine nx J1 (aa λ_ J2=>sr λ_ J3=>LA 1 Y3 ?_);refine CE DE (jM to') ID ?_;refine aX ?_ ?_<;>intro h11;refine PS ?_;refine P3 ?_;refine CE GC (qI key n) ID ?_;refine aX ?_ ?_<;>intro h16;have hq:=h16;unfold we mn Gv at hq;simp only[av,decide_eq_true_iff]at hq;have hk:0≤key∧key<4:=hq.1.1;have hn:1≤n∧n≤1099511627776:=⟨hq.1.2,hq.2.2⟩;have ht:0≤to'∧to'<5:=of_decide_eq_true h11;refine PS ?_;refine PS ?_;refine nx J3 (CN (qx J2 (sr λ_ J4=>LW 2 dS ba ah ?_)));refine P2 ?_;refine tp (MW rfl rfl) ?_;refine CE GB (wJ x key n hk hn b7 to' ht) (SM [1]) ?_;refine P2 ?_;refine SW 1 ba ah ?_;refine PS ?_;refine nx J4 (ai (RT 1 [] dS ba (ah _) ?_));exact⟨by simp[kI, *],rfl⟩;refine PS ?_;refine PS ?_;refine nx J3 (CY (sr λ_ J5=>BV ((ints RowT.zero.flat).toArray) ?_));refine SW 0 ba ah ?_;refine PS ?_;refine nx J5 (ai (ae (RT 0 [] dS ba (ah _) ?_)));exact⟨by simp[kI, *],rfl⟩;refine PS ?_;refine PS ?_
 iterate 4 refine UT ?_
 refine PS ?_;refine nx J3 (CY (sr λ_ J6=>BV ((ints RowT.zero.flat).toArray) ?_));refine SW 0 ba ah ?_;refine PS ?_;refine nx J6 (ai (ae (RT 0 [] dS ba (ah _) ?_)));exact⟨by simp[kI, *],rfl⟩
theorem Aj(x:RowT)(who:Int):
 DT 115 #[(.agg (ints x.flat).toArray),(.int .i64 (who))] T0 [] (dw (λr' H=>∃u,r'=u∧H=[own u (fT x who).length (ints (fT x who)) 3 1])):=by
 refine BD 27 Tryz.func115 rfl rfl rfl λw0 F hF=>sr λ_ J1=>XY (ints x.flat) λb2=>?_
 refine PS ?_;refine nx J1 (sr λ_ J2=>PS ?_);refine nx J2 (aa λ_ J3=>sr λ_ J4=>FA 29 dS fO ?_);refine tp (aK (vs:=ints x.heir.toList) rfl l6 rfl fO rfl (RO 0) (iV x.heir) (MI x 0 rfl (by decide) (bk (iV x.heir)))) ?_;refine PS ?_;refine nx J4 (ap ?_)
 refine bB (α:=(Nat)×(Value)) (λ⟨k,u⟩=>k≤5∧u.oneCell'=true) (λ⟨k,u⟩=>[(1,(.int .i64 (who))),(4,(.slice none 0 0)),(5,u),(9,(.agg (ints x.heir.toList).toArray)),(10,(.int .i64 (((k:Nat):Int))))]) (λ⟨k,u⟩=>[own u ((hX x who k).length) (ints (hX x who k)) 3 1]) (λ⟨k,u⟩=>5-k) (0,(.slice none 0 0))
  ⟨aN _,rfl⟩ SB
  (λ_ s=>fR 3 1 (ak [] rfl s)) (λ⟨k,u⟩ hinv=>?_)
 obtain⟨hk,hu⟩:=hinv;have hol:=E7 x who k;refine sr λ_ J5=>PS ?_
 refine am ?_ ?_<;>intro h11;refine nx J5 (aa λ_ J6=>CY (qx J6 (aa λ_ J7=>ap (sr λ_ J8=>PS ?_))));refine tp (qU (cs:=ints x.heir.toList) (v:=Value.int .i64 (x.heir[k]'(by omega))) (r:=k) rfl l6 Y3 rfl aO rfl rfl (by omega) (by omega) (by omega) (jU x.heir (by omega))) ?_;refine P2 ?_;refine nx J8 (sr λ_ J9=>P3 ?_);refine am ?_ ?_<;>intro h16;refine PS ?_;refine UT ?_;refine UT ?_;refine PS ?_;refine nx J9 (CY (af (P2 ?_)));refine aU (cells:=#[(.int .i64 (((k:Nat):Int)))]) (ab rfl) rfl rfl rfl jT qB rfl rfl rfl (by as_aux_lemma=>kernel_rfl) (λb23=>cG (k:=1) (news:=[(.int .i64 (((k:Nat):Int)))]) (nn':=(hX x who k).length+1) (xs':=ints (hX x who k)++[(.int .i64 (((k:Nat):Int)))]) (ab rfl) rfl rfl rfl jT qB rfl rfl rfl rfl rfl rfl (λ_ _=>jg rfl (RO 0) rfl) (by simp[Value.oneCell']) (by simp only[maxLen];omega) (by omega) (by simp) (by simp) (λv24 ov24=>PS ?_));refine au (ag (ac J7 (af (AD ?_))));refine PS ?_;refine au ?_
 exact aJ ((k+1,v24):(Nat)×(Value)) ⟨by omega,ov24⟩ (by show 5- (k+1)<5-k;omega)
  SB
  (λ_ s=>by
   show bH [own v24 (hX x who (k+1)).length (ints (hX x who (k+1))) 3 1] _;rw[show hX x who (k+1)=hX x who k++[((k:Nat):Int)]by rw[qp,if_pos (by rw[vk x who (by omega)];simp;omega)],ad,ee]
   exact ak [1] rfl s)
 refine P3 ?_;refine am ?_ ?_<;>intro h19;refine PS ?_;refine nx J9 (CY (af (P2 ?_)));refine aU (cells:=#[(.int .i64 (((k:Nat):Int)))]) (ab rfl) rfl rfl rfl jT qB rfl rfl rfl (by as_aux_lemma=>kernel_rfl) (λb23=>cG (k:=1) (news:=[(.int .i64 (((k:Nat):Int)))]) (nn':=(hX x who k).length+1) (xs':=ints (hX x who k)++[(.int .i64 (((k:Nat):Int)))]) (ab rfl) rfl rfl rfl jT qB rfl rfl rfl rfl rfl rfl (λ_ _=>jg rfl (RO 0) rfl) (by simp[Value.oneCell']) (by simp only[maxLen];omega) (by omega) (by simp) (by simp) (λv24 ov24=>PS ?_));refine au (ag (ac J7 (af (AD ?_))));refine PS ?_;refine au ?_
 exact aJ ((k+1,v24):(Nat)×(Value)) ⟨by omega,ov24⟩ (by show 5- (k+1)<5-k;omega)
  SB
  (λ_ s=>by
   show bH [own v24 (hX x who (k+1)).length (ints (hX x who (k+1))) 3 1] _;rw[show hX x who (k+1)=hX x who k++[((k:Nat):Int)]by rw[qp,if_pos (by rw[vk x who (by omega)];simp;omega)],ad,ee]
   exact ak [1] rfl s)
 refine PS ?_;refine nx J9 (CN (aQ (ag (ac J7 (af (AD ?_))))));refine PS ?_;refine au ?_
 exact aJ ((k+1,u):(Nat)×(Value)) ⟨by omega,hu⟩ (by show 5- (k+1)<5-k;omega)
  SB
  (λ_ s=>by
   show bH [own u (hX x who (k+1)).length (ints (hX x who (k+1))) 3 1] _;rw[show hX x who (k+1)=hX x who k by rw[qp,if_neg (by rw[vk x who (by omega)];simp;omega),aM]]
   exact ak [0] rfl s)
 refine nx J5 (aa λ_ J10=>CN (aZ (aB (aB (bw (ac J3 (sr λ_ J11=>P2 ?_)))))));refine nx J11 (ai (WK [0] (aq rfl rfl ?_)));obtain rfl:k=5:=by omega
 exact⟨u,rfl,rfl⟩
theorem yH(x:RowT)(who of' key:Int):
 DT 116 #[(.agg (ints x.flat).toArray),(.int .i64 (who)),(.int .i64 (of')),(.int .i64 (key))] T0 [] (RI (.tuple #[.agg (ints (jN x who of' key).1.flat).toArray, .int .i64 (jN x who of' key).2]) []):=by
 refine BD 53 Tryz.func116 rfl rfl rfl λw0 F hF=>sr λ_ J1=>XY (ints x.flat) λb4=>?_
 refine XZ HC (ints CellT.zero.flat) λb8=>?_
 refine PS ?_;refine nx J1 (aa λ_ J2=>sr λ_ J3=>PS ?_);refine CE DE (jM who) ID ?_;refine aX ?_ ?_<;>intro h11;refine PS ?_;refine P2 ?_;refine CE DE (jM of') ID ?_;refine aX ?_ ?_<;>intro h15;refine PS ?_;refine P4 ?_;refine am ?_ ?_<;>intro h20;have hkb:mn key=false:=decide_eq_false (by omega);refine P2 ?_;refine UT ?_;refine UT ?_;refine PS ?_;refine nx J3 (CY (sr λ_ J4=>BV ((ints CellT.zero.flat).toArray) ?_));refine SW 0 fJ bA ?_;refine PS ?_;refine nx J4 (ai (ae (RT 0 [] mM fJ (bA _) ?_)));exact⟨by simp[jN, *],rfl⟩;refine P4 ?_;refine am ?_ ?_<;>intro h24;have hkb:mn key=false:=decide_eq_false (by omega);refine PS ?_;refine nx J3 (CY (sr λ_ J5=>BV ((ints CellT.zero.flat).toArray) ?_));refine SW 0 fJ bA ?_;refine PS ?_;refine nx J5 (ai (ae (RT 0 [] mM fJ (bA _) ?_)));exact⟨by simp[jN, *],rfl⟩;have hw:cH who=true:=by simpa using h11
 have ho:cH of'=true:=by simpa using h15
 have hw2:0≤who∧who<5:=of_decide_eq_true hw;have ho2:0≤of'∧of'<5:=of_decide_eq_true ho;have hkb:mn key=true:=decide_eq_true ⟨by omega,by omega⟩;have e1:fC x of'=x.heir[of'.toNat]'(by omega):=by rw[fC,dif_pos ho]
 have e2:Ct x of' key=(x.left[of'.toNat]'(by omega))[key.toNat]'(by omega):=by rw[Ct,dif_pos ⟨ho,hkb⟩]
 have e3:dD x key=x.cells[key.toNat]'(by omega):=by rw[dD,dif_pos hkb]
 refine PS ?_;refine nx J3 (CN (qx J2 (aa λ_ J6=>sr λ_ J7=>P3 ?_)));refine am ?_ ?_<;>intro h29;refine nx J7 (CY (aa λ_ J8=>D1 1 bf ?_));refine PD 0 ?_;refine FD 1 1 dS kR ?_;refine IY 2 (1+key.toNat*7) zw fJ ?_;refine ta 3 rfl (aK (vs:=ints (x.cells[key.toNat]'(by omega)).flat) rfl mM rfl fJ rfl (λ_ h=>h.2.1) (bA (x.cells[key.toNat]'(by omega))) (Bs x (key.toNat*7) (by omega) (by omega) (j7 bJ x.cells (i:=key.toNat) 0 (by omega) (by omega) (by decide) (bk (bA (x.cells[key.toNat]'(by omega))))))) ?_;refine FD 4 0 dS aO ?_;refine LR 5 Y3 (cC x rfl) ?_;refine AL 6 ?_;refine SW 0 fJ bA ?_;refine EN (PD 7 ?_);refine DN (ac J8 (ai (ae (RT 0 [] mM fJ (bA _) ?_))));exact⟨by simp[jN, *],rfl⟩;refine nx J7 (CN (qx J6 (aa λ_ J9=>sr λ_ J10=>PS ?_)));refine FA 29 dS fO ?_;refine IX (29+(of').toNat) l6 aO ?_;refine LT 1 Y3 (.int .i64 ((x.heir[(of').toNat]'(by omega)))) ?_ (hc:=by exact qM x ((of').toNat) (by omega) (by omega) (jU x.heir (by omega)));refine PS ?_;refine am ?_ ?_<;>intro h40;refine nx J10 (CY (aa λ_ J11=>D1 1 bf ?_));refine PD 0 ?_;refine PD 1 ?_;refine FD 2 34 dS zN ?_;refine IY 3 (34+((of').toNat)*28) Jb kR ?_;refine IY 4 (34+((of').toNat)*28+key.toNat*7) zw fJ ?_
 refine ta 5 rfl (aK (vs:=ints ((x.left[(of').toNat]'(by omega))[key.toNat]'(by omega)).flat) rfl mM rfl fJ rfl (λ_ h=>h.2.1) (bA ((x.left[(of').toNat]'(by omega))[key.toNat]'(by omega))) (Eb x (((of').toNat)*28+key.toNat*7) (by omega) (by omega) (j7 si x.left (i:=(of').toNat) (key.toNat*7) (by omega) (by omega) (by omega) (j7 bJ (x.left[(of').toNat]'(by omega)) (i:=key.toNat) 0 (by omega) (by omega) (by decide) (bk (bA ((x.left[(of').toNat]'(by omega))[key.toNat]'(by omega)))))))) ?_;refine PD 6 ?_;refine FD 7 29 dS fO ?_;refine IY 8 (29+(of').toNat) l6 aO ?_;refine LX 9 Y3 (.int .i64 ((x.heir[(of').toNat]'(by omega)))) ?_ (hc:=by exact qM x ((of').toNat) (by omega) (by omega) (jU x.heir (by omega)));refine ta 10 rfl (jE (r:=(fZ ((x.heir[(of').toNat]'(by omega))-1))) rfl rfl rfl rfl) ?_;refine AL 11 ?_;refine SW 0 fJ bA ?_;refine EN (PD 12 ?_);refine DN (ac J11 (ai (ae (RT 0 [] mM fJ (bA _) ?_))));exact⟨by simp[jN, *],rfl⟩;refine nx J10 (CN (qx J9 (sr λ_ J12=>BV ((ints CellT.zero.flat).toArray) ?_)));refine SW 0 fJ bA ?_;refine PS ?_;refine nx J12 (ai (RT 0 [] mM fJ (bA _) ?_));exact⟨by simp[jN, *],rfl⟩;refine PS ?_;refine P2 ?_;refine UT ?_;refine UT ?_;refine P2 ?_;refine UT ?_;refine UT ?_;refine PS ?_;refine nx J3 (CY (sr λ_ J13=>BV ((ints CellT.zero.flat).toArray) ?_));refine SW 0 fJ bA ?_;refine PS ?_;refine nx J13 (ai (ae (RT 0 [] mM fJ (bA _) ?_)));exact⟨by simp[jN, *],rfl⟩;refine PS ?_;refine PS ?_
 iterate 3 refine UT ?_
 refine P2 ?_;refine UT ?_;refine UT ?_;refine P2 ?_;refine UT ?_;refine UT ?_;refine PS ?_;refine nx J3 (CY (sr λ_ J14=>BV ((ints CellT.zero.flat).toArray) ?_));refine SW 0 fJ bA ?_;refine PS ?_;refine nx J14 (ai (ae (RT 0 [] mM fJ (bA _) ?_)));exact⟨by simp[jN, *],rfl⟩
theorem oI(who:Int):
 DT 34 #[(.int .i64 (who))] T0 [] (dw (λr' H=>∃u,r'=u∧H=[own u (gE who).length (ints (gE who)) 3 1])):=by
 refine BD 20 Tryz.func34 rfl rfl rfl λw0 F hF=>sr λ_ J1=>PS ?_
 refine nx J1 (aa λ_ J2=>sr λ_ J3=>PS ?_);refine CE Gx (ju who) ID ?_;refine aX ?_ ?_<;>intro h6;have hm:0≤who∧who<5:=of_decide_eq_true h6;refine PS ?_;refine nx J3 (CN (qx J2 (sr λ_ J4=>LI 3 1 (λon=>?_))));clear on;refine PS ?_;refine nx J4 (aa λ_ J5=>sr λ_ J6=>PS ?_);refine nx J6 (ap (qS 3 (aa λ_ J7=>sr λ_ J8=>P2 ?_)));refine nx J8 (CY (qx J7 (aa λ_ J9=>ap (af (P3 ?_)))));refine tp (cw (r:=(who+1)) rfl rfl rfl (bI (by omega) (by omega))) ?_;refine tp (PV.rem (r:=((who+1)%5)) rfl rfl rfl (by omega) (Dv (by omega))) ?_;refine aU (cells:=#[(.int .i64 (((who+1)%5)))]) (ab rfl) rfl rfl rfl jT qB rfl rfl rfl (by as_aux_lemma=>kernel_rfl) (λb17=>cG (k:=1) (news:=[(.int .i64 (((who+1)%5)))]) (nn':=1) (xs':=[(.int .i64 (((who+1)%5)))]) (ab rfl) rfl rfl rfl jT qB rfl rfl rfl rfl rfl rfl (λ_ _=>jg rfl (RO 0) rfl) (by simp[Value.oneCell']) (by simp only[maxLen];omega) (by omega) (by simp) (by simp) (λv18 ov18=>PS ?_));refine au (ag (ac J9 (af (PS ?_))));refine tp (cw (r:=2) rfl rfl rfl (by decide)) ?_;refine PS ?_;refine au (ef (aa λ_ J10=>sr λ_ J11=>P2 ?_));refine nx J11 (CY (qx J10 (aa λ_ J12=>ap (af (P3 ?_)))));refine tp (cw (r:=(who+2)) rfl rfl rfl (bI (by omega) (by omega))) ?_;refine tp (PV.rem (r:=((who+2)%5)) rfl rfl rfl (by omega) (Dv (by omega))) ?_
 refine cp (H':=[own v18 (1) ([(.int .i64 (((who+1)%5)))]) 3 1]) (λ_ s=>ak [1] rfl s) (aU (cells:=#[(.int .i64 (((who+2)%5)))]) (ab rfl) rfl rfl rfl jT qB rfl rfl rfl (by as_aux_lemma=>kernel_rfl) (λb17=>cG (k:=1) (news:=[(.int .i64 (((who+2)%5)))]) (nn':=1+1) (xs':=[(.int .i64 (((who+1)%5)))]++[(.int .i64 (((who+2)%5)))]) (ab rfl) rfl rfl rfl jT qB rfl rfl rfl rfl rfl rfl (λ_ _=>jg rfl (RO 0) rfl) (by simp[Value.oneCell']) (by simp only[maxLen];omega) (by omega) (by simp) (by simp) (λv18 ov18=>PS ?_)));refine au (ag (ac J12 (af (PS ?_))));refine tp (cw (r:=3) rfl rfl rfl (by decide)) ?_;refine PS ?_;refine au (ef (aa λ_ J13=>sr λ_ J14=>P2 ?_));refine nx J14 (CN (aZ (aB (aB (bw (ac J5 (sr λ_ J15=>P2 ?_)))))));refine nx J15 (ai (WK [1] (aq rfl rfl ?_)));exact⟨_,rfl,by rw[gE,if_pos h6];rfl⟩;refine PS ?_;refine nx J3 (CY (sr λ_ J16=>PS ?_));refine nx J16 (ai (ae (aE (H':=[own (.slice none 0 0) 0 [] 3 1]) (dE _) (λ_ s=>fR 3 1 s) (aq rfl rfl ?_))));exact⟨_,rfl,by rw[gE,if_neg (by simp[h6])];rfl⟩
theorem lW(b off T:Nat)(cs:BookT→List Value)(hA:Arnd cs (λx=>ints x.flat) off)(B:BookT)(who:Int):
 DT 43 #[(.pointer (some ⟨b,off,none⟩)),(.int .i64 (who))] T0 [aj b (cs B) T] (RI (.agg (ints (cy B who).flat).toArray) [aj b (cs B) T]):=by
 refine BD 15 Tryz.func43 rfl rfl rfl λw0 F hF=>sr λ_ J1=>XZ uj (ints RowT.zero.flat) λb4=>?_
 refine nx J1 (aa λ_ J2=>sr λ_ J3=>PS ?_);refine CE Jw (kE who) ID ?_;refine aX ?_ ?_<;>intro h6;have hm:0≤who∧who<5:=of_decide_eq_true h6;refine PS ?_;refine nx J3 (CN (qx J2 (sr λ_ J4=>P3 ?_)));refine tp (a9 (r:=off) rfl Hv rfl sv rfl rfl) ?_;refine IX (off+who.toNat*174) FK ba ?_;refine tp (aK (vs:=ints (B.rows[who.toNat]'(by omega)).flat) rfl dS rfl ba rfl (RO 1) (ah (B.rows[who.toNat]'(by omega))) (L6 hA (j:=who.toNat*174) (by omega) (LB (wt _)) (L3 B (who.toNat*174) (by omega) (by omega) (j7 dp B.rows (i:=who.toNat) 0 (by omega) (by omega) (by decide) (bk (ah (B.rows[who.toNat]'(by omega)))))))) ?_;refine SW 0 ba ah ?_;refine nx J4 (ai (RC 0 [1] dS ba (ah _) ?_));exact⟨by rw[cy,dif_pos h6],rfl⟩;refine PS ?_;refine nx J3 (CY (sr λ_ J5=>BV ((ints RowT.zero.flat).toArray) ?_));refine SW 0 ba ah ?_;refine nx J5 (ai (ae (RC 0 [1] dS ba (ah _) ?_)));exact⟨by rw[cy,dif_neg (by simp[h6])],rfl⟩
theorem mu(b off T:Nat)(cs:BookT→List Value)(hA:Arnd cs (λx=>ints x.flat) off)(B:BookT)(who:Int)(x:RowT)(hx:WF x.flat):
 DT 75 #[(.pointer (some ⟨b,off,none⟩)),(.int .i64 (who)),(.agg (ints x.flat).toArray)] T0 [aj b (cs B) T] (RI (.bool (fB B who x).2) [aj b (cs (fB B who x).1) T]):=by
 refine BD 33 Tryz.func75 rfl rfl rfl λw0 F hF=>sr λ_ J1=>XY (ints x.flat) λb5=>?_
 refine PS ?_;refine nx J1 (aa λ_ J2=>aa λ_ J3=>D2 0 1 bf ?_);refine PD 0 ?_;refine AL 1 ?_;refine CE Jw (kE who) ID ?_;refine aX ?_ ?_<;>intro h8;have hm:0≤who∧who<5:=of_decide_eq_true h8;have hrow:cy B who=B.rows[who.toNat]'(by omega):=by rw[cy,dif_pos h8]
 refine au (E2 0 1 (PD 2 ?_));refine PD 3 ?_;refine LY 4 dS ba ah ?_;refine AL 5 ?_;refine CE Gy (jw x hx) ID ?_;refine aX ?_ ?_<;>intro h12;refine au (E2 0 1 (PD 6 ?_));refine PD 7 ?_;refine PD 8 ?_;refine FD 9 0 dS aO ?_;refine LR 10 Y3 (cC x rfl) ?_;refine PD 11 ?_;refine PD 12 ?_;refine PD 13 ?_;refine tb 14 rfl (a9 (r:=off) rfl Hv rfl sv rfl rfl) ?_;refine IY 15 (off+who.toNat*174) FK ba ?_;refine tb 16 rfl (a9 (r:=off+who.toNat*174) rfl dS rfl aO rfl rfl) ?_;refine LX 17 Y3 (.int .i64 ((B.rows[who.toNat]'(by omega)).version)) ?_ (hc:=by exact Arnd.at hA (j:=who.toNat*174) (by omega) (LB (wt _)) (BookT.pt_rows B (who.toNat*174) (by omega) (by omega) (od dp B.rows (i:=who.toNat) 0 (by omega) (by omega) (by decide) (cC _ rfl))));refine PD 18 ?_;refine gF ?_ ?_<;>intro h25;refine PD 19 ?_;refine DN (ac J3 (CY (sr λ_ J4=>PS ?_)));refine nx J4 (ai (ae (WK [1] (aq rfl rfl ?_))));have e:fB B who x=(B,false):=by rw[fB,if_neg (λh=>by simp only[av,decide_eq_true_iff]at h;rw[hrow]at h;omega)]
 exact⟨by rw[e],by rw[e];rfl⟩;refine PD 19 ?_;refine DN (ac J3 (CN (qx J2 (aa λ_ J5=>D1 0 bf ?_))));refine PD 0 ?_;refine PD 1 ?_;refine LY 2 dS ba ah ?_;refine PD 3 ?_;refine ta 4 rfl (a9 (r:=off) rfl Hv rfl sv rfl rfl) ?_;refine IY 5 (off+who.toNat*174) FK ba ?_;refine AL 6 ?_;refine ck (vs:=ints x.flat) (i:=1) (ab rfl) rfl rfl rfl rfl rfl (by rw[(ah x)];exact ba) (bG _) rfl rfl (by have h0:=(wt B);have h2:=Arnd.le hA B;have h1:=(ah x);omega) (Arnd.wr hA (x:=B) (x':=(BookT.mk (B.rows.set who.toNat x (by omega)))) (j:=who.toNat*174) (by omega) (LC (wt _) (ah _)) (BookT.wr_rows_ B (who.toNat*174) (by omega) (by have h1:=(ah x);omega) (uy dp B.rows (i:=who.toNat) 0 (by omega) (by omega) (by have h1:=(ah x);omega) (cz ((ah (B.rows[who.toNat]'(by omega))).trans (ah x).symm))))) rfl (au (E1 0 (DN (ac J5 (sr λ_ J6=>PS ?_)))));refine nx J6 (ai (WK [1] (aq rfl rfl ?_)));have e:fB B who x=(yN B who x,true):=by rw[fB,if_pos (by simp only[av,decide_eq_true_iff,hrow];exact⟨⟨h8,h12⟩,by omega⟩)]
 exact⟨by rw[e],by rw[e,yN,dif_pos h8];rfl⟩;refine au (E2 0 1 (PD 6 ?_));refine PD 7 ?_;refine PD 8 ?_;refine NT 9 ?_;refine NT 10 ?_;refine NT 11 ?_;refine NT 12 ?_;refine NT 13 ?_;refine NT 14 ?_;refine NT 15 ?_;refine NT 16 ?_;refine NT 17 ?_;refine NT 18 ?_;refine PD 19 ?_;refine DN (ac J3 (CY (sr λ_ J7=>PS ?_)));refine nx J7 (ai (ae (WK [1] (aq rfl rfl ?_))));have e:fB B who x=(B,false):=by rw[fB,if_neg (λh=>by simp only[av,decide_eq_true_iff]at h;rw[h12]at h;exact absurd h.1.2 (by decide))]
 exact⟨by rw[e],by rw[e];rfl⟩;refine au (E2 0 1 (PD 2 ?_));refine PD 3 ?_;refine NT 4 ?_;refine NT 5 ?_;refine NT 6 ?_;refine PD 7 ?_;refine PD 8 ?_;refine NT 9 ?_;refine NT 10 ?_;refine NT 11 ?_;refine NT 12 ?_;refine NT 13 ?_;refine NT 14 ?_;refine NT 15 ?_;refine NT 16 ?_;refine NT 17 ?_;refine NT 18 ?_;refine PD 19 ?_;refine DN (ac J3 (CY (sr λ_ J8=>PS ?_)));refine nx J8 (ai (ae (WK [1] (aq rfl rfl ?_))));have e:fB B who x=(B,false):=by rw[fB,if_neg (λh=>by simp only[av,decide_eq_true_iff]at h;rw[h8]at h;exact absurd h.1.1 (by decide))]
 exact⟨by rw[e],by rw[e];rfl⟩
theorem p7(b off T:Nat)(cs:BookT→List Value)(hA:Arnd cs (λx=>ints x.flat) off)(B:BookT)(of' key:Int):
 DT 74 #[(.pointer (some ⟨b,off,none⟩)),(.int .i64 (of')),(.int .i64 (key))] T0 [aj b (cs B) T] (RI (.agg (ints (c7 B of' key).flat).toArray) [aj b (cs B) T]):=by
 refine BD 35 Tryz.func74 rfl rfl rfl λw0 F hF=>sr λ_ J1=>XZ HC (ints CellT.zero.flat) λb6=>?_
 refine nx J1 (sr λ_ J2=>XZ HC (ints CellT.zero.flat) λb7=>?_);refine nx J2 (sr λ_ J3=>PS ?_);refine nx J3 (aa λ_ J4=>sr λ_ J5=>PS ?_);refine nx J5 (ap ?_)
 refine bB (α:=(Nat)×(CellT)×(Int)) (λ⟨k,c,n⟩=>k≤5∧(c,n)=vY B of' key k) (λ⟨k,c,n⟩=>[(0,(.pointer (some ⟨b,off,none⟩))),(1,(.int .i64 (of'))),(2,(.int .i64 (key))),(6,(.pointer (some ⟨b6,0,none⟩))),(7,(.pointer (some ⟨b7,0,none⟩))),(8,(.int .i64 (n))),(12,(.int .i64 (((k:Nat):Int))))]) (λ⟨k,c,n⟩=>[aj b7 (ints c.flat) 56,aj b6 (ints CellT.zero.flat) 56,aj b (cs B) T]) (λ⟨k,c,n⟩=>5-k) (0,CellT.zero, -1)
  ⟨aN _,rfl⟩ SB
  (λ_ s=>s) (λ⟨k,c,n⟩ hinv=>?_)
 obtain⟨hk,hc⟩:=hinv;refine sr λ_ J6=>PS ?_
 refine am ?_ ?_<;>intro h13;refine nx J6 (aa λ_ J7=>CY (qx J7 (aa λ_ J8=>ap (sr λ_ J9=>P2 ?_))));refine nx J9 (sr λ_ J10=>P3 ?_);refine tp (a9 (r:=off) rfl Hv rfl sv rfl rfl) ?_;refine IX (off+k*174) FK ba ?_;refine tp (aK (vs:=ints (B.rows[k]'(by omega)).flat) rfl dS rfl ba rfl (RO 2) (ah (B.rows[k]'(by omega))) (L6 hA (j:=k*174) (by omega) (LB (wt _)) (L3 B (k*174) (by omega) (by omega) (j7 dp B.rows (i:=k) 0 (by omega) (by omega) (by decide) (bk (ah (B.rows[k]'(by omega)))))))) ?_;refine P3 ?_;refine CE Lo (yH (B.rows[k]'(by omega)) ((k:Nat):Int) of' key) ID ?_;refine P3 ?_;refine XZ HC (ints CellT.zero.flat) λb10=>?_
 refine SW 0 fJ bA ?_;refine PS ?_;refine nx J10 (sr λ_ J11=>P3 ?_);refine am ?_ ?_<;>intro h30;refine nx J11 (CY (af (LW 0 mM fJ bA ?_)));refine PS ?_;refine SW 1 fJ bA ?_;refine PS ?_;refine au (ag (ac J8 (af (AD ?_))));refine PS ?_;refine au ?_
 exact aJ ((k+1,(jN (B.rows[k]'(by omega)) ((k:Nat):Int) of' key).1,(jN (B.rows[k]'(by omega)) ((k:Nat):Int) of' key).2):(Nat)×(CellT)×(Int)) ⟨by omega,by rw[tD,←hc,rU,vZ B (by omega)];simp[h30]⟩ (by show 5- (k+1)<5-k;omega)
  SB
  (λ_ s=>ak [1,1,1] rfl s)
 refine nx J11 (CN (aQ (ag (ac J8 (af (AD ?_))))));refine PS ?_;refine au ?_
 exact aJ ((k+1,c,n):(Nat)×(CellT)×(Int)) ⟨by omega,by rw[tD,←hc,rU,vZ B (by omega)];simp[h30]⟩ (by show 5- (k+1)<5-k;omega)
  SB
  (λ_ s=>ak [1,1,1] rfl s)
 refine nx J6 (aa λ_ J12=>CN (aZ (aB (aB (bw (ac J4 (sr λ_ J13=>LW 0 mM fJ bA ?_)))))));refine SW 1 fJ bA ?_;refine nx J13 (ai (RC 1 [2] mM fJ (bA _) ?_));obtain rfl:k=5:=by omega
 exact⟨by rw[c7,←hc],rfl⟩
theorem pq(b off T:Nat)(cs:BookT→List Value)(hA:Arnd cs (λx=>ints x.flat) off)(B:BookT)(key:Int):
 DT 39 #[(.pointer (some ⟨b,off,none⟩)),(.int .i64 (key))] T0 [aj b (cs B) T] (RI (.int .i64 (jX B key)) [aj b (cs B) T]):=by
 refine BD 24 Tryz.func39 rfl rfl rfl λw0 F hF=>sr λ_ J1=>PS ?_
 refine nx J1 (sr λ_ J2=>PS ?_);refine nx J2 (aa λ_ J3=>sr λ_ J4=>PS ?_);refine nx J4 (ap ?_)
 refine bB (α:=(Nat)×(Int)) (λ⟨k,n⟩=>k≤5∧n=pI B key k) (λ⟨k,n⟩=>[(0,(.pointer (some ⟨b,off,none⟩))),(1,(.int .i64 (key))),(4,(.int .i64 0)),(5,(.int .i64 (n))),(8,(.int .i64 (((k:Nat):Int))))]) (λ⟨k,n⟩=>[aj b (cs B) T]) (λ⟨k,n⟩=>5-k) (0,0)
  ⟨aN _,rfl⟩ SB
  (λ_ s=>s) (λ⟨k,n⟩ hinv=>?_)
 obtain⟨hk,hc⟩:=hinv;refine sr λ_ J5=>PS ?_
 refine am ?_ ?_<;>intro h9;refine nx J5 (aa λ_ J6=>CY (qx J6 (aa λ_ J7=>ap (sr λ_ J8=>P2 ?_))));refine nx J8 (sr λ_ J9=>P3 ?_);refine CE Kx (p7 b off T cs hA B ((k:Nat):Int) key) ID ?_;refine XZ HC (ints CellT.zero.flat) λb7=>?_
 refine SW 0 fJ bA ?_;refine nx J9 (af (PS ?_));refine FA 0 mM aO ?_;refine LT 0 Y3 (.int .i64 ((c7 B ((k:Nat):Int) key).inn)) ?_ (hc:=by exact xe _ rfl);refine FA 1 mM aO ?_;refine LT 0 Y3 (.int .i64 ((c7 B ((k:Nat):Int) key).out)) ?_ (hc:=by exact xd _ rfl);refine tp (jE (r:=(fZ (((c7 B ((k:Nat):Int) key).inn)- ((c7 B ((k:Nat):Int) key).out)))) rfl rfl rfl rfl) ?_;refine tp (cw (r:=(fZ (n+(fZ (((c7 B ((k:Nat):Int) key).inn)- ((c7 B ((k:Nat):Int) key).out)))))) rfl rfl rfl rfl) ?_;refine PS ?_;refine au (ag (ac J7 (af (AD ?_))));refine PS ?_;refine au ?_
 exact aJ ((k+1,(fZ (n+(fZ (((c7 B ((k:Nat):Int) key).inn)- ((c7 B ((k:Nat):Int) key).out)))))):(Nat)×(Int)) ⟨by omega,by rw[q9,←hc]⟩ (by show 5- (k+1)<5-k;omega)
  SB
  (λ_ s=>ak [1] rfl s)
 refine nx J5 (aa λ_ J10=>CN (aZ (aB (aB (bw (ac J3 (sr λ_ J11=>P2 ?_)))))));refine nx J11 (ai (WK [0] (aq rfl rfl ?_)));obtain rfl:k=5:=by omega
 exact⟨by rw[hc];rfl,rfl⟩
theorem om(b off T:Nat)(cs:BookT→List Value)(hA:Arnd cs (λx=>ints x.flat) off)(B:BookT)(who key:Int):
    DT 73 #[(.pointer (some ⟨b,off,none⟩)),(.int .i64 (who)),(.int .i64 (key))] T0 [aj b (cs B) T] (RI (.int .i64 (oa B who key)) [aj b (cs B) T]):=by
 refine BD 71 Tryz.func73 rfl rfl rfl λw0 F hF=>sr λ_ J1=>PS ?_
 refine nx J1 (aa λ_ J2=>sr λ_ J3=>PS ?_);refine CE Jw (kE who) ID ?_;refine aX ?_ ?_<;>intro h14;have hm:0≤who∧who<5:=of_decide_eq_true h14;refine PS ?_;refine nx J3 (CN (qx J2 (sr λ_ J4=>XZ Mf (ints ((#v[CellT.zero,CellT.zero,CellT.zero,CellT.zero,CellT.zero]).toList.flatMap CellT.flat)) λb7=>?_)));refine nx J4 (aa λ_ J5=>sr λ_ J6=>PS ?_);refine nx J6 (ap ?_)
 refine bB (α:=(Nat)×(Vector CellT 5)) (λ⟨k,C⟩=>k≤5∧∀(j:Nat) (h:j<5),j<k→C[j]=c7 B j key) (λ⟨k,C⟩=>[(0,(.pointer (some ⟨b,off,none⟩))),(1,(.int .i64 (who))),(2,(.int .i64 (key))),(6,(.int .i64 0)),(7,(.pointer (some ⟨b7,0,none⟩))),(16,(.int .i64 (((k:Nat):Int))))]) (λ⟨k,C⟩=>[aj b7 (ints (C.toList.flatMap CellT.flat)) 132,aj b (cs B) T]) (λ⟨k,C⟩=>5-k) (0, #v[CellT.zero,CellT.zero,CellT.zero,CellT.zero,CellT.zero])
     ⟨aN _,λj _ h=>absurd h (by omega)⟩ SB
     (λ_ s=>ak [0,0] rfl s) (λ⟨k,C⟩ hinv=>?_)
 obtain⟨hk,hC⟩:=hinv;refine sr λ_ J7=>PS ?_
 refine am ?_ ?_<;>intro h17;refine nx J7 (aa λ_ J8=>CY (qx J8 (aa λ_ J9=>ap (sr λ_ J10=>P2 ?_))));refine nx J10 (af (P4 ?_));refine CE Kx (p7 b off T cs hA B ((k:Nat):Int) key) (SM [1]) ?_;refine IX (k*7) Hu fJ ?_;refine ck (vs:=ints (c7 B ((k:Nat):Int) key).flat) (i:=1) (ab rfl) rfl rfl rfl rfl rfl (by rw[(bA (c7 B ((k:Nat):Int) key))];exact fJ) (bG _) rfl rfl (by have h0:=(HK C);have h1:=(bA (c7 B ((k:Nat):Int) key));omega) (uy bJ C (i:=k) 0 (by omega) (by omega) (by have h1:=(bA (c7 B ((k:Nat):Int) key));omega) (cz ((bA (C[k]'(by omega))).trans (bA (c7 B ((k:Nat):Int) key)).symm))) rfl (au (ag (ac J9 (af (AD ?_)))));refine PS ?_;refine au ?_
 exact aJ ((k+1,(C.set k (c7 B ((k:Nat):Int) key) (by omega))):(Nat)×(Vector CellT 5)) ⟨by omega,λj h hj=>by
        rw[Vector.getElem_set];split
        · subst_vars;rfl
        · exact hC j h (by omega)⟩ (by show 5- (k+1)<5-k;omega)
   SB
   (λ_ s=>ak [1,0] rfl s)
 refine nx J7 (aa λ_ J11=>CN (aZ (aB (aB (bw (ac J5 (sr λ_ J12=>PS ?_)))))));refine nx J12 (aa λ_ J13=>sr λ_ J14=>P3 ?_);refine tp (a9 (r:=off) rfl Hv rfl sv rfl rfl) ?_;refine IX (off+who.toNat*174) FK ba ?_;refine tp (aK (vs:=ints (B.rows[who.toNat]'(by omega)).flat) rfl dS rfl ba rfl (RO 1) (ah (B.rows[who.toNat]'(by omega))) (L6 hA (j:=who.toNat*174) (by omega) (LB (wt _)) (L3 B (who.toNat*174) (by omega) (by omega) (j7 dp B.rows (i:=who.toNat) 0 (by omega) (by omega) (by decide) (bk (ah (B.rows[who.toNat]'(by omega)))))))) ?_;refine PS ?_;have hbr:B.rows[who.toNat]'(by omega)=cy B who:=by rw[cy,dif_pos h14]
 rw[hbr];refine CR Lp (Aj (cy B who) who) ID λvR HR hR=>?_
 obtain⟨_,rfl,rfl⟩:=hR;revert vR;intro ul1;refine fY 0 rfl rfl (λhlul1 houl1=>tp (cu rfl jT rfl hlul1) ?_);refine PS ?_;refine nx J14 (ap ?_)
 refine bB (α:=(Nat)×(Int)) (λ⟨i,r⟩=>i≤(fT (cy B who) who).length∧r=((fT (cy B who) who).take i).foldl (nS B key) 0) (λ⟨i,r⟩=>[(0,(.pointer (some ⟨b,off,none⟩))),(6,(.int .i64 0)),(7,(.pointer (some ⟨b7,0,none⟩))),(9,(.int .i64 (r))),(33,ul1),(34,(.int .i64 ((((fT (cy B who) who).length:Nat):Int)))),(35,(.int .i64 (((i:Nat):Int))))]) (λ⟨i,r⟩=>[own ul1 ((fT (cy B who) who).length) (ints (fT (cy B who) who)) 3 1,aj b7 (ints (C.toList.flatMap CellT.flat)) 132,aj b (cs B) T]) (λ⟨i,r⟩=>(fT (cy B who) who).length-i) (0,0)
     ⟨aN _,rfl⟩ SB
     (λ_ s=>ak [0,0,0] rfl s) (λ⟨i,r⟩ hinv=>?_)
 obtain⟨hi,hr⟩:=hinv;have hE: ∀(j:Nat) (h:j<5),C[j]=c7 B j key:=λj h=>hC j h (by omega)
 refine sr λ_ J15=>PS ?_
 refine am ?_ ?_<;>intro h36;refine nx J15 (aa λ_ J16=>CY (qx J16 (aa λ_ J17=>ap (sr λ_ J18=>fG 0 rfl rfl (by omega) (λga capa hva hcapa=>?_)))));obtain⟨q,hq,hq5⟩: ∃q:Nat,(fT (cy B who) who)[i]=((q:Nat):Int)∧q<5:=by have:=B8 (cy B who) who _ (bZ (show i< (fT (cy B who) who).length by omega));exact⟨(fT (cy B who) who)[i].toNat,by omega,by omega⟩
 have hE2:C[q]=c7 B (fT (cy B who) who)[i] key:=by rw[hE q hq5,hq]
 refine tp (bv (r:=i) hva rfl jT aO rfl rfl (by omega) (by omega) (by omega)) ?_;refine tp (cV (v:=(.int .i64 (((q:Nat):Int)))) rfl Y3 rfl rfl (dT 0 rfl hva rfl) (by rw[←hq];simp[ints,show i< (fT (cy B who) who).length by omega])) ?_;refine PS ?_;refine nx J18 (aa λ_ J19=>D1 1 bf ?_);refine PD 0 ?_;refine PD 1 ?_;refine IY 2 (q*7) Hu fJ ?_;refine ta 3 rfl (a9 (r:=q*7) rfl mM rfl aO rfl rfl) ?_;refine LX 4 Y3 (.int .i64 ((C[q]'(by omega)).inn)) ?_ (hc:=by exact od bJ C (i:=q) 0 (by omega) (by omega) (by decide) (xe _ rfl));refine PD 5 ?_;refine IY 6 (q*7) Hu fJ ?_;refine ta 7 rfl (a9 (r:=q*7+1) rfl mM rfl aO rfl rfl) ?_;refine LX 8 Y3 (.int .i64 ((C[q]'(by omega)).out)) ?_ (hc:=by exact od bJ C (i:=q) 1 (by omega) (by omega) (by decide) (xd _ rfl));refine ta 9 rfl (jE (r:=(fZ (((C[q]'(by omega)).inn)- ((C[q]'(by omega)).out)))) rfl rfl rfl rfl) ?_;refine ta 10 rfl (cw (r:=(fZ (r+(fZ (((C[q]'(by omega)).inn)- ((C[q]'(by omega)).out)))))) rfl rfl rfl rfl) ?_;refine PD 11 ?_;refine DN (ac J19 (sr λ_ J20=>PS ?_));refine nx J20 (ap ?_)
 refine bB (α:=(Nat)×(Int)) (λ⟨o,r3⟩=>o≤5∧r3=o6 B key (fT (cy B who) who)[i] (fZ (r+fZ (C[q].inn-C[q].out))) o) (λ⟨o,r3⟩=>[(0,(.pointer (some ⟨b,off,none⟩))),(6,(.int .i64 0)),(7,(.pointer (some ⟨b7,0,none⟩))),(9,(.int .i64 (r3))),(11,(.int .i64 (((q:Nat):Int)))),(33,ul1),(34,(.int .i64 ((((fT (cy B who) who).length:Nat):Int)))),(35,(.int .i64 (((i:Nat):Int)))),(50,(.int .i64 (((o:Nat):Int))))]) (λ⟨o,r3⟩=>[own ul1 ((fT (cy B who) who).length) (ints (fT (cy B who) who)) 3 1,aj b7 (ints (C.toList.flatMap CellT.flat)) 132,aj b (cs B) T]) (λ⟨o,r3⟩=>5-o) (0,(fZ (r+(fZ (((C[q]'(by omega)).inn)- ((C[q]'(by omega)).out))))))
     ⟨aN _,rfl⟩ SB
     (λ_ s=>ak [0,0,0] rfl s) (λ⟨o,r3⟩ hinv=>?_)
 obtain⟨ho,hr3⟩:=hinv;refine sr λ_ J21=>PS ?_
 refine am ?_ ?_<;>intro h51;refine nx J21 (aa λ_ J22=>CY (qx J22 (aa λ_ J23=>ap (sr λ_ J24=>P2 ?_))));refine nx J24 (D1 1 bf ?_);refine PD 0 ?_;refine PD 1 ?_;refine PD 2 ?_;refine IY 3 (o*7) Hu fJ ?_;refine ta 4 rfl (a9 (r:=o*7+2) rfl mM rfl fO rfl rfl) ?_;refine IY 5 (o*7+2+q) l6 aO ?_;refine LX 6 Y3 (.int .i64 ((((C[o]'(by omega)).given)[q]'(by omega)))) ?_ (hc:=by exact od bJ C (i:=o) (2+q) (by omega) (by omega) (by omega) (L1 (C[o]'(by omega)) q (by omega) (by omega) (jU ((C[o]'(by omega)).given) (by omega))));refine PD 7 ?_;refine PD 8 ?_;refine IY 9 (q*7) Hu fJ ?_;refine ta 10 rfl (a9 (r:=q*7+2) rfl mM rfl fO rfl rfl) ?_;refine IY 11 (q*7+2+o) l6 aO ?_;refine LX 12 Y3 (.int .i64 ((((C[q]'(by omega)).given)[o]'(by omega)))) ?_ (hc:=by exact od bJ C (i:=q) (2+o) (by omega) (by omega) (by omega) (L1 (C[q]'(by omega)) o (by omega) (by omega) (jU ((C[q]'(by omega)).given) (by omega))));refine ta 13 rfl (jE (r:=(fZ ((((C[o]'(by omega)).given)[q]'(by omega))- (((C[q]'(by omega)).given)[o]'(by omega))))) rfl rfl rfl rfl) ?_;refine ta 14 rfl (cw (r:=(fZ (r3+(fZ ((((C[o]'(by omega)).given)[q]'(by omega))- (((C[q]'(by omega)).given)[o]'(by omega))))))) rfl rfl rfl rfl) ?_;refine PD 15 ?_;refine DN (ag (ac J23 (af (AD ?_))));refine PS ?_;refine au ?_
 exact aJ ((o+1,(fZ (r3+(fZ ((((C[o]'(by omega)).given)[q]'(by omega))- (((C[q]'(by omega)).given)[o]'(by omega))))))):(Nat)×(Int)) ⟨by omega,by rw[wC,←hr3,vG _ (by omega),hq,vG _ hq5,←hE o (by omega),←hE q hq5]⟩ (by show 5- (o+1)<5-o;omega)
   SB
   (λ_ s=>ak [0,0,0] rfl s)
 refine nx J21 (aa λ_ J25=>CN (aZ (aB (aB (bw (ag (ac J17 (af (AD ?_)))))))));refine PS ?_;refine au ?_
 exact aJ ((i+1,r3):(Nat)×(Int)) ⟨by omega,by
          have h5:o=5:=by omega
          rw[bW (by omega),dU,←hr];show r3=nS B key r _
          rw[hr3,h5,nS,←hE2]⟩ (by show(fT (cy B who) who).length- (i+1)< (fT (cy B who) who).length-i;omega)
   SB
   (λ_ s=>ak [0,0,0] rfl s)
 refine nx J15 (aa λ_ J26=>CN (aZ (aB (aB (bw (ac J13 (sr λ_ J27=>P2 ?_)))))));refine nx J27 (ai (WK [2] (aq rfl rfl ?_)));obtain rfl:i=(fT (cy B who) who).length:=by omega
 exact⟨by rw[oa,if_pos h14,hr,g8],rfl⟩;refine PS ?_;refine nx J3 (CY (sr λ_ J28=>PS ?_));refine nx J28 (ai (ae (WK [0] (aq rfl rfl ?_))));exact⟨by rw[oa,if_neg (by simp[h14])],rfl⟩
theorem mI(b off T:Nat)(cs:MirT→List Value)(hA:Arnd cs MirT.cells off)(M:MirT)(who:Int):
 DT 77 #[(.pointer (some ⟨b,off,none⟩)),(.int .i64 (who))] T0 [aj b (cs M) T] (RI (.agg (ints (ec M who).flat).toArray) [aj b (cs M) T]):=by
 refine BD 15 Tryz.func77 rfl rfl rfl λw0 F hF=>sr λ_ J1=>XZ uj (ints RowT.zero.flat) λb4=>?_
 refine nx J1 (aa λ_ J2=>sr λ_ J3=>PS ?_);refine CE DJ (gV who) ID ?_;refine aX ?_ ?_<;>intro h6;have hm:0≤who∧who<5:=of_decide_eq_true h6;refine PS ?_;refine nx J3 (CN (qx J2 (sr λ_ J4=>P3 ?_)));refine tp (a9 (r:=off) rfl Db rfl sv rfl rfl) ?_;refine IX (off+who.toNat*174) FK ba ?_;refine tp (aK (vs:=ints (M.rows[who.toNat]'(by omega)).flat) rfl dS rfl ba rfl (RO 1) (ah (M.rows[who.toNat]'(by omega))) (L6 hA (j:=who.toNat*174) (by omega) (LB (pD _)) (MirT.sub_rows M (who.toNat*174) (by omega) (by omega) (j7 dp M.rows (i:=who.toNat) 0 (by omega) (by omega) (by decide) (bk (ah (M.rows[who.toNat]'(by omega)))))))) ?_;refine SW 0 ba ah ?_;refine nx J4 (ai (RC 0 [1] dS ba (ah _) ?_));exact⟨by rw[ec,dif_pos h6],rfl⟩;refine PS ?_;refine nx J3 (CY (sr λ_ J5=>BV ((ints RowT.zero.flat).toArray) ?_));refine SW 0 ba ah ?_;refine nx J5 (ai (ae (RC 0 [1] dS ba (ah _) ?_)));exact⟨by rw[ec,dif_neg (by simp[h6])],rfl⟩
theorem pc(b off T:Nat)(cs:MirT→List Value)(hA:Arnd cs MirT.cells off)(M:MirT)(who:Int):
 DT 78 #[(.pointer (some ⟨b,off,none⟩)),(.int .i64 (who))] T0 [aj b (cs M) T] (RI (.bool (fP M who)) [aj b (cs M) T]):=by
 refine BD 15 Tryz.func78 rfl rfl rfl λw0 F hF=>sr λ_ J1=>PS ?_
 refine nx J1 (sr λ_ J2=>PS ?_);refine CE DJ (gV who) ID ?_;refine aX ?_ ?_<;>intro h6;have hm:0≤who∧who<5:=of_decide_eq_true h6;refine P4 ?_;refine tq (a9 (r:=off+870) rfl Db rfl Jk rfl rfl) ?_;refine IX (off+870+who.toNat) Tryz.underlying96 kp ?_;refine LT 0 Y4 (.bool ((M.sealed[who.toNat]'(by omega)))) ?_ (hc:=by exact Arnd.at hA (j:=870+who.toNat) (by omega) (LB (pD _)) (MirT.pt_sealed M (who.toNat) (by omega) (by omega) (IF M.sealed (by omega))));refine P2 ?_;refine nx J2 (ai (WK [0] (aq rfl rfl ?_)));exact⟨by simp[fP, *],rfl⟩;refine PS ?_
 iterate 6 refine UF ?_
 refine P2 ?_;refine nx J2 (ai (WK [0] (aq rfl rfl ?_)));exact⟨by simp[fP, *],rfl⟩
theorem pX(b off T:Nat)(cs:MirT→List Value)(hA:Arnd cs MirT.cells off)(M:MirT)(who:Int)(x:RowT)(hx:WF x.flat):
 DT 160 #[(.pointer (some ⟨b,off,none⟩)),(.int .i64 (who)),(.agg (ints x.flat).toArray)] T0 [aj b (cs M) T] (RI (.bool (kY M who x)) [aj b (cs M) T]):=by
 refine BD 34 Tryz.func160 rfl rfl rfl λw0 F hF=>sr λ_ J1=>XY (ints x.flat) λb5=>?_
 refine PS ?_;refine nx J1 (aa λ_ J2=>D2 1 0 bf ?_);refine PD 0 ?_;refine AL 1 ?_;refine CE DJ (gV who) ID ?_;refine aX ?_ ?_<;>intro h8;have hm:0≤who∧who<5:=of_decide_eq_true h8;refine EN (PD 2 ?_);refine PD 3 ?_;refine PD 4 ?_;refine PD 5 ?_;refine tb 6 rfl (a9 (r:=off+870) rfl Db rfl Jk rfl rfl) ?_;refine IY 7 (off+870+who.toNat) Tryz.underlying96 kp ?_;refine LX 8 Y4 (.bool ((M.sealed[who.toNat]'(by omega)))) ?_ (hc:=by exact Arnd.at hA (j:=870+who.toNat) (by omega) (LB (pD _)) (MirT.pt_sealed M (who.toNat) (by omega) (by omega) (IF M.sealed (by omega))));refine qK ?_ ?_<;>intro h15;refine PD 9 ?_;refine PD 10 ?_;refine PD 11 ?_;refine NT 12 ?_;refine NT 13 ?_;refine PD 14 ?_;refine PD 15 ?_;refine NT 16 ?_;refine NT 17 ?_;refine NT 18 ?_;refine NT 19 ?_;refine NT 20 ?_;refine NT 21 ?_;refine NT 22 ?_;refine NT 23 ?_;refine NT 24 ?_;refine NT 25 ?_;refine PD 26 ?_;refine PD 27 ?_;refine DN (ac J2 (ai (WK [1] (aq rfl rfl ?_))));exact⟨by simp[kY,fP,ec, *],rfl⟩;refine PD 9 ?_;refine PD 10 ?_;refine PD 11 ?_;refine LY 12 dS ba ah ?_;refine AL 13 ?_;refine CE Gy (jw x hx) ID ?_;refine aX ?_ ?_<;>intro h20;refine EN (PD 14 ?_);refine PD 15 ?_;refine FD 16 0 dS aO ?_;refine LR 17 Y3 (cC x rfl) ?_;refine PD 18 ?_;refine PD 19 ?_;refine PD 20 ?_;refine tb 21 rfl (a9 (r:=off) rfl Db rfl sv rfl rfl) ?_;refine IY 22 (off+who.toNat*174) FK ba ?_;refine tb 23 rfl (a9 (r:=off+who.toNat*174) rfl dS rfl aO rfl rfl) ?_
 refine LX 24 Y3 (.int .i64 ((M.rows[who.toNat]'(by omega)).version)) ?_ (hc:=by exact Arnd.at hA (j:=who.toNat*174) (by omega) (LB (pD _)) (MirT.pt_rows M (who.toNat*174) (by omega) (by omega) (od dp M.rows (i:=who.toNat) 0 (by omega) (by omega) (by decide) (cC _ rfl))));refine PD 25 ?_;refine PD 26 ?_;refine PD 27 ?_;refine DN (ac J2 (ai (WK [1] (aq rfl rfl ?_))));exact⟨by simp[kY,fP,ec, *],rfl⟩;refine EN (PD 14 ?_);refine PD 15 ?_;refine NT 16 ?_;refine NT 17 ?_;refine NT 18 ?_;refine NT 19 ?_;refine NT 20 ?_;refine NT 21 ?_;refine NT 22 ?_;refine NT 23 ?_;refine NT 24 ?_;refine NT 25 ?_;refine PD 26 ?_;refine PD 27 ?_;refine DN (ac J2 (ai (WK [1] (aq rfl rfl ?_))));exact⟨by simp[kY,fP,ec, *],rfl⟩;refine EN (PD 2 ?_);refine NT 3 ?_;refine NT 4 ?_;refine NT 5 ?_;refine NT 6 ?_;refine NT 7 ?_;refine NT 8 ?_;refine NT 9 ?_;refine PD 10 ?_;refine PD 11 ?_;refine NT 12 ?_;refine NT 13 ?_;refine PD 14 ?_;refine PD 15 ?_;refine NT 16 ?_;refine NT 17 ?_;refine NT 18 ?_;refine NT 19 ?_;refine NT 20 ?_;refine NT 21 ?_;refine NT 22 ?_;refine NT 23 ?_;refine NT 24 ?_;refine NT 25 ?_;refine PD 26 ?_;refine PD 27 ?_;refine DN (ac J2 (ai (WK [1] (aq rfl rfl ?_))));exact⟨by simp[kY,fP,ec, *],rfl⟩
theorem rG(b off T:Nat)(cs:MirT→List Value)(hA:Arnd cs MirT.cells off)(M:MirT)(who:Int)(x:RowT)(hx:WF x.flat):
 DT 131 #[(.pointer (some ⟨b,off,none⟩)),(.int .i64 (who)),(.agg (ints x.flat).toArray)] T0 [aj b (cs M) T] (RI (.bool (lT M who x).2) [aj b (cs (lT M who x).1) T]):=by
 refine BD 18 Tryz.func131 rfl rfl rfl λw0 F hF=>sr λ_ J1=>XY (ints x.flat) λb5=>?_
 refine PS ?_;refine nx J1 (aa λ_ J2=>sr λ_ J3=>P2 ?_);refine LW 0 dS ba ah ?_;refine CE IP (pX b off T cs hA M who x hx) (SM [1]) ?_;refine aX ?_ ?_<;>intro h10;have hm0:cH who=true:=by have:=h10;simp only[kY,av]at this;exact this.1.1.1
 have hm:0≤who∧who<5:=of_decide_eq_true hm0;refine PS ?_;refine nx J3 (CN (qx J2 (aa λ_ J4=>D1 1 bf ?_)));refine PD 0 ?_;refine PD 1 ?_;refine LY 2 dS ba ah ?_;refine PD 3 ?_;refine ta 4 rfl (a9 (r:=off) rfl Db rfl sv rfl rfl) ?_;refine IY 5 (off+who.toNat*174) FK ba ?_;refine AL 6 ?_;refine ck (vs:=ints x.flat) (i:=0) (ab rfl) rfl rfl rfl rfl rfl (by rw[(ah x)];exact ba) (bG _) rfl rfl (by have h0:=(pD M);have h2:=Arnd.le hA M;have h1:=(ah x);omega) (Arnd.wr hA (x:=M) (x':=(MirT.mk (M.rows.set who.toNat x (by omega)) M.sealed)) (j:=who.toNat*174) (by omega) (LC (pD _) (ah _)) (MirT.wr_rows_ M (who.toNat*174) (by omega) (by have h1:=(ah x);omega) (uy dp M.rows (i:=who.toNat) 0 (by omega) (by omega) (by have h1:=(ah x);omega) (cz ((ah (M.rows[who.toNat]'(by omega))).trans (ah x).symm))))) rfl (au (E1 1 (DN (ac J4 (sr λ_ J5=>PS ?_)))));refine nx J5 (ai (WK [0] (aq rfl rfl ?_)));have e:lT M who x=(y1 M who x,true):=by rw[lT,if_pos h10]
 exact⟨by rw[e],by rw[e,y1,dif_pos hm0];rfl⟩;refine PS ?_;refine nx J3 (CY (sr λ_ J6=>PS ?_));refine nx J6 (ai (ae (WK [0] (aq rfl rfl ?_))));have e:lT M who x=(M,false):=by rw[lT,if_neg (by simp[h10])]
 exact⟨by rw[e],by rw[e];rfl⟩
theorem rF(b off T:Nat)(cs:MirT→List Value)(hA:Arnd cs MirT.cells off)(M:MirT)(who:Int):
 DT 132 #[(.pointer (some ⟨b,off,none⟩)),(.int .i64 (who))] T0 [aj b (cs M) T] (RI (.tuple #[.agg (ints (ec M who).flat).toArray, .bool (cH who)]) [aj b (cs (nr M who)) T]):=by
 refine Leg.Does.body (vs:=[(.pointer (some ⟨b,off,none⟩)),(.int .i64 (who))]) (n:=21) Tryz.func132 rfl rfl rfl (λw0 F hF=>?_);refine sr λ_ J1=>?_
 refine pA (ab rfl) rfl rfl rfl uj (λb4=>?_);change TL _ _ _ _ _ _ _ _ _ [aj b4 (ints RowT.zero.flat) 60,aj b (cs M) T];refine oD ?_;refine nx J1 ?_;clear J1;refine aa λ_ J2=>?_
 refine sr λ_ J3=>?_
 refine mv ?_;refine kl (ab rfl) rfl rfl rfl DJ rfl (gV who) (λ_ s=>s) (λ_ _ _=>trivial) (λvR HR hR=>?_);obtain⟨rfl,rfl⟩:=hR;refine aX (λh7=>?_) (λh7=>?_);have hm:0≤who∧who<5:=of_decide_eq_true h7;refine tp (ln (r:=false) rfl rfl rfl) ?_;refine nx J3 ?_;clear J3;refine Ea rfl ?_;refine aQ ?_;refine ac J2 ?_;clear J2;refine sr λ_ J4=>?_
 refine mv ?_;refine mv ?_;refine tp (fN rfl rfl) ?_;refine tp (a9 (r:=off+870) rfl Db rfl Jk rfl rfl) ?_;refine tp (pC (r:=off+870+who.toNat) rfl Tryz.underlying96 kp rfl rfl (by omega) (by omega) (by omega)) ?_;refine bT (i:=1) (ab rfl) rfl rfl rfl rfl rfl kp rfl rfl (by have h0:=(pD M);have h2:=Arnd.le hA M;omega) (Arnd.set hA (x:=M) (x':=(MirT.mk M.rows (M.sealed.set who.toNat true (by omega)))) (j:=870+who.toNat) (by omega) (by have h0:=(pD M);omega) (MirT.st_sealed M (who.toNat) (by omega) (by omega) (Ka M.sealed (by omega) _))) rfl ?_;refine nx J4 ?_;clear J4;refine sr λ_ J5=>?_
 refine mv ?_;refine mv ?_;refine tp (fN rfl rfl) ?_;refine tp (a9 (r:=off) rfl Db rfl sv rfl rfl) ?_;refine tp (pC (r:=off+who.toNat*174) rfl FK ba rfl rfl (by omega) (by omega) (by omega)) ?_;refine tp (aK (vs:=ints (M.rows[who.toNat]'(by omega)).flat) rfl dS rfl ba rfl (eR 1 rfl rfl) (ah (M.rows[who.toNat]'(by omega))) (L6 hA (j:=who.toNat*174) (by omega) (by have h0:=(pD (MirT.mk M.rows (M.sealed.set who.toNat true (by omega))));omega) (MirT.sub_rows (MirT.mk M.rows (M.sealed.set who.toNat true (by omega))) (who.toNat*174) (by omega) (by omega) (j7 dp M.rows (i:=who.toNat) 0 (by omega) (by omega) (by decide) (bk (ah (M.rows[who.toNat]'(by omega)))))))) ?_;refine ck (vs:=ints (M.rows[who.toNat]'(by omega)).flat) (i:=0) (ab rfl) rfl rfl rfl rfl rfl (by rw[(ah (M.rows[who.toNat]'(by omega)))];exact ba) (bG _) rfl rfl (by have h0:=(ah RowT.zero);have h1:=(ah (M.rows[who.toNat]'(by omega)));omega) (cz ((ah RowT.zero).trans (ah (M.rows[who.toNat]'(by omega))).symm)) rfl ?_;refine oD ?_;refine nx J5 ?_;clear J5;refine ai ?_;refine lj (H':=[aj b (cs (MirT.mk M.rows (M.sealed.set who.toNat true (by omega)))) T]) rfl rfl rfl dS rfl ba (eR 0 rfl rfl) (ah (M.rows[who.toNat]'(by omega))) (λ_ s=>ak [1] rfl s) ?_;exact⟨by simp[ec, *],by simp[nr, *]⟩;refine tp (ln (r:=true) rfl rfl rfl) ?_;refine nx J3 ?_;clear J3;refine mC rfl ?_;refine sr λ_ J6=>?_
 refine tp (jH (cells:=(ints RowT.zero.flat).toArray) rfl rfl (by as_aux_lemma=>kernel_rfl)) ?_;refine ck (vs:=ints RowT.zero.flat) (i:=0) (ab rfl) rfl rfl rfl rfl rfl (by rw[(ah RowT.zero)];exact ba) (bG _) rfl rfl (by have h0:=(ah RowT.zero);have h1:=(ah RowT.zero);omega) (cz ((ah RowT.zero).trans (ah RowT.zero).symm)) rfl ?_;refine oD ?_;refine nx J6 ?_;clear J6;refine ai ?_;refine ae ?_;clear J2;refine lj (H':=[aj b (cs M) T]) rfl rfl rfl dS rfl ba (eR 0 rfl rfl) (ah RowT.zero) (λ_ s=>ak [1] rfl s) ?_;exact⟨by simp[ec, *],by simp[nr, *]⟩
end Go.Proofs.YtjblgopghhgflaaGreat
end

section
namespace Api
open Go Leg Codec
def eY(k:Int):Bool:=decide (k=0∨k=2∨k=9)
def e9(k:Int):Bool:=decide (k=3∨k=6)
def cL:Ps (MsgT×Bool):=pb (e7 10) λk=>
 if eY k then pb (e7 5) λw=>pb tI λx=>pr (⟨k,w,x,0,0, .zero, .zero, .zero, .zero⟩,gK x)
 else if k=1 then pb mB λn=>pr (⟨k,0, .zero,n,0, .zero, .zero, .zero, .zero⟩,true)
 else if e9 k then pb mB λn=>pb jO λb=>pr (⟨k,0, .zero,0,n,b, .zero, .zero, .zero⟩,true)
 else if k=4 then pb mB λn=>pb jO λb=>pb jO λd=>pb kN λc=>pr (⟨k,0, .zero,0,n,b,d,c, .zero⟩,true)
 else if k=5 then pb mB λn=>pb jO λb=>pb kN λc=>pr (⟨k,0, .zero,0,n,b, .zero,c, .zero⟩,true)
 else if k=7 then pb l8 λv=>pr (⟨k,0, .zero,0,0, .zero, .zero, .zero,v⟩,kd v)
 else if k=8 then pb (e7 5) λw=>pb l8 λv=>pr (⟨k,w, .zero,0,0, .zero, .zero, .zero,v⟩,kd v)
 else pr (⟨k,0, .zero,0,0, .zero, .zero, .zero, .zero⟩,true)
def df:Ps (RecT×Bool):=pb (e7 6) λk=>
 if k=0 then pb tI λx=>pr (⟨k,0,x,0, .zero, .zero, .zero⟩,gK x)
 else if k=1 then pb (e7 5) λw=>pb tI λx=>pr (⟨k,w,x,0, .zero, .zero, .zero⟩,gK x)
 else if k=2 then pb (e7 5) λw=>pr (⟨k,w, .zero,0, .zero, .zero, .zero⟩,true)
 else if k=3 then pb mB λn=>pb jO λb=>pr (⟨k,0, .zero,n,b, .zero, .zero⟩,true)
 else if k=4 then pb mB λn=>pb jO λb=>pb kN λc=>pr (⟨k,0, .zero,n,b,c, .zero⟩,true)
 else if k=5 then pb l8 λv=>pr (⟨k,0, .zero,0, .zero, .zero,v⟩,kd v)
 else pr (⟨k,0, .zero,0, .zero, .zero, .zero⟩,true)
def gO(bs:List UInt8):MsgT×Int:=match cL bs with
 |some ((m,true),[])=>(m,0)
 |_=>(.zero,1)
def mV(bs:List UInt8):RecT×Int:=match df bs with
 |some ((m,true),[])=>(m,0)
 |_=>(.zero,1)
def dm(m:MsgT):List UInt8:=
 if eY m.kind then bb [m.kind,m.whose]++gZ m.row
 else if m.kind=1 then bb [m.kind,m.version]
 else if e9 m.kind then bb [m.kind,m.epoch]++bb m.ballot.flat
 else if m.kind=4 then bb [m.kind,m.epoch]++bb m.ballot.flat++bb m.had.flat++bb m.change.flat
 else if m.kind=5 then bb [m.kind,m.epoch]++bb m.ballot.flat++bb m.change.flat
 else if m.kind=7 then bb [m.kind]++bb m.view.flat
 else if m.kind=8 then bb [m.kind,m.whose]++bb m.view.flat
 else []
def jB(m:RecT):List UInt8:=
 if m.kind=0 then bb [m.kind]++gZ m.row
 else if m.kind=1 then bb [m.kind,m.whose]++gZ m.row
 else if m.kind=2 then bb [m.kind,m.whose]
 else if m.kind=3 then bb [m.kind,m.epoch]++bb m.ballot.flat
 else if m.kind=4 then bb [m.kind,m.epoch]++bb m.ballot.flat++bb m.change.flat
 else if m.kind=5 then bb [m.kind]++bb m.view.flat
 else []
theorem q7{v:ViewT}{bs r:List UInt8}(h:l8 bs=some (v,r)):Rng v:=λi hi=>by
 have:=(sj h).1.2.2 i hi;exact⟨this.1,by omega⟩
theorem yF{x:RowT}{bs r:List UInt8}(h:tI bs=some (x,r)):WF x.flat:=(u6 h).1.wf
def Nm(n:Int):Prop:=0≤n∧n<9223372036854775808
def OkB(b:BallotT):Prop:=Nm b.round∧0≤b.who∧b.who<5
def OkC(c:ChangeT):Prop:=(0≤c.kind∧c.kind<2)∧(0≤c.who∧c.who<5)∧(0≤c.heir∧c.heir<5)
def MZ(v:ViewT):Prop:=Nm v.epoch∧(0≤v.members∧v.members<32)∧∀(i:Nat) (h:i<5),0≤v.heirs[i]∧v.heirs[i]<6
structure OkM(m:MsgT):Prop where
 kind:0≤m.kind∧m.kind<10
 whose:0≤m.whose∧m.whose<5
 row:TameR m.row
 version:Nm m.version
 epoch:Nm m.epoch
 ballot:OkB m.ballot
 had:OkB m.had
 change:OkC m.change
 view:MZ m.view
theorem JC(i:Nat)(hi:i<5):RowT.zero.heir[i]=0:=by match i,hi with|0,_|1,_|2,_|3,_|4,_=>rfl
theorem Hh(k:Nat)(hk:k<4):RowT.zero.cells[k]=CellT.zero:=by match k,hk with|0,_|1,_|2,_|3,_=>rfl
theorem Cq(i:Nat)(hi:i<5):RowT.zero.left[i]=RowT.zero.cells:=by match i,hi with|0,_|1,_|2,_|3,_|4,_=>rfl
theorem tame_rzero:TameR RowT.zero:=⟨⟨by decide,by decide⟩,λk hk=>by rw[Hh k hk];exact sq,λi hi=>by rw[JC i hi];decide,λi k hi hk=>by rw[show RowT.zero.left[i][k]=RowT.zero.cells[k]from by rw[Cq i hi],Hh k hk];exact sq,λi hi _=>by rw[Cq i hi,Cq 0 (by decide)]⟩
def Cg(m:RecT):Bool:=if m.kind=0∨m.kind=1 then gK m.row else if m.kind=5 then kd m.view else true
structure OkRc(m:RecT):Prop where
 kind:0≤m.kind∧m.kind<6
 whose:0≤m.whose∧m.whose<5
 row:TameR m.row
 epoch:Nm m.epoch
 ballot:OkB m.ballot
 change:OkC m.change
 view:MZ m.view
theorem Gl{m:RecT}{g:Bool}{bs r:List UInt8}(h:df bs=some ((m,g),r)):bs=jB m++r∧Cg m=g∧(0≤m.kind∧m.kind<6)∧(0≤m.whose∧m.whose<5)∧TameR m.row:=by
 obtain⟨k,r1,h1,h2⟩:=bE h;clear h;obtain⟨k1,rfl⟩:=db h1;have tz:=tame_rzero;have kz:(0:Int)≤0∧(0:Int)<5:=by omega
 by_cases c0:k=0
 · simp only[if_pos c0]at h2
   subst c0;obtain⟨x,r3,h5,h6⟩:=bE h2;obtain⟨k5,rfl⟩:=u6 h5;obtain⟨e,rfl⟩:=gU h6;injection e with e1 e2;subst e1;subst e2
   exact⟨by simp[jB,bb],by simp[Cg],⟨k1.1,k1.2.1⟩,kz,k5⟩
 simp only[if_neg c0]at h2
 by_cases c1:k=1
 · simp only[if_pos c1]at h2
   subst c1;obtain⟨w,r2,h3,h4⟩:=bE h2;obtain⟨k3,rfl⟩:=db h3;obtain⟨x,r3,h5,h6⟩:=bE h4;obtain⟨k5,rfl⟩:=u6 h5;obtain⟨e,rfl⟩:=gU h6;injection e with e1 e2;subst e1;subst e2
   exact⟨by simp[jB,bb],by simp[Cg],⟨k1.1,k1.2.1⟩,⟨k3.1,k3.2.1⟩,k5⟩
 simp only[if_neg c1]at h2
 by_cases c2:k=2
 · simp only[if_pos c2]at h2
   subst c2;obtain⟨w,r2,h3,h4⟩:=bE h2;obtain⟨k3,rfl⟩:=db h3;obtain⟨e,rfl⟩:=gU h4;injection e with e1 e2;subst e1;subst e2
   exact⟨by simp[jB,bb],by simp[Cg],⟨k1.1,k1.2.1⟩,⟨k3.1,k3.2.1⟩,tz⟩
 simp only[if_neg c2]at h2
 by_cases c3:k=3
 · simp only[if_pos c3]at h2
   subst c3;obtain⟨n,r2,h3,h4⟩:=bE h2;obtain⟨_,_,rfl⟩:=kC h3;obtain⟨b,r3,h5,h6⟩:=bE h4;obtain⟨_,rfl⟩:=pv h5;obtain⟨e,rfl⟩:=gU h6;injection e with e1 e2;subst e1;subst e2
   exact⟨by simp[jB,bb],by simp[Cg],⟨k1.1,k1.2.1⟩,kz,tz⟩
 simp only[if_neg c3]at h2
 by_cases c4:k=4
 · simp only[if_pos c4]at h2
   subst c4;obtain⟨n,r2,h3,h4⟩:=bE h2;obtain⟨_,_,rfl⟩:=kC h3;obtain⟨b,r3,h5,h6⟩:=bE h4;obtain⟨_,rfl⟩:=pv h5;obtain⟨c,r5,h9,h10⟩:=bE h6;obtain⟨_,rfl⟩:=tx h9;obtain⟨e,rfl⟩:=gU h10;injection e with e1 e2;subst e1;subst e2
   exact⟨by simp[jB,bb],by simp[Cg],⟨k1.1,k1.2.1⟩,kz,tz⟩
 simp only[if_neg c4]at h2;have c5:k=5:=by omega
 simp only[if_pos c5]at h2;subst c5;obtain⟨v,r3,h5,h6⟩:=bE h2;obtain⟨_,rfl⟩:=sj h5;obtain⟨e,rfl⟩:=gU h6;injection e with e1 e2;subst e1;subst e2
 exact⟨by simp[jB,bb],by simp[Cg],⟨k1.1,k1.2.1⟩,kz,tz⟩
theorem Rng.zeros{v:ViewT}(h:v.heirs= #v[0,0,0,0,0]):Rng v:=λi hi=>by
 have:v.heirs[i]=0:=by
  rw[show v.heirs[i]=(#v[0,0,0,0,0]:Vector Int 5)[i]from by rw[h]]
  match i,hi with|0,_|1,_|2,_|3,_|4,_=>rfl
 omega
theorem Rng.zero:Rng ViewT.zero:=Rng.zeros rfl
theorem Rng.first:Rng firstV:=Rng.zeros rfl
structure GoodV(v:ViewT):Prop where
 epoch:1≤v.epoch
 mem:1≤v.members∧v.members<32
 ok: ∀(i:Nat) (h:i<5),IG v v.heirs[i] i=true
 rng:Rng v
def u7(x:RepT):MsgT:= {MsgT.zero with kind:=0,whose:=x.id,row:=x.own}
def rC(id:Int)(x:RowT):MsgT:= {MsgT.zero with kind:=2,whose:=id,row:=x}
def zq(k w:Int):Bool:=decide (k.fdiv (2^min w.toNat IntKind.i64.bits)%2=0)
def oQ(x:RepT):List SaidT:=((gE x.id).filter λw=>zq x.kept w).map λw=>⟨w,u7 x⟩
end Api
namespace Api
open Go Leg Codec
def gg(x:RepT)(o:OpT):RowT×Int:=
 if o.kind=0 then nQ x.own o.key o.n else if o.kind=1 then nR x.own o.key o.n else if o.kind=2 then(if o.to'≠x.id then kI x.own o.key o.n o.to' else(.zero,5))else(.zero,5)
def im(x:RepT)(o:OpT):RowT×Int×Int:=
 if iu x.view x.id=false then(.zero,0,9)else if mn o.key=false then(.zero,0,5)else if o.kind=3 then(.zero,jX x.book o.key,0)else if x.busy then(.zero,0,8)
 else if(gg x o).2≠0 then(.zero,0,(gg x o).2)else if o.kind≠0∧oa x.book x.id o.key<o.n then(.zero,0,7)else((gg x o).1,0,0)
def kc(y:RowT):RecT:= {RecT.zero with kind:=0,row:=y}
end Api
namespace Api
open Go Leg Codec
end Api
namespace Api
open Go Leg Codec
end Api
namespace Api
open Go Leg Codec
end Api
namespace Api
open Go Leg Codec
end Api
end

section
namespace Leg
open Go Go.ChangeShapes Go.WideShapes Codec Api
section
variable {P:Program} {W:World} {H:Type} {enc:TypeId×Value→H} {B0:Nat} {spare:Nat→Bool} {held:Bool}
theorem BM{t:TypeId}{fuel:Nat}{cs:List Value}{x:DataW H×List MemPlace}(ht:P.underlying t=some .bool)(h:DataW.trod enc P W B0 spare held fuel t cs=some x): ∃b,cs=[.bool b]:=by
 cases fuel with
 |zero=>simp[DataW.trod]at h
 |succ n=>
  unfold DataW.trod at h;rw[ht]at h;split at h<;>simp_all
theorem Fits.append{a b:List (Option IntKind)}{x y:List Lit}(h:Fits a x)(g:Fits b y):Fits (a++b) (x++y):=
 ⟨by rw[co,co,h.1,g.1],λl hl=>(cx.1 hl).elim (h.2 l) (g.2 l)⟩
theorem xU{d:Nat}(ih: ∀t ks,lL P d t=some ks→∀fuel cs x,DataW.trod enc P W B0 spare held fuel t cs=some x→∃ls,Fits ks ls∧cs=ls.map ir)(cs:List Value)(n:Nat):
 ∀(fs:List Field) (o:Nat) (ks:List (Option IntKind)),pi P (lL P d) fs o=some ks→cs.length=o+ks.length→
  (∀f∈fs,∃y,DataW.trod enc P W B0 spare held n f.type ((cs.drop f.offset).take (P.cellsOf f.type))=some y)→∃ls,Fits ks ls∧cs.drop o=ls.map ir
 | [],o,ks,h,hl,_=>by
  simp only[pi,Option.some.injEq]at h;subst h;exact⟨[],⟨rfl,λ_ h=>by cases h⟩,by rw[cE (by simpa using cY hl)];rfl⟩
 |f::fs,o,ks,h,hl,hf=>by
  simp only[pi]at h;split at h
  · rename_i c hc
    split at h
    · rename_i hh
      obtain⟨m,hm,rfl⟩:=Option.map_eq_some_iff.1 h;rw[ad]at hl;obtain⟨y,hy⟩:=hf f (by simp);rw[hh.1,hh.2]at hy;obtain⟨l1,f1,e1⟩:=ih f.type c hc n _ _ hy;obtain⟨l2,f2,e2⟩:=xU ih cs n fs (o+c.length) m hm (by omega) (λg hg=>hf g (by simp[hg]));refine⟨l1++l2,f1.append f2,?_⟩;rw[co,←e1,←e2,←jJ];exact(ij _ _).symm
    · cases h
  · cases h
theorem flat_in: ∀(d:Nat) (t:TypeId) (ks:List (Option IntKind)),lL P d t=some ks→∀fuel cs x,DataW.trod enc P W B0 spare held fuel t cs=some x→∃ls,Fits ks ls∧cs=ls.map ir
 |0,_,_,h=>by simp[lL]at h
 |d+1,t,ks,h=>λfuel cs x hx=>by
  have ih:=flat_in d;simp only[lL]at h;split at h
  · rename_i q hu
    simp only[Option.some.injEq]at h;subst h;obtain⟨n,rfl,_,hw⟩:=DataW.trod_int hu hx;exact⟨[.int q n],⟨rfl,by simpa using hw⟩,rfl⟩
  · rename_i hu
    simp only[Option.some.injEq]at h;subst h;obtain⟨b,rfl⟩:=BM hu hx;exact⟨[.bool b],⟨rfl,by simp[Lit.wf]⟩,rfl⟩
  · rename_i n e hu
    split at h
    · rename_i c hc
      split at h
      · rename_i hh
        simp only[Option.some.injEq]at h;subst h;obtain⟨xs,m,_,_,hl,hxl,hxi⟩:=DataW.trod_array hu hx;rw[hh.2]at hl
        have each: ∀k,k≤n→∃ls,Fits (List.replicate k c).flatten ls∧cs.take (k*c.length)=ls.map ir:=by
         intro k
         induction k with
         |zero=>intro _;exact⟨[],⟨rfl,λ_ h=>by cases h⟩,by simp⟩
         |succ k ihk=>
          intro hk;obtain⟨l1,f1,e1⟩:=ihk (by omega);have hy:=hxi k (by omega);rw[List.getElem?_eq_getElem (by omega),hh.1]at hy;obtain⟨l2,f2,e2⟩:=ih e c hc m _ _ hy;refine⟨l1++l2,?_,?_⟩
          · rw[List.replicate_succ',List.flatten_append]
            simpa using f1.append f2
          · rw[co,←e1,←e2,fz,Nat.one_mul,List.take_add]
        obtain⟨ls,f,e⟩:=each n (aP _);rw[aC (by omega)]at e;exact⟨ls,f,e⟩
      · cases h
    · cases h
  · rename_i fs hu
    split at h
    · rename_i m' hc
      split at h
      · rename_i hh
        simp only[Option.some.injEq]at h;subst h;obtain⟨xs,m,_,_,hl,hxl,hxi⟩:=DataW.trod_struct hu hx
        have:=xU (λt ks h=>ih t ks h) cs m fs.toList 0 _ hc (by rw[hl,hh.1,bh]) (λf hf=>by
         obtain⟨i,hi⟩:=List.getElem?_of_mem hf;have hi':fs[i]?=some f:=by simpa using hi
         have:=hxi i f hi';have hlt:=(Array.getElem?_eq_some_iff.1 hi').1;rw[List.getElem?_eq_getElem (by omega)]at this
         exact⟨_,this⟩)
        simpa using this
      · cases h
    · cases h
  · cases h
theorem fits_ints{c:Nat}{ls:List Lit}(h:Fits (List.replicate c (some .i64)) ls): ∃l,ls=nt l∧l.length=c∧WF l:=by
 obtain⟨h1,h2⟩:=h
 have e: ∀x∈ls,∃n,x= .int .i64 n:=λx hx=>by
  have:xN x∈ls.map xN:=Dd hx;rw[h1,List.map_replicate]at this;have:=List.eq_of_mem_replicate this;cases x<;>simp only[xN,Option.some.injEq,reduceCtorEq]at this;subst this;exact⟨_,rfl⟩
 refine⟨ls.map λx=>match x with| .int _ n=>n|_=>0,?_,?_,?_⟩
 · rw[nt,Na]
   conv=>lhs;rw[←List.map_id ls]
   refine dM λx hx=>?_
   obtain⟨n,rfl⟩:=e x hx;rfl
 · have:=congrArg List.length h1
   simpa using this
 · intro n hn
   obtain⟨x,hx,rfl⟩:=eH.1 hn;obtain⟨n,rfl⟩:=e x hx;exact h2 _ hx
theorem litI_cells(l:List Int):(nt l).map ir=ints l:=by simp[nt,ints,ir]
theorem wV{a:Addr}{v:Value}(h:W.cell? a=some v): ∃b o cs T z,a=⟨b,o,none⟩∧W.heap[b]?=some (.cells (List.toArray cs) T z)∧cs[o]?=some v:=by
 obtain⟨b,o,s⟩:=a;simp only[World.cell?]at h;split at h
 · rename_i cs T z hb
   cases s with
   |some s=>simp at h
   |none=>exact⟨b,o,cs.toList,T,z,rfl,by simpa using hb,by simpa using h⟩
 · cases h
theorem GU{t e:TypeId}{fuel size:Nat}{α:Type}{E:List Value→α→Hl→Prop}{cs:List Value}{x:DataW H×List MemPlace}(ht:P.underlying t=some (.slice e))(hc:P.cellsOf e=size)(hs:0<size)
 (hE: ∀fuel cs x,DataW.trod enc P W B0 spare held fuel e cs=some x→∃a,E cs a (hp W)) (h:DataW.trod enc P W B0 spare held fuel t cs=some x): ∃u l,cs=[u]∧IsL size E u l (hp W):=by
 classical
 rcases Deep.open_slice ht h with⟨rfl,_⟩| ⟨a,len,cap,m,n,D,Pl,rfl,_,hl,hm,hmm,_,hx⟩
 · exact⟨_,[],rfl, .inl ⟨rfl,rfl⟩⟩
 · have hlm:len≤m:=by rw[hmm];split<;>omega
   by_cases h0:len=0
   · subst h0
     exact⟨_,[],rfl, .inr (.inl ⟨a,cap,rfl,rfl⟩)⟩
   · have first: ∃v,W.cell? a=some v:=by
      obtain⟨cs',h1,_⟩:=hx 0 (by omega);obtain⟨_,h2,h3⟩:=World.cells?_some h1;have:=h3 0 (by omega);rw[gi,show(a.add 0).add 0=a from rfl,List.getElem?_eq_getElem (by omega)]at this;exact⟨_,this⟩
     obtain⟨v,hv⟩:=first;obtain⟨b,o,bs,T,z,rfl,hb,_⟩:=wV hv
     have each: ∀i,i<len→∃us,us.length=size∧(bs.drop (o+i*size)).take size=us∧∃x,E us x (hp W):=λi hi=>by
      obtain⟨cs',h1,h2⟩:=hx i (by omega);obtain⟨_,h3,h4⟩:=World.cells?_some h1;rw[hc]at h3 h4;refine⟨cs',h3,?_,hE _ _ _ h2⟩;apply List.ext_getElem?;intro k;rw[List.getElem?_take];split
      · rename_i hk
        have:=h4 k hk;rw[px,px]at this;simp only[World.cell?,hb,Option.isSome_none,Bool.false_eq_true,if_false]at this;rw[List.getElem?_drop]
        simpa using this
      · rw[List.getElem?_eq_none (by omega)]
     obtain⟨f,hf⟩: ∃f:Nat→α,∀i,i<len→E ((bs.drop (o+i*size)).take size) (f i) (hp W):=by
      have each': ∀i,i<len→∃x,E ((bs.drop (o+i*size)).take size) x (hp W):=λi hi=>by
       obtain⟨us,_,e2,q⟩:=each i hi;rw[e2];exact q
      obtain⟨x,_⟩:=each' 0 (by omega)
      haveI:Inhabited α:=⟨x⟩
      exact Deep.choose_lt each'
     refine⟨_,(List.range len).map f,rfl, .inr (.inr ⟨b,o,cap,bs,T,z,by simp,by simpa using hl,by simpa [maxLen]using hm,hb,λj hj=>?_⟩)⟩;have hj':j<len:=by simpa using hj
     obtain⟨us,e1,e2,_⟩:=each j hj';exact⟨us,e1,e2,by rw[←e2];simpa using hf j hj'⟩
theorem listV_in{t e:TypeId}{size:Nat}{α:Type}{E:List Value→α→Hl→Prop}{v:Value}{d:DataW H}{ps:List MemPlace}(ht:P.underlying t=some (.slice e))(hc:P.cellsOf e=size)(hs:0<size)(hv:Value.okWide P W .any B0 t v)
 (hE: ∀fuel cs x,DataW.trod enc P W 0 spare held fuel e cs=some x→∃a,E cs a (hp W)) (hd:DataW.Trod enc P W 0 spare held t v d ps): ∃l,IsL size E v l (hp W):=by
 obtain⟨fuel,hf⟩:=hd;obtain⟨u,l,h1,h2⟩:=GU ht hc hs hE hf;obtain⟨a,len,cap,rfl⟩:=WideShapes.okWide_slice ht hv;simp[Value.cells]at h1;subst h1;exact⟨l,h2⟩
end
section
variable {P:Program} {w0:World} {F:Hl} {n:Nat} {ops:Array Oper} {Q:QQ} {D:List Deferred} {L:List (Nat×Value)} {H:List HP} {o:Oper} {l:List Oper} {d:Nat} {S:World→Prop}
def wo(P:Program)(t:TypeId)(rv:Value)(nm:String)(f:FuncId):Prop:=∀w,(method (P.types.size+Made.depth) t rv nm).run P w= .ok (f,rv) w
theorem TL.callI{recv:Operand}{nm:String}{t:TypeId}{rv:Value}{f:FuncId}{xs:Array Operand}{ts:Array TypeId}{vs:List Value}{R:Hl→Prop}{A B:List HP}{p:Value→List HP→Prop}(hw:Want n D ops o L)
 (ho:o.op= .call {callee:= .invoke recv nm,args:=xs,argTypes:=ts}) (hd:o.dst=some d) (hn:Nat.blt d n=true) (hr:cQ L recv=some (.iface t rv)) (hm:wo P t rv nm f) (hf:Named P f) (hx:y7 L xs.toList=some vs)
 (sp:Does P f (rv::vs).toArray R A (dw p)) (hp: ∀h,bH H h→bH (A++B) h) (hR: ∀g,Dj g F→bH B g→R (jn g F))
 (hret: ∀v H',p v H'→TL P w0 F n ops Q l D ((d,v)::L) (H'++B)):TL P w0 F n ops Q (o::l) D L H:=
 TL.callw hw (λa w g=>by
  have e:xs.map a.eval=vs.toArray:=g.evals hx;have e2:a.eval recv= .iface t rv:=g.eval hr;have e3:=hm w
  simp[execOp,ho,resolve,invoke,callMethod,e,e2,e3,lQ hf])
  sp hp hR (λv H' q a g w s m=>by rw[hd];exact hret v H' q _ w (g.put (lb hn) v) s m) (λ_ _ h=>h.elim) (λ_ h=>h)
theorem TE.retCTT{H':List HP}{fn:Func}{post:Ending→List HP→Prop}{t t' t2 ty e m b:Nat}{cs:List Value}{z:Nat×Nat}{dt:TypeDesc}{v' v2:Value}(hr:fn.results=#[.cell t ty, .tmp t', .tmp t2])(he:lk L t=some (.pointer (some ⟨b,0,none⟩)))(e':lk L t'=some v')(e2:lk L t2=some v2)
 (hu:P.underlying ty=some dt) (hp:dZ dt=false) (hm:(P.info? ty).map (·.size)=some m) (hR:Rd (Sat H F) b (.cells cs.toArray e z)) (hl:cs.length=m) (hk: ∀h,bH H h→bH H' h)
 (h:post (.returned (.tuple #[.agg cs.toArray,v',v2])) H'):TE w0 F n (bodyPost P fn (jq post w0 F)) .ret [] L H:=λa w f s q=>by
 have h1:a.tmps.getD t undef= .pointer (some ⟨b,0,none⟩):=f.eval (x:= .tmp t) he;have h2:a.tmps.getD t' undef=v':=f.eval (x:= .tmp t') e';have h4:a.tmps.getD t2 undef=v2:=f.eval (x:= .tmp t2) e2
 have h3:(results fn a.tmps).run P w= .ok (.tuple #[.agg cs.toArray,v',v2]) w:=by
  have h1':a.tmps[t]?.getD undef= .pointer (some ⟨b,0,none⟩):=by simpa using h1
  have h2':a.tmps[t']?.getD undef=v':=by simpa using h2
  have h4':a.tmps[t2]?.getD undef=v2:=by simpa using h4
  simp[results,hr,h1',h2',h4',asAddr,run_loadVar_row w b e ty cs.toArray z dt (hR w q) hu (by cases dt<;>simp[dZ]at hp ⊢) (by simp[hm,hl])]
 exact bodyPost_ret h3 f.2.1 ⟨s,H',q.mono hk,h⟩
theorem PV.ifaceNotNil{t t' u:TypeId}{x:Operand}{v:Value}{ms:Array (String×TypeId)}(ho:o.op= .binOp .neq t x (.const .nilIface) t')(ht:P.underlying t=some (.interface ms))(hx:cQ L x=some (.iface u v)):PV P n D L S o (.bool true):=
 gq ho hx rfl λw=>by
  have:=pZ (P:=P) (w:=w) 9999 (u:=u) (v:=v) ht;simp[eqGuard,binOp,Op.equal,Op.maxDepth,this]
end
theorem DV(i:Nat){v:Value}{l:List Int}{e:Nat}{B:List HP}{F:Hl}(hi:Nat.blt i B.length=true)(hH:B.getD i (λ_=>True)=own v l.length (Api.ints l) e 1): ∀g,Dj g F→bH B g→IsI .i64 v l (jn g F):=λg _ s=>by
 obtain⟨h1,h2,d',rfl,a,_⟩:=eI i (lb hi) s;rw[hH]at a;rcases a with⟨_,⟨h0,hn,_⟩| ⟨g,cap,cur,hv,hh,h3,h4,h5,h6⟩⟩
 · exact .inl ⟨h0,List.eq_nil_of_length_eq_zero hn⟩
 · refine .inr ⟨g,0,cap,cur.toList,e,(0,0),hv,h3,by simp only[maxLen]at h4;omega,gG (gG (by rw[hh];simp[sg])),λj hj=>?_⟩
   rw[fy]at h6;have e1:(cur.toList.take l.length)[j]?=some (.int .i64 (l.getD j 0)):=by rw[h6];exact Api.ints_get l j hj
   rw[List.getElem?_take,if_pos hj]at e1
   simpa using e1
variable {P:Program} {w0:World} {F:Hl} {n:Nat} {ops:Array Oper} {Q:QQ} {D:List Deferred} {L:List (Nat×Value)} {H:List HP} {d:Nat} {o:Oper} {l:List Oper}
theorem RU{fn:Func}{post:Ending→List HP→Prop}{t t' t2 ty e m b:Nat}{cs:List Value}{dt:TypeDesc}{v' v2:Value}(k:Nat)(is:List Nat)(hu:P.underlying ty=some dt)(hm:(P.info? ty).map (·.size)=some m)(hl:cs.length=m)(h:post (.returned (.tuple #[.agg cs.toArray,v',v2])) ((Ag H is).take is.length))(hr:fn.results=#[.cell t ty, .tmp t', .tmp t2]:=by exact rfl)(he:lk L t=some (.pointer (some ⟨b,0,none⟩)):=by exact rfl)(e':lk L t'=some v':=by exact rfl)(e2:lk L t2=some v2:=by exact rfl)(hp:dZ dt=false:=by exact rfl)(hk:Nat.blt k H.length=true:=by exact rfl)(hH:H.getD k (λ_=>True)=aj b cs e:=by exact rfl)(hs:H4 H.length is=true:=by exact rfl):TE w0 F n (bodyPost P fn (jq post w0 F)) .ret [] L H:=TE.retCTT hr he e' e2 hu hp hm (eR k hk hH) hl (λ_ s=>ak is hs s) h
end Leg
end

section
namespace Dsk
open Go Leg Codec Api
abbrev js:=List UInt8
def zs:js:=List.replicate 64 0
def ED(b:js):Value:= .agg (ek b).toArray
abbrev fo:=List (Int×js)
def ky(s:fo)(k:Int):js:=match s with
 | []=>zs
 | (a,b)::s=>if k=a then b else ky s k
def m9(s:fo)(k:Int)(v:js):fo:=match s with
 | []=>[(k,v)]
 | (a,b)::s=>if k=a then(a,v)::s else(a,b)::m9 s k v
theorem F8(s:fo)(k j:Int)(v:js):ky (m9 s k v) j=if j=k then v else ky s j:=by
 induction s with
 |nil=>simp[m9,ky]
 |cons p s ih=>
  obtain⟨a,b⟩:=p;simp only[m9]
  by_cases h:k=a
  · subst h
    rw[if_pos rfl]
    by_cases h2:j=k
    · simp[ky,h2]
    · simp[ky,h2]
  · rw[if_neg h]
    simp only[ky]
    by_cases h2:j=a
    · subst h2
      rw[if_pos rfl,if_pos rfl,if_neg (by omega)]
    · rw[if_neg h2,if_neg h2,ih]
def r9(s:fo):List (Int×Value):=s.map λp=>(p.1,ED p.2)
theorem AM(s:fo)(k:Int):(qA (r9 s) k).getD (ED zs)=ED (ky s k):=by
 induction s with
 |nil=>rfl
 |cons p s ih=>
  obtain⟨a,b⟩:=p;simp only[r9,fi,qA,ky]at ih ⊢;split
  · rfl
  · exact ih
theorem GX(s:fo)(k:Int)(v:js):ou (r9 s) k (ED v)=r9 (m9 s k v):=by
 induction s with
 |nil=>rfl
 |cons p s ih=>
  obtain⟨a,b⟩:=p;simp only[r9,fi,ou,m9]at ih ⊢;split
  · rfl
  · rw[ih];rfl
def cT(p:Int×js):List Value:= .int .i64 p.1::ek p.2
def dz(ws:fo):List Value:=ws.flatMap cT
def eB(b:List UInt8):js:=b++List.replicate (64-b.length) 0
theorem du{b:List UInt8}(h:b.length≤64):(eB b).length=64:=by simp[eB];omega
def Whole(s:fo):Prop:=∀p∈s,p.2.length=64
theorem cf{p:Int×js}(h:p.2.length=64):(cT p).length=65:=by simp[cT,ek,h]
theorem Eg{ws:fo}(h:Whole ws){k:Nat}(hk:k<ws.length):((dz ws).drop (k*65)).take 65=cT ws[k]:=by
 induction ws generalizing k with
 |nil=>simp at hk
 |cons p ws ih=>
  have h1:=cf (h p (by simp));simp only[dz,c9]at ih ⊢;cases k with
  |zero=>
   simp only[gi,bd,nD];rw[cr (by omega),aC (by omega)]
  |succ k=>
   rw[g9,cE (by omega),h1,show(k+1)*65-65=k*65 by omega,ce]
   simpa using ih (λq hq=>h q (by simp[hq])) (by simpa using hk)
theorem eV{s:fo}(h:Whole s)(k:Int):(ky s k).length=64:=by
 induction s with
 |nil=>simp[ky,zs]
 |cons p s ih=>
  obtain⟨a,b⟩:=p;simp only[ky];split
  · exact h (a,b) (by simp)
  · exact ih λq hq=>h q (by simp[hq])
theorem Whole.put{s:fo}(h:Whole s)(k:Int){v:js}(hv:v.length=64):Whole (m9 s k v):=by
 induction s with
 |nil=>intro p hp;simp only[m9,da]at hp;subst hp;exact hv
 |cons p s ih=>
  obtain⟨a,b⟩:=p;intro q hq;simp only[m9]at hq;split at hq
  · rcases ci.1 hq with rfl|hq
    · exact hv
    · exact h q (by simp[hq])
  · rcases ci.1 hq with rfl|hq
    · exact h (a,b) (by simp)
    · exact ih (λq hq=>h q (by simp[hq])) q hq
theorem Whole.add{s:fo}(h:Whole s)(k:Int){v:js}(hv:v.length=64):Whole (s++[(k,v)]):=λp hp=>by
 rcases cx.1 hp with hp|hp
 · exact h p hp
 · simp only[da]at hp;subst hp;exact hv
section
variable {P:Program} {n:Nat} {D:List Deferred} {L:List (Nat×Value)} {S:World→Prop} {o:Oper}
theorem PV.mapNil{t t' k e m:TypeId}{x y:Operand}(ho:o.op= .binOp .eql t x y t')(hu:P.underlying t=some (.map k e))(hx:cQ L x=some (.map (some m)))(hy:cQ L y=some (.map none)):PV P n D L S o (.bool false):=
 gq ho hx hy λw=>by
  have e:(Op.equal t (.map (some m)) (.map none)).run P w= .ok false w:=run_equalIn_map_nil w 9999 t k e (some m) hu;simp[eqGuard,binOp,e]
end
end Dsk
namespace Dsk
open Go Leg Codec Api
theorem yi{k:Int}{b:List UInt8}(h:b.length≤64):wr (.int .i64 k::ek zs) 1 ((ek b).take (min b.length 64))=cT (k,eB b):=by
 have e:(ek b).take (min b.length 64)=ek b:=aC (by rw[bm];omega);rw[e,wr,bm]
 have e2:(Value.int IntKind.i64 k::ek zs).drop (1+b.length)=ek (List.replicate (64-b.length) 0):=by
  rw[show 1+b.length=b.length+1 by omega,gS];rw[ek,ek,zs,←ko,List.drop_replicate]
 rw[e2];simp only[cT,eB,ek,co,List.take_succ_cons,List.take_zero,wn,ce]
theorem G5(vs:List Value): ∀(j:Nat) (pre zeros:List Value),pre.length=j→zeros.length=vs.length→
 ((vs.zipIdx j).foldl (λ(cs:Array Value) (c,i)=>cs.setIfInBounds (0+i) c) (pre++zeros).toArray)=(pre++vs).toArray:=by
 induction vs with
 |nil=>intro j pre zeros _ h;rw[List.eq_nil_of_length_eq_zero h];rfl
 |cons v vs ih=>
  intro j pre zeros hp hz
  match zeros,hz with
  |z::zeros,hz=>
   rw[List.zipIdx_cons,List.foldl_cons]
   have e:(pre++z::zeros).toArray.setIfInBounds (0+j) v=((pre++[v])++zeros).toArray:=by
    rw[bh,List.setIfInBounds_toArray,fV _ _ (by omega),hp,w9,bU,aY];rfl
   simp only[e];rw[ih (j+1) (pre++[v]) zeros (by simp[hp]) (by simpa using hz),aY];rfl
theorem CA{zeros:Array Value}{vs:List Value}(h:zeros.size=vs.length):Instr.fill (λi=>some (i*vs.length,vs.length)) zeros [(0, .agg vs.toArray)]=some vs.toArray:=by
 have e:=G5 vs 0 [] zeros.toList rfl (by simpa using h);simp only[ce,Array.toArray_toList]at e;simp only[Instr.fill,Value.cells,List.size_toArray,gi,bh,ne_eq,not_true_eq_false,false_or,decide_false,Bool.false_or];rw[if_neg (by simp[h])];rw[←Array.foldl_toList,Array.toList_zipIdx];simp only[bh]at e;rw[e]
theorem lU{zeros:Array Value}{vs:List Value}{size:Nat}(h:vs.length=size)(hz:zeros.size=size):Instr.fill (λi=>some (i*size,size)) zeros [(0, .agg vs.toArray)]=some vs.toArray:=by
 subst h;exact CA hz
theorem ib(p:Int×js): ∀u∈cT p,u.oneCell'=true:=by
 intro u hu;rcases ci.1 hu with rfl|hu
 · rfl
 · exact eU _ u hu
end Dsk
namespace Leg
open Go
section
variable {P:Program} {w0:World} {F:Hl} {n:Nat} {ops:Array Oper} {Q:QQ} {D:List Deferred} {L:List (Nat×Value)} {H:List HP} {l:List Oper}
end
end Leg
namespace Dsk
open Go Leg Codec Api
def kn(ws:fo)(k:Nat):Int×js:=ws.getD k (0,zs)
theorem ux{ws:fo}{k:Nat}(hk:k<ws.length):kn ws k=ws[k]:=by simp[kn,List.getD_eq_getElem?_getD,hk]
theorem dF{ws:fo}(h:Whole ws){k:Nat}(hk:k<ws.length):(kn ws k).2.length=64:=by rw[ux hk];exact h _ (bZ hk)
theorem pH{ws:fo}(h:Whole ws){k:Nat}(hk:k<ws.length):((dz ws).drop (k*65)).take 65=cT (kn ws k):=by rw[ux hk];exact Eg h hk
theorem Ei{ws:fo}(h:Whole ws){k:Nat}(hk:k<ws.length):(dz ws)[k*65]?=some (.int .i64 (kn ws k).1):=by
 have e:=congrArg (λl:List Value=>l[0]?) (pH h hk)
 simpa [cT]using e
theorem Eh{ws:fo}(h:Whole ws){k:Nat}(hk:k<ws.length):((dz ws).drop (k*65+1)).take 64=ek (kn ws k).2:=by
 have e:=congrArg (λl:List Value=>l.drop 1) (pH h hk);simp only[nE,jJ,cT,gS,bd]at e;exact e
theorem uo{p:Int×js}(h:p.2.length=64):((cT p).drop 1).take 64=ek p.2:=by
 simp only[cT,gS,bd];exact aC (by rw[bm,h];exact aP _)
theorem zF{p:Int×js}{c:Nat}(h:p.2.length=64)(hc:c≤64):((cT p).drop 1).take (min c 64)=(ek p.2).take c:=by
 simp only[cT,gS,bd];congr 1;omega
theorem uD{l:List Value}{n:Nat}(h:l.length=n):(l.drop 0).take n=l:=by rw[bd,aC (by omega)]
def AJ(s ws:fo):Nat→fo
 |0=>s
 |k+1=>m9 (AJ s ws k) (kn ws k).1 (kn ws k).2
theorem Whole.lay{s ws:fo}(h:Whole s)(hw:Whole ws): ∀k,k≤ws.length→Whole (AJ s ws k)
 |0,_=>h
 |k+1,hk=>(Whole.lay h hw k (by omega)).put _ (dF hw (by omega))
def re(old new:js)(c:Nat):js:=new.take c++old.drop c
theorem pJ{old new:js}{c:Nat}(h1:old.length=64)(h2:new.length=64):(re old new c).length=64:=by simp[re];omega
def pn(n:Int):Nat:=(min (max n 0) 64).toNat
theorem Io(n:Int):min (max n 0) 64=((pn n:Nat):Int):=by unfold pn;omega
theorem rQ(n:Int):pn n≤64:=by unfold pn;omega
def l5(mask torn:Int)(c:Nat)(s:fo)(k:Nat)(p:Int×js):fo:=
 if(k:Int)=torn then m9 s p.1 (re (ky s p.1) p.2 c)else if mask.fdiv (2^ (k%32))%2=1 then m9 s p.1 p.2 else s
def mp(mask torn:Int)(c:Nat)(s ws:fo):Nat→fo
 |0=>s
 |k+1=>l5 mask torn c (mp mask torn c s ws k) k (kn ws k)
theorem Whole.crash{mask torn:Int}{c:Nat}{s ws:fo}(h:Whole s)(hw:Whole ws): ∀k,k≤ws.length→Whole (mp mask torn c s ws k)
 |0,_=>h
 |k+1,hk=>by
  have ih:=Whole.crash (mask:=mask) (torn:=torn) (c:=c) h hw k (by omega);simp only[mp,l5];split
  · exact ih.put _ (pJ (eV ih _) (dF hw (by omega)))
  · split
    · exact ih.put _ (dF hw (by omega))
    · exact ih
def iH(s ws:fo)(at':Int):Nat→js
 |0=>ky s at'
 |k+1=>if(kn ws k).1=at' then(kn ws k).2 else iH s ws at' k
theorem xz{s ws:fo}(h:Whole s)(hw:Whole ws)(at':Int): ∀k,k≤ws.length→(iH s ws at' k).length=64
 |0,_=>eV h _
 |k+1,hk=>by
  simp only[iH];split
  · exact dF hw (by omega)
  · exact xz h hw at' k (by omega)
theorem ER{s ws:fo}{at':Int}{k:Nat}(h:(kn ws k).1=at'):iH s ws at' (k+1)=(kn ws k).2:=by simp[iH,h]
theorem Cb{s ws:fo}{at':Int}{k:Nat}(h:(kn ws k).1≠at'):iH s ws at' (k+1)=iH s ws at' k:=by simp[iH,h]
theorem En{old new:js}{c m:Nat}(hc:c≤64)(h1:old.length=64)(h2:new.length=64)(hm:m=c):wr (ek old) 0 (((ek new).take c).take m)=ek (re old new c):=by
 subst hm;have:((ek new).take m).length=m:=by rw[bo,bm];omega
 rw[aC (by omega),wr,this,List.take_zero,ce,bh];simp[ek,re,oG,ko]
structure DS where
 s:fo
 ws:fo
 ar:Bool
 lf:Int
 dn:Bool
structure DS.Ok(D:DS):Prop where
 s:Whole D.s
 ws:Whole D.ws
 lf:0≤D.lf∧D.lf≤9223372036854775807
def DS.new:DS:=⟨[],[],false,0,false⟩
def DS.arm(D:DS)(n:Int):DS:= {D with ar:=true,lf:=max n 0}
def DS.write(D:DS)(at':Int)(bs:List UInt8):Int×DS:=
 if at'<0∨2048≤at'∨64<bs.length then(5,D)
 else if D.dn=true∨(D.ar=true∧D.lf=0)then(4,{D with dn:=true})
 else(0,{D with ws:=D.ws++[(at',eB bs)],lf:=if D.ar=true then D.lf-1 else D.lf,dn:=false})
def DS.sync(D:DS):Int×DS:=if D.dn=true then(4,D)else(0,{D with s:=AJ D.s D.ws D.ws.length,ws:=[]})
def DS.crash(D:DS)(mask torn n:Int):DS:=⟨mp mask torn (pn n) D.s D.ws D.ws.length,[],false,0,false⟩
def DS.read(D:DS)(at':Int):js:=iH D.s D.ws at' D.ws.length
theorem lY:Whole []:=λ_ h=>absurd h (by simp)
theorem DS.new_ok:DS.new.Ok:=⟨lY,lY,⟨by decide,by decide⟩⟩
theorem DS.write_ok{D:DS}(h:D.Ok)(at':Int)(bs:List UInt8):(D.write at' bs).2.Ok:=by
 unfold DS.write;split
 · exact h
 · split
   · exact⟨h.s,h.ws,h.lf⟩
   · rename_i h1 h2
     refine⟨h.s,h.ws.add _ (du (by omega)),?_⟩;have:=h.lf;show 0≤(if D.ar=true then D.lf-1 else D.lf)∧(if D.ar=true then D.lf-1 else D.lf)≤9223372036854775807;split<;>rename_i h3
     · have:D.lf≠0:=λq=>h2 (.inr ⟨h3,q⟩)
       exact⟨by omega,by omega⟩
     · exact this
theorem DS.sync_ok{D:DS}(h:D.Ok):D.sync.2.Ok:=by
 unfold DS.sync;split
 · exact h
 · exact⟨h.s.lay h.ws _ (aP _),lY,h.lf⟩
theorem DS.crash_ok{D:DS}(h:D.Ok)(mask torn n:Int):(D.crash mask torn n).Ok:=⟨h.s.crash h.ws _ (aP _),lY,⟨by simp[DS.crash],by simp[DS.crash]⟩⟩
theorem DS.read_len{D:DS}(h:D.Ok)(at':Int):(D.read at').length=64:=xz h.s h.ws _ _ (aP _)
abbrev lu:= @DS.read_len
theorem DS.write_ws{D:DS}{at':Int}{bs:List UInt8}:(D.write at' bs).2.ws.length≤D.ws.length+1:=by
 unfold DS.write;split
 · simp
 · split
   · simp
   · simp
abbrev Lx(DT WT:Nat)(d:Nat)(D:DS):HP:=pack λx:Nat×Value=>[aj d [.map (some x.1),x.2, .bool D.ar, .int .i64 D.lf, .bool D.dn] DT,jy x.1 (r9 D.s),own x.2 D.ws.length (dz D.ws) WT 65]
end Dsk
end

section
namespace Go.Proofs.YtjblgopghhgflaaGreat
open Go Leg Codec Api Dsk
theorem zb(d m:Nat)(wv:Value)(ar dn:Bool)(lf:Int):
 DT 57 #[(.pointer (some ⟨d,0,none⟩))] T0 [aj d [(.map (some m)),wv,(.bool (ar)),(.int .i64 (lf)),(.bool (dn))] 161] (RI (.bool dn) [aj d [(.map (some m)),wv,(.bool (ar)),(.int .i64 (lf)),(.bool (dn))] 161]):=by
 refine BD 7 Tryz.func57 rfl rfl rfl λw0 F hF=>sr λ_ J1=>PS ?_
 refine nx J1 (sr λ_ J2=>P2 ?_);refine FA 4 gB kp ?_;refine LA 0 Y4 ?_;refine PS ?_;exact nx J2 (ai (WK [0] (aq rfl rfl ⟨rfl,rfl⟩)))
theorem A4(d m:Nat)(wv:Value)(ar dn:Bool)(lf n:Int):
 DT 61 #[(.pointer (some ⟨d,0,none⟩)),(.int .i64 (n))] T0 [aj d [(.map (some m)),wv,(.bool (ar)),(.int .i64 (lf)),(.bool (dn))] 161] (dw (λ_ H=>H=[aj d [(.map (some m)),wv,(.bool true),(.int .i64 ((max n 0))),(.bool (dn))] 161])):=by
 refine BD 12 Tryz.func61 rfl rfl rfl λw0 F hF=>af (P3 ?_)
 refine tp (w6 rfl rfl rfl) ?_;refine PS ?_;refine FA 2 gB kp ?_;refine S0 0 kp ?_;refine PS ?_;refine FA 3 gB aO ?_;refine S0 0 aO ?_;exact au (WK [0] (bu rfl rfl))
theorem A3:
 DT 54 #[] T0 [] (dw (λv H=>∃d m,v= .pointer (some ⟨d,0,none⟩)∧H=[aj d [(.map (some m)),(.slice none 0 0),(.bool false),(.int .i64 0),(.bool false)] 161,jy m ([])])):=by
 refine BD 4 Tryz.func54 rfl rfl rfl λw0 F hF=>sr λ_ J1=>PS ?_
 refine nx J1 (sr λ_ J2=>TL.makeMap (ab rfl) rfl rfl rfl (λm1=>BV #[(.map (some m1)),(.slice none 0 0),(.bool false),(.int .i64 0),(.bool false)] ?_));refine XB λb3=>?_
 refine PS ?_;exact nx J2 (ai (WK [0,0] (aq rfl rfl ⟨b3,m1,rfl,rfl⟩)))
theorem dC:Tryz.prog.follows .mixedOrders=true:=by kernel_rfl
theorem n7(d m:Nat)(wv:Value)(s:fo)(ar dn:Bool)(lf at':Int)(b:List UInt8)(hb:b.length=64):
 DT 114 #[(.pointer (some ⟨d,0,none⟩)),(.int .i64 (at')),(.agg (ek b).toArray)] T0 [aj d [(.map (some m)),wv,(.bool (ar)),(.int .i64 (lf)),(.bool (dn))] 161,jy m (r9 s)] (dw (λ_ H=>H=[aj d [(.map (some m)),wv,(.bool (ar)),(.int .i64 (lf)),(.bool (dn))] 161,jy m (r9 (m9 s at' b))])):=by
 refine BD 21 Tryz.func114 rfl rfl rfl λw0 F hF=>sr λ_ J1=>XY (ek b) λb5=>?_
 refine nx J1 (aa λ_ J2=>sr λ_ J3=>P2 ?_);refine FA 0 gB Di ?_;refine LA 1 Bn ?_;refine tp (PV.mapNil rfl Bn rfl rfl) ?_;refine nx J3 (CN (qx J2 (D2 1 0 dC ?_)));refine PD 0 ?_;refine PD 1 ?_;refine FD 2 0 gB Di ?_;refine LX 3 Bn (.map (some m)) ?_ (hc:=by exact rfl);refine PD 4 ?_;refine ta 5 rfl (aK (vs:=ek b) rfl qJ rfl kq rfl (λ_ h=>h.2.2.1) (by rw[bm];exact hb) (by rw[bd,aC (by rw[bm,hb];exact aP _)])) ?_;refine AL 6 ?_;exact TL.mapUpdate (i:=2) (H':=[aj b5 (ek b) 128,aj d [(.map (some m)),wv,(.bool (ar)),(.int .i64 (lf)),(.bool (dn))] 161,jy m (r9 (m9 s at' b))]) (ab rfl) rfl rfl Bn Y3 rfl rfl rfl rfl rfl (congrArg (λq=>List.set _ 2 (jy m q)) (GX _ _ _)) (EN (DN (WK [1,1] (bu rfl rfl))))
theorem wP(d m:Nat)(wv:Value)(ws:fo)(ar dn:Bool)(lf at':Int)(x:Value)(bs:List UInt8)(hl:0≤lf∧lf≤9223372036854775807)(hw:ws.length≤1000000000):
 DT 70 #[(.pointer (some ⟨d,0,none⟩)),(.int .i64 (at')),x] (IsW x bs) [aj d [(.map (some m)),wv,(.bool (ar)),(.int .i64 (lf)),(.bool (dn))] 161,own wv (ws.length) (dz ws) 187 65] (dw (λv H=>if at'<0∨2048≤at'∨64<bs.length then v= .int .i64 5∧H=[aj d [(.map (some m)),wv,(.bool (ar)),(.int .i64 (lf)),(.bool (dn))] 161,own wv (ws.length) (dz ws) 187 65]else if dn=true∨(ar=true∧lf=0)then v= .int .i64 4∧H=[aj d [(.map (some m)),wv,(.bool (ar)),(.int .i64 (lf)),(.bool true)] 161,own wv (ws.length) (dz ws) 187 65]else v= .int .i64 0∧∃wv',H=[aj d [(.map (some m)),wv',(.bool (ar)),(.int .i64 ((if ar=true then lf-1 else lf))),(.bool false)] 161,own wv' ((ws++[(at',eB bs)]).length) (dz (ws++[(at',eB bs)])) 187 65])):=by
 refine BD 64 Tryz.func70 rfl rfl rfl λw0 F hF=>sr λ_ J1=>PS ?_
 refine nx J1 (aa λ_ J2=>sr λ_ J3=>P2 ?_);refine am ?_ ?_<;>intro h9;refine PS ?_;refine UT ?_;refine UT ?_;refine P2 ?_
 iterate 3 refine UT ?_
 refine PS ?_;refine nx J3 (CY (sr λ_ J4=>PS ?_));refine nx J4 (ai (ae (WK [0,0] (aq rfl rfl ?_))));show(if _ then _ else _)
 first
  | (rw[if_pos (by omega)];exact⟨rfl,rfl⟩)
  | (rw[if_neg (by omega),if_pos (by simp_all)];exact⟨rfl,by simp_all<;>rfl⟩)
  | (rw[if_neg (by omega),if_neg (by simp_all)];exact⟨rfl,v61,by simp_all<;>rfl⟩)
 refine P3 ?_;refine am ?_ ?_<;>intro h12;refine P2 ?_
 iterate 3 refine UT ?_
 refine PS ?_;refine nx J3 (CY (sr λ_ J5=>PS ?_));refine nx J5 (ai (ae (WK [0,0] (aq rfl rfl ?_))));show(if _ then _ else _)
 first
  | (rw[if_pos (by omega)];exact⟨rfl,rfl⟩)
  | (rw[if_neg (by omega),if_pos (by simp_all)];exact⟨rfl,by simp_all<;>rfl⟩)
  | (rw[if_neg (by omega),if_neg (by simp_all)];exact⟨rfl,v61,by simp_all<;>rfl⟩)
 refine P3 ?_;refine tq (cu rfl gk rfl hF.len) ?_;refine PS ?_;refine am ?_ ?_<;>intro h17;refine PS ?_;refine nx J3 (CY (sr λ_ J6=>PS ?_));refine nx J6 (ai (ae (WK [0,0] (aq rfl rfl ?_))));show(if _ then _ else _)
 first
  | (rw[if_pos (by omega)];exact⟨rfl,rfl⟩)
  | (rw[if_neg (by omega),if_pos (by simp_all)];exact⟨rfl,by simp_all<;>rfl⟩)
  | (rw[if_neg (by omega),if_neg (by simp_all)];exact⟨rfl,v61,by simp_all<;>rfl⟩)
 refine PS ?_;refine nx J3 (CN (qx J2 (aa λ_ J7=>sr λ_ J8=>P2 ?_)));refine FA 2 gB kp ?_;refine LA 0 Y4 ?_;refine aX ?_ ?_<;>intro h22;refine P3 ?_;refine FA 3 gB aO ?_;refine LA 0 Y3 ?_;refine PS ?_;refine am ?_ ?_<;>intro h28;refine PS ?_;refine nx J8 (CY (af (P2 ?_)));refine FA 4 gB kp ?_;refine S0 0 kp ?_;refine nx J7 (aa λ_ J9=>sr λ_ J10=>P2 ?_);refine FA 4 gB kp ?_;refine LA 0 Y4 ?_;refine nx J10 (CY (sr λ_ J11=>PS ?_));refine nx J11 (ai (ae (WK [0,0] (aq rfl rfl ?_))));show(if _ then _ else _)
 first
  | (rw[if_pos (by omega)];exact⟨rfl,rfl⟩)
  | (rw[if_neg (by omega),if_pos (by simp_all)];exact⟨rfl,by simp_all<;>rfl⟩)
  | (rw[if_neg (by omega),if_neg (by simp_all)];exact⟨rfl,v61,by simp_all<;>rfl⟩)
 refine PS ?_;refine nx J8 (CN (qx J7 (aa λ_ J12=>sr λ_ J13=>P2 ?_)));refine FA 4 gB kp ?_;refine LA 0 Y4 ?_;refine aX ?_ ?_<;>intro h36;refine nx J13 (CY (sr λ_ J14=>PS ?_));refine nx J14 (ai (ae (WK [0,0] (aq rfl rfl ?_))));show(if _ then _ else _)
 first
  | (rw[if_pos (by omega)];exact⟨rfl,rfl⟩)
  | (rw[if_neg (by omega),if_pos (by simp_all)];exact⟨rfl,by simp_all<;>rfl⟩)
  | (rw[if_neg (by omega),if_neg (by simp_all)];exact⟨rfl,v61,by simp_all<;>rfl⟩)
 refine nx J13 (CN (qx J12 (aa λ_ J15=>sr λ_ J16=>P2 ?_)));refine FA 2 gB kp ?_;refine LA 0 Y4 ?_;refine aX ?_ ?_<;>intro h40;refine nx J16 (CY (af (P2 ?_)));refine FA 3 gB aO ?_;refine LA 0 Y3 ?_;refine tp (jE rfl rfl rfl (bI (by omega) (by omega))) ?_;refine PS ?_;refine FA 3 gB aO ?_;refine S0 0 aO ?_;refine nx J15 (sr λ_ J17=>PS ?_);refine BV (((.int .i64 (at'))::List.replicate 64 (.int .u8 0)).toArray) ?_;refine XA Ed λb7=>?_
 refine ck (vs:=((.int .i64 (at'))::List.replicate 64 (.int .u8 0))) (i:=0) (ab rfl) rfl rfl rfl rfl rfl lI (by simp[Value.oneCell']) rfl rfl (Ie rfl) rfl rfl (nx J17 (sr λ_ J18=>FA 1 oc kq ?_));refine tp (pB rfl qJ kS rfl) ?_;refine PS ?_;refine JT (i:=0) (m:=bs.length) (news:=(ek bs)) (H':=[aj b7 (cT (at',eB bs)) 187,aj d [(.map (some m)),wv,(.bool (ar)),(.int .i64 (lf-1)),(.bool (dn))] 161,own wv (ws.length) (dz ws) 187 65]) (ab rfl) rfl rfl rfl gk kS rfl rfl rfl rfl (λ_ _=>hF.src (λ_ h=>e5 h)) (eU _) (by show 1+min bs.length 64≤65;omega) (yi (by omega)) rfl (nx J18 (aa λ_ J19=>D1 0 dC ?_));refine PD 0 ?_;refine PD 1 ?_;refine PD 2 ?_;refine FD 3 1 gB gl ?_;refine ta 5 rfl (aK (vs:=cT (at',eB bs)) rfl oc rfl lI rfl (λ_ h=>h.2.1) (cf (du (by omega))) (by rw[bd,aC (by rw[(cf (du (by omega)))];exact aP _)])) ?_;refine cJ [4,6] (by kernel_rfl) rfl (aF rfl ?_ ?_);refine LA 1 iv ?_;refine EN (AL 6 ?_);refine aU (cells:=(cT (at',eB bs)).toArray) (ab rfl) rfl rfl rfl iv lK rfl rfl rfl (lU (cf (du (by omega))) (by simp)) (λb60=>?_);change TL _ _ _ _ _ _ _ _ _ [aj b60 (cT (at',eB bs)) 187,aj b7 (cT (at',eB bs)) 187,aj d [(.map (some m)),wv,(.bool (ar)),(.int .i64 (lf-1)),(.bool (dn))] 161,own wv (ws.length) (dz ws) 187 65];refine EN (AL 7 ?_)
 refine cG (k:=3) (news:=cT (at',eB bs)) (nn':=(ws++[(at',eB bs)]).length) (xs':=dz (ws++[(at',eB bs)])) (ab rfl) rfl rfl rfl iv lK rfl rfl rfl rfl rfl rfl (λ_ _=>jg (cf (du (by omega))) (RO 0) (by rw[bd,aC (aP _)])) (ib _) (by simp only[maxLen];omega) (by omega) (by simp) (by simp[dz]) (λv61 ov61=>EN (PD 8 ?_));refine FD 9 1 gB gl ?_;refine AL 10 ?_;refine bT (i:=2) (ab rfl) rfl rfl rfl rfl ov61 gl rfl rfl (lb rfl) rfl rfl (EN (DN (ac J19 (sr λ_ J20=>PS ?_))));refine nx J20 (ai (WK [2,2] (aq rfl rfl ?_)));show(if _ then _ else _)
 first
  | (rw[if_pos (by omega)];exact⟨rfl,rfl⟩)
  | (rw[if_neg (by omega),if_pos (by simp_all)];exact⟨rfl,by simp_all<;>rfl⟩)
  | (rw[if_neg (by omega),if_neg (by simp_all)];exact⟨rfl,v61,by simp_all<;>rfl⟩)
 refine aF rfl ?_ ?_;refine aU (cells:=(cT (at',eB bs)).toArray) (ab rfl) rfl rfl rfl iv lK rfl rfl rfl (lU (cf (du (by omega))) (by simp)) (λb60=>?_);change TL _ _ _ _ _ _ _ _ _ [aj b60 (cT (at',eB bs)) 187,aj b7 (cT (at',eB bs)) 187,aj d [(.map (some m)),wv,(.bool (ar)),(.int .i64 (lf-1)),(.bool (dn))] 161,own wv (ws.length) (dz ws) 187 65];refine EN (AL 4 ?_);refine LA 2 iv ?_;refine EN (AL 7 ?_);refine cG (k:=3) (news:=cT (at',eB bs)) (nn':=(ws++[(at',eB bs)]).length) (xs':=dz (ws++[(at',eB bs)])) (ab rfl) rfl rfl rfl iv lK rfl rfl rfl rfl rfl rfl (λ_ _=>jg (cf (du (by omega))) (RO 0) (by rw[bd,aC (aP _)])) (ib _) (by simp only[maxLen];omega) (by omega) (by simp) (by simp[dz]) (λv61 ov61=>EN (PD 8 ?_));refine FD 9 1 gB gl ?_;refine AL 10 ?_;refine bT (i:=2) (ab rfl) rfl rfl rfl rfl ov61 gl rfl rfl (lb rfl) rfl rfl (EN (DN (ac J19 (sr λ_ J21=>PS ?_))));refine nx J21 (ai (WK [2,2] (aq rfl rfl ?_)));show(if _ then _ else _)
 first
  | (rw[if_pos (by omega)];exact⟨rfl,rfl⟩)
  | (rw[if_neg (by omega),if_pos (by simp_all)];exact⟨rfl,by simp_all<;>rfl⟩)
  | (rw[if_neg (by omega),if_neg (by simp_all)];exact⟨rfl,v61,by simp_all<;>rfl⟩)
 exact bD;refine nx J16 (CN (qx J15 (sr λ_ J22=>PS ?_)));refine BV (((.int .i64 (at'))::List.replicate 64 (.int .u8 0)).toArray) ?_;refine XA Ed λb7=>?_
 refine ck (vs:=((.int .i64 (at'))::List.replicate 64 (.int .u8 0))) (i:=0) (ab rfl) rfl rfl rfl rfl rfl lI (by simp[Value.oneCell']) rfl rfl (Ie rfl) rfl rfl (nx J22 (sr λ_ J23=>FA 1 oc kq ?_));refine tp (pB rfl qJ kS rfl) ?_;refine PS ?_;refine JT (i:=0) (m:=bs.length) (news:=(ek bs)) (H':=[aj b7 (cT (at',eB bs)) 187,aj d [(.map (some m)),wv,(.bool (ar)),(.int .i64 (lf)),(.bool (dn))] 161,own wv (ws.length) (dz ws) 187 65]) (ab rfl) rfl rfl rfl gk kS rfl rfl rfl rfl (λ_ _=>hF.src (λ_ h=>e5 h)) (eU _) (by show 1+min bs.length 64≤65;omega) (yi (by omega)) rfl (nx J23 (aa λ_ J24=>D1 0 dC ?_));refine PD 0 ?_;refine PD 1 ?_;refine PD 2 ?_;refine FD 3 1 gB gl ?_;refine ta 5 rfl (aK (vs:=cT (at',eB bs)) rfl oc rfl lI rfl (λ_ h=>h.2.1) (cf (du (by omega))) (by rw[bd,aC (by rw[(cf (du (by omega)))];exact aP _)])) ?_;refine cJ [4,6] (by kernel_rfl) rfl (aF rfl ?_ ?_);refine LA 1 iv ?_;refine EN (AL 6 ?_);refine aU (cells:=(cT (at',eB bs)).toArray) (ab rfl) rfl rfl rfl iv lK rfl rfl rfl (lU (cf (du (by omega))) (by simp)) (λb60=>?_);change TL _ _ _ _ _ _ _ _ _ [aj b60 (cT (at',eB bs)) 187,aj b7 (cT (at',eB bs)) 187,aj d [(.map (some m)),wv,(.bool (ar)),(.int .i64 (lf)),(.bool (dn))] 161,own wv (ws.length) (dz ws) 187 65];refine EN (AL 7 ?_)
 refine cG (k:=3) (news:=cT (at',eB bs)) (nn':=(ws++[(at',eB bs)]).length) (xs':=dz (ws++[(at',eB bs)])) (ab rfl) rfl rfl rfl iv lK rfl rfl rfl rfl rfl rfl (λ_ _=>jg (cf (du (by omega))) (RO 0) (by rw[bd,aC (aP _)])) (ib _) (by simp only[maxLen];omega) (by omega) (by simp) (by simp[dz]) (λv61 ov61=>EN (PD 8 ?_));refine FD 9 1 gB gl ?_;refine AL 10 ?_;refine bT (i:=2) (ab rfl) rfl rfl rfl rfl ov61 gl rfl rfl (lb rfl) rfl rfl (EN (DN (ac J24 (sr λ_ J25=>PS ?_))));refine nx J25 (ai (WK [2,2] (aq rfl rfl ?_)));show(if _ then _ else _)
 first
  | (rw[if_pos (by omega)];exact⟨rfl,rfl⟩)
  | (rw[if_neg (by omega),if_pos (by simp_all)];exact⟨rfl,by simp_all<;>rfl⟩)
  | (rw[if_neg (by omega),if_neg (by simp_all)];exact⟨rfl,v61,by simp_all<;>rfl⟩)
 refine aF rfl ?_ ?_;refine aU (cells:=(cT (at',eB bs)).toArray) (ab rfl) rfl rfl rfl iv lK rfl rfl rfl (lU (cf (du (by omega))) (by simp)) (λb60=>?_);change TL _ _ _ _ _ _ _ _ _ [aj b60 (cT (at',eB bs)) 187,aj b7 (cT (at',eB bs)) 187,aj d [(.map (some m)),wv,(.bool (ar)),(.int .i64 (lf)),(.bool (dn))] 161,own wv (ws.length) (dz ws) 187 65];refine EN (AL 4 ?_);refine LA 2 iv ?_;refine EN (AL 7 ?_);refine cG (k:=3) (news:=cT (at',eB bs)) (nn':=(ws++[(at',eB bs)]).length) (xs':=dz (ws++[(at',eB bs)])) (ab rfl) rfl rfl rfl iv lK rfl rfl rfl rfl rfl rfl (λ_ _=>jg (cf (du (by omega))) (RO 0) (by rw[bd,aC (aP _)])) (ib _) (by simp only[maxLen];omega) (by omega) (by simp) (by simp[dz]) (λv61 ov61=>EN (PD 8 ?_));refine FD 9 1 gB gl ?_;refine AL 10 ?_;refine bT (i:=2) (ab rfl) rfl rfl rfl rfl ov61 gl rfl rfl (lb rfl) rfl rfl (EN (DN (ac J24 (sr λ_ J26=>PS ?_))));refine nx J26 (ai (WK [2,2] (aq rfl rfl ?_)));show(if _ then _ else _)
 first
  | (rw[if_pos (by omega)];exact⟨rfl,rfl⟩)
  | (rw[if_neg (by omega),if_pos (by simp_all)];exact⟨rfl,by simp_all<;>rfl⟩)
  | (rw[if_neg (by omega),if_neg (by simp_all)];exact⟨rfl,v61,by simp_all<;>rfl⟩)
 exact bD;refine PS ?_
 iterate 5 refine UF ?_
 refine PS ?_;refine nx J8 (CN (qx J7 (aa λ_ J27=>sr λ_ J28=>P2 ?_)));refine FA 4 gB kp ?_;refine LA 0 Y4 ?_;refine aX ?_ ?_<;>intro h36;refine nx J28 (CY (sr λ_ J29=>PS ?_));refine nx J29 (ai (ae (WK [0,0] (aq rfl rfl ?_))));show(if _ then _ else _)
 first
  | (rw[if_pos (by omega)];exact⟨rfl,rfl⟩)
  | (rw[if_neg (by omega),if_pos (by simp_all)];exact⟨rfl,by simp_all<;>rfl⟩)
  | (rw[if_neg (by omega),if_neg (by simp_all)];exact⟨rfl,v61,by simp_all<;>rfl⟩)
 refine nx J28 (CN (qx J27 (aa λ_ J30=>sr λ_ J31=>P2 ?_)));refine FA 2 gB kp ?_;refine LA 0 Y4 ?_;refine aX ?_ ?_<;>intro h40;refine nx J31 (CY (af (P2 ?_)));refine FA 3 gB aO ?_;refine LA 0 Y3 ?_;refine tp (jE rfl rfl rfl (bI (by omega) (by omega))) ?_;refine PS ?_;refine FA 3 gB aO ?_;refine S0 0 aO ?_;refine nx J30 (sr λ_ J32=>PS ?_);refine BV (((.int .i64 (at'))::List.replicate 64 (.int .u8 0)).toArray) ?_;refine XA Ed λb7=>?_
 refine ck (vs:=((.int .i64 (at'))::List.replicate 64 (.int .u8 0))) (i:=0) (ab rfl) rfl rfl rfl rfl rfl lI (by simp[Value.oneCell']) rfl rfl (Ie rfl) rfl rfl (nx J32 (sr λ_ J33=>FA 1 oc kq ?_));refine tp (pB rfl qJ kS rfl) ?_;refine PS ?_;refine JT (i:=0) (m:=bs.length) (news:=(ek bs)) (H':=[aj b7 (cT (at',eB bs)) 187,aj d [(.map (some m)),wv,(.bool (ar)),(.int .i64 (lf-1)),(.bool (dn))] 161,own wv (ws.length) (dz ws) 187 65]) (ab rfl) rfl rfl rfl gk kS rfl rfl rfl rfl (λ_ _=>hF.src (λ_ h=>e5 h)) (eU _) (by show 1+min bs.length 64≤65;omega) (yi (by omega)) rfl (nx J33 (aa λ_ J34=>D1 0 dC ?_));refine PD 0 ?_;refine PD 1 ?_;refine PD 2 ?_;refine FD 3 1 gB gl ?_;refine ta 5 rfl (aK (vs:=cT (at',eB bs)) rfl oc rfl lI rfl (λ_ h=>h.2.1) (cf (du (by omega))) (by rw[bd,aC (by rw[(cf (du (by omega)))];exact aP _)])) ?_;refine cJ [4,6] (by kernel_rfl) rfl (aF rfl ?_ ?_);refine LA 1 iv ?_;refine EN (AL 6 ?_);refine aU (cells:=(cT (at',eB bs)).toArray) (ab rfl) rfl rfl rfl iv lK rfl rfl rfl (lU (cf (du (by omega))) (by simp)) (λb60=>?_);change TL _ _ _ _ _ _ _ _ _ [aj b60 (cT (at',eB bs)) 187,aj b7 (cT (at',eB bs)) 187,aj d [(.map (some m)),wv,(.bool (ar)),(.int .i64 (lf-1)),(.bool (dn))] 161,own wv (ws.length) (dz ws) 187 65];refine EN (AL 7 ?_)
 refine cG (k:=3) (news:=cT (at',eB bs)) (nn':=(ws++[(at',eB bs)]).length) (xs':=dz (ws++[(at',eB bs)])) (ab rfl) rfl rfl rfl iv lK rfl rfl rfl rfl rfl rfl (λ_ _=>jg (cf (du (by omega))) (RO 0) (by rw[bd,aC (aP _)])) (ib _) (by simp only[maxLen];omega) (by omega) (by simp) (by simp[dz]) (λv61 ov61=>EN (PD 8 ?_));refine FD 9 1 gB gl ?_;refine AL 10 ?_;refine bT (i:=2) (ab rfl) rfl rfl rfl rfl ov61 gl rfl rfl (lb rfl) rfl rfl (EN (DN (ac J34 (sr λ_ J35=>PS ?_))));refine nx J35 (ai (WK [2,2] (aq rfl rfl ?_)));show(if _ then _ else _)
 first
  | (rw[if_pos (by omega)];exact⟨rfl,rfl⟩)
  | (rw[if_neg (by omega),if_pos (by simp_all)];exact⟨rfl,by simp_all<;>rfl⟩)
  | (rw[if_neg (by omega),if_neg (by simp_all)];exact⟨rfl,v61,by simp_all<;>rfl⟩)
 refine aF rfl ?_ ?_;refine aU (cells:=(cT (at',eB bs)).toArray) (ab rfl) rfl rfl rfl iv lK rfl rfl rfl (lU (cf (du (by omega))) (by simp)) (λb60=>?_);change TL _ _ _ _ _ _ _ _ _ [aj b60 (cT (at',eB bs)) 187,aj b7 (cT (at',eB bs)) 187,aj d [(.map (some m)),wv,(.bool (ar)),(.int .i64 (lf-1)),(.bool (dn))] 161,own wv (ws.length) (dz ws) 187 65];refine EN (AL 4 ?_);refine LA 2 iv ?_;refine EN (AL 7 ?_);refine cG (k:=3) (news:=cT (at',eB bs)) (nn':=(ws++[(at',eB bs)]).length) (xs':=dz (ws++[(at',eB bs)])) (ab rfl) rfl rfl rfl iv lK rfl rfl rfl rfl rfl rfl (λ_ _=>jg (cf (du (by omega))) (RO 0) (by rw[bd,aC (aP _)])) (ib _) (by simp only[maxLen];omega) (by omega) (by simp) (by simp[dz]) (λv61 ov61=>EN (PD 8 ?_));refine FD 9 1 gB gl ?_;refine AL 10 ?_;refine bT (i:=2) (ab rfl) rfl rfl rfl rfl ov61 gl rfl rfl (lb rfl) rfl rfl (EN (DN (ac J34 (sr λ_ J36=>PS ?_))));refine nx J36 (ai (WK [2,2] (aq rfl rfl ?_)));show(if _ then _ else _)
 first
  | (rw[if_pos (by omega)];exact⟨rfl,rfl⟩)
  | (rw[if_neg (by omega),if_pos (by simp_all)];exact⟨rfl,by simp_all<;>rfl⟩)
  | (rw[if_neg (by omega),if_neg (by simp_all)];exact⟨rfl,v61,by simp_all<;>rfl⟩)
 exact bD;refine nx J31 (CN (qx J30 (sr λ_ J37=>PS ?_)));refine BV (((.int .i64 (at'))::List.replicate 64 (.int .u8 0)).toArray) ?_;refine XA Ed λb7=>?_
 refine ck (vs:=((.int .i64 (at'))::List.replicate 64 (.int .u8 0))) (i:=0) (ab rfl) rfl rfl rfl rfl rfl lI (by simp[Value.oneCell']) rfl rfl (Ie rfl) rfl rfl (nx J37 (sr λ_ J38=>FA 1 oc kq ?_));refine tp (pB rfl qJ kS rfl) ?_;refine PS ?_;refine JT (i:=0) (m:=bs.length) (news:=(ek bs)) (H':=[aj b7 (cT (at',eB bs)) 187,aj d [(.map (some m)),wv,(.bool (ar)),(.int .i64 (lf)),(.bool (dn))] 161,own wv (ws.length) (dz ws) 187 65]) (ab rfl) rfl rfl rfl gk kS rfl rfl rfl rfl (λ_ _=>hF.src (λ_ h=>e5 h)) (eU _) (by show 1+min bs.length 64≤65;omega) (yi (by omega)) rfl (nx J38 (aa λ_ J39=>D1 0 dC ?_));refine PD 0 ?_;refine PD 1 ?_;refine PD 2 ?_;refine FD 3 1 gB gl ?_;refine ta 5 rfl (aK (vs:=cT (at',eB bs)) rfl oc rfl lI rfl (λ_ h=>h.2.1) (cf (du (by omega))) (by rw[bd,aC (by rw[(cf (du (by omega)))];exact aP _)])) ?_;refine cJ [4,6] (by kernel_rfl) rfl (aF rfl ?_ ?_);refine LA 1 iv ?_;refine EN (AL 6 ?_);refine aU (cells:=(cT (at',eB bs)).toArray) (ab rfl) rfl rfl rfl iv lK rfl rfl rfl (lU (cf (du (by omega))) (by simp)) (λb60=>?_);change TL _ _ _ _ _ _ _ _ _ [aj b60 (cT (at',eB bs)) 187,aj b7 (cT (at',eB bs)) 187,aj d [(.map (some m)),wv,(.bool (ar)),(.int .i64 (lf)),(.bool (dn))] 161,own wv (ws.length) (dz ws) 187 65];refine EN (AL 7 ?_)
 refine cG (k:=3) (news:=cT (at',eB bs)) (nn':=(ws++[(at',eB bs)]).length) (xs':=dz (ws++[(at',eB bs)])) (ab rfl) rfl rfl rfl iv lK rfl rfl rfl rfl rfl rfl (λ_ _=>jg (cf (du (by omega))) (RO 0) (by rw[bd,aC (aP _)])) (ib _) (by simp only[maxLen];omega) (by omega) (by simp) (by simp[dz]) (λv61 ov61=>EN (PD 8 ?_));refine FD 9 1 gB gl ?_;refine AL 10 ?_;refine bT (i:=2) (ab rfl) rfl rfl rfl rfl ov61 gl rfl rfl (lb rfl) rfl rfl (EN (DN (ac J39 (sr λ_ J40=>PS ?_))));refine nx J40 (ai (WK [2,2] (aq rfl rfl ?_)));show(if _ then _ else _)
 first
  | (rw[if_pos (by omega)];exact⟨rfl,rfl⟩)
  | (rw[if_neg (by omega),if_pos (by simp_all)];exact⟨rfl,by simp_all<;>rfl⟩)
  | (rw[if_neg (by omega),if_neg (by simp_all)];exact⟨rfl,v61,by simp_all<;>rfl⟩)
 refine aF rfl ?_ ?_;refine aU (cells:=(cT (at',eB bs)).toArray) (ab rfl) rfl rfl rfl iv lK rfl rfl rfl (lU (cf (du (by omega))) (by simp)) (λb60=>?_);change TL _ _ _ _ _ _ _ _ _ [aj b60 (cT (at',eB bs)) 187,aj b7 (cT (at',eB bs)) 187,aj d [(.map (some m)),wv,(.bool (ar)),(.int .i64 (lf)),(.bool (dn))] 161,own wv (ws.length) (dz ws) 187 65];refine EN (AL 4 ?_);refine LA 2 iv ?_;refine EN (AL 7 ?_);refine cG (k:=3) (news:=cT (at',eB bs)) (nn':=(ws++[(at',eB bs)]).length) (xs':=dz (ws++[(at',eB bs)])) (ab rfl) rfl rfl rfl iv lK rfl rfl rfl rfl rfl rfl (λ_ _=>jg (cf (du (by omega))) (RO 0) (by rw[bd,aC (aP _)])) (ib _) (by simp only[maxLen];omega) (by omega) (by simp) (by simp[dz]) (λv61 ov61=>EN (PD 8 ?_));refine FD 9 1 gB gl ?_;refine AL 10 ?_;refine bT (i:=2) (ab rfl) rfl rfl rfl rfl ov61 gl rfl rfl (lb rfl) rfl rfl (EN (DN (ac J39 (sr λ_ J41=>PS ?_))));refine nx J41 (ai (WK [2,2] (aq rfl rfl ?_)));show(if _ then _ else _)
 first
  | (rw[if_pos (by omega)];exact⟨rfl,rfl⟩)
  | (rw[if_neg (by omega),if_pos (by simp_all)];exact⟨rfl,by simp_all<;>rfl⟩)
  | (rw[if_neg (by omega),if_neg (by simp_all)];exact⟨rfl,v61,by simp_all<;>rfl⟩)
 exact bD
theorem sM(d m:Nat)(wv:Value)(ar:Bool)(lf:Int):
 DT 71 #[(.pointer (some ⟨d,0,none⟩))] T0 [aj d [(.map (some m)),wv,(.bool (ar)),(.int .i64 (lf)),(.bool true)] 161] (RI (.int .i64 4) [aj d [(.map (some m)),wv,(.bool (ar)),(.int .i64 (lf)),(.bool true)] 161]):=by
 refine BD 28 Tryz.func71 rfl rfl rfl λw0 F hF=>sr λ_ J1=>PS ?_
 refine nx J1 (aa λ_ J2=>sr λ_ J3=>P2 ?_);refine FA 4 gB kp ?_;refine LA 0 Y4 ?_;refine nx J3 (CY (sr λ_ J4=>PS ?_));exact nx J4 (ai (ae (WK [0] (aq rfl rfl ⟨rfl,rfl⟩))))
theorem vS(d m:Nat)(wv:Value)(s ws:fo)(ar:Bool)(lf:Int)(hw:Whole ws):
 DT 71 #[(.pointer (some ⟨d,0,none⟩))] T0 [aj d [(.map (some m)),wv,(.bool (ar)),(.int .i64 (lf)),(.bool false)] 161,jy m (r9 s),own wv (ws.length) (dz ws) 187 65] (RI (.int .i64 0) [aj d [(.map (some m)),(.slice none 0 0),(.bool (ar)),(.int .i64 (lf)),(.bool false)] 161,jy m (r9 (AJ s ws ws.length)),own (.slice none 0 0) 0 [] 187 65]):=by
 refine BD 28 Tryz.func71 rfl rfl rfl λw0 F hF=>sr λ_ J1=>fY 2 rfl rfl (λhwl _=>PS ?_)
 refine nx J1 (aa λ_ J2=>sr λ_ J3=>P2 ?_);refine FA 4 gB kp ?_;refine LA 0 Y4 ?_;refine nx J3 (CN (qx J2 (aa λ_ J4=>sr λ_ J5=>P2 ?_)));refine FA 1 gB gl ?_;refine LA 0 iv ?_;refine tp (cu rfl iv rfl hwl) ?_;refine PS ?_;refine nx J5 (ap ?_)
 refine bB (α:=(Nat)×(fo)) (λ⟨k,s'⟩=>k≤ws.length∧s'=AJ s ws k) (λ⟨k,s'⟩=>[(0,(.pointer (some ⟨d,0,none⟩))),(2,(.int .i64 0)),(12,wv),(13,(.int .i64 (((ws.length:Nat):Int)))),(14,(.int .i64 (((k:Nat):Int))))]) (λ⟨k,s'⟩=>[aj d [(.map (some m)),wv,(.bool (ar)),(.int .i64 (lf)),(.bool false)] 161,jy m (r9 s'),own wv (ws.length) (dz ws) 187 65]) (λ⟨k,s'⟩=>ws.length-k) (0,s)
  ⟨aN _,rfl⟩ SB
  (λ_ s=>s) (λ⟨k,s'⟩ hinv=>?_)
 obtain⟨hk,hs'⟩:=hinv;refine sr λ_ J6=>PS ?_
 refine am ?_ ?_<;>intro h15;refine fG 2 rfl rfl (by omega) (λg cap hv hcap=>nx J6 (aa λ_ J7=>CY (qx J7 (aa λ_ J8=>ap (sr λ_ J9=>tp (bv (r:=k*65) hv rfl iv lI rfl rfl (by omega) (by omega) (by omega)) ?_)))));refine tp (jG (vs:=cT (kn ws k)) rfl oc rfl lI rfl (dT 2 rfl hv rfl) (cf (dF hw (by omega))) (pH hw (by omega))) ?_;refine XA Ed λb4=>?_
 refine ck (vs:=cT (kn ws k)) (i:=0) (ab rfl) rfl rfl rfl rfl rfl (by rw[cf (dF hw (by omega))];exact lI) (ib _) rfl rfl (by rw[cf (dF hw (by omega))];exact aP _) (iB (Eq.trans (rfl:_=65) (by rw[cf (dF hw (by omega))]:(cT (kn ws k)).length=65).symm)) rfl (nx J9 (af (PS ?_)));refine FA 0 oc aO ?_;refine LA 0 Y3 ?_;refine FA 1 oc kq ?_;refine tp (aK (vs:=ek (kn ws k).2) rfl qJ rfl kq rfl (RO 0) (by rw[bm];exact dF hw (by omega)) (uo (dF hw (by omega)))) ?_;refine CR GL (n7 d m wv s' ar false lf ((kn ws k).1) (kn ws k).2 (by exact dF hw (by omega))) (SM [1,1]) λvR HR hR=>?_
 subst hR;refine au (ag (ac J8 (af (AD ?_))));refine PS ?_;refine au ?_
 exact aJ ((k+1,m9 s' (kn ws k).1 (kn ws k).2):(Nat)×(fo)) ⟨by omega,by rw[hs'];rfl⟩ (by show ws.length- (k+1)<ws.length-k;omega)
  SB
  (λ_ s=>ak [0,0,1] rfl s)
 refine nx J6 (aa λ_ J10=>CN (aZ (aB (aB (bw (ac J4 (sr λ_ J11=>P2 ?_)))))));refine FA 1 gB gl ?_;refine S0 0 gl ?_;refine nx J11 (sr λ_ J12=>PS ?_);refine nx J12 (ai (aE (H':=[aj d [(.map (some m)),(.slice none 0 0),(.bool (ar)),(.int .i64 (lf)),(.bool false)] 161,jy m (r9 s'),own (.slice none 0 0) 0 [] 187 65]) (dE _) (λ_ s=>dX (List.Perm.trans (List.Perm.swap _ _ _) (List.Perm.cons _ (List.Perm.swap _ _ _))) (fR 187 65 (ak [0,0] rfl s))) (aq rfl rfl ?_)));obtain rfl:k=ws.length:=by omega
 subst hs';exact⟨rfl,rfl⟩
theorem za(d m:Nat)(wv:Value)(s ws:fo)(ar dn:Bool)(lf at':Int)(hs2:Whole s)(hw:Whole ws)(hb:ws.length≤1000000000):
 DT 130 #[(.pointer (some ⟨d,0,none⟩)),(.int .i64 (at'))] T0 [aj d [(.map (some m)),wv,(.bool (ar)),(.int .i64 (lf)),(.bool (dn))] 161,jy m (r9 s),own wv (ws.length) (dz ws) 187 65] (RI (ED (iH s ws at' ws.length)) [aj d [(.map (some m)),wv,(.bool (ar)),(.int .i64 (lf)),(.bool (dn))] 161,jy m (r9 s),own wv (ws.length) (dz ws) 187 65]):=by
 refine BD 40 Tryz.func130 rfl rfl rfl λw0 F hF=>sr λ_ J1=>fY 2 rfl rfl (λhwl _=>XA HG λb4=>?_)
 refine nx J1 (aa λ_ J2=>sr λ_ J3=>P2 ?_);refine FA 1 gB gl ?_;refine LA 1 iv ?_;refine tp (cu rfl iv rfl hwl) ?_;refine tp (jE rfl rfl rfl (bI (by omega) (by omega))) ?_;refine PS ?_;refine nx J3 (ap ?_)
 refine bB (α:=(Int)) (λp=> -1≤p∧p<ws.length∧iH s ws at' (p+1).toNat=iH s ws at' ws.length) (λp=>[(0,(.pointer (some ⟨d,0,none⟩))),(1,(.int .i64 (at'))),(4,(.pointer (some ⟨b4,0,none⟩))),(5,(.int .i64 (p)))]) (λp=>[aj b4 [(.int .u8 0),(.int .u8 0),(.int .u8 0),(.int .u8 0),(.int .u8 0),(.int .u8 0),(.int .u8 0),(.int .u8 0),(.int .u8 0),(.int .u8 0),(.int .u8 0),(.int .u8 0),(.int .u8 0),(.int .u8 0),(.int .u8 0),(.int .u8 0),(.int .u8 0),(.int .u8 0),(.int .u8 0),(.int .u8 0),(.int .u8 0),(.int .u8 0),(.int .u8 0),(.int .u8 0),(.int .u8 0),(.int .u8 0),(.int .u8 0),(.int .u8 0),(.int .u8 0),(.int .u8 0),(.int .u8 0),(.int .u8 0),(.int .u8 0),(.int .u8 0),(.int .u8 0),(.int .u8 0),(.int .u8 0),(.int .u8 0),(.int .u8 0),(.int .u8 0),(.int .u8 0),(.int .u8 0),(.int .u8 0),(.int .u8 0),(.int .u8 0),(.int .u8 0),(.int .u8 0),(.int .u8 0),(.int .u8 0),(.int .u8 0),(.int .u8 0),(.int .u8 0),(.int .u8 0),(.int .u8 0),(.int .u8 0),(.int .u8 0),(.int .u8 0),(.int .u8 0),(.int .u8 0),(.int .u8 0),(.int .u8 0),(.int .u8 0),(.int .u8 0),(.int .u8 0)] 128,aj d [(.map (some m)),wv,(.bool (ar)),(.int .i64 (lf)),(.bool (dn))] 161,jy m (r9 s),own wv (ws.length) (dz ws) 187 65]) (λp=>(p+1).toNat) (((ws.length:Nat):Int)-1)
  ⟨by omega,by omega,by congr 1;omega⟩ SB
  (λ_ s=>s) (λp hinv=>?_)
 obtain⟨hp1,hp2,hp3⟩:=hinv;refine aa λ_ J4=>sr λ_ J5=>P2 ?_
 refine am ?_ ?_<;>intro h13;refine fG 3 rfl rfl (by omega) (λg cap hv hcap=>nx J5 (CY (qx J4 (aa λ_ J6=>ap (sr λ_ J7=>P2 ?_)))));refine FA 1 gB gl ?_;refine LA 1 iv ?_;refine PS ?_;refine tp (bv (r:=p.toNat*65) hv rfl iv lI rfl rfl (by omega) (by omega) (by omega)) ?_;refine tp (a9 (r:=p.toNat*65) rfl oc rfl aO rfl rfl) ?_;refine tp (cV (v:=(.int .i64 ((kn ws p.toNat).1))) rfl Y3 rfl rfl (dT 3 rfl hv rfl) (Ei hw (by omega))) ?_;refine P2 ?_;refine am ?_ ?_<;>intro h25;refine nx J7 (CY (sr λ_ J8=>P2 ?_));refine FA 1 gB gl ?_;refine LA 1 iv ?_;refine PS ?_;refine tp (bv (r:=p.toNat*65) hv rfl iv lI rfl rfl (by omega) (by omega) (by omega)) ?_;refine tp (a9 (r:=p.toNat*65+1) rfl oc rfl kq rfl rfl) ?_;refine tp (jG (vs:=ek (kn ws p.toNat).2) rfl qJ rfl kq rfl (dT 3 rfl hv rfl) (by rw[bm];exact dF hw (by omega)) (Eh hw (by omega))) ?_;refine ck (vs:=ek (kn ws p.toNat).2) (i:=0) (ab rfl) rfl rfl rfl rfl rfl (by rw[bm,dF hw (by omega)];exact kq) (eU _) rfl rfl (by rw[bm,dF hw (by omega)];exact aP _) (iB (Eq.trans (rfl:_=64) (by rw[bm,dF hw (by omega)]:(ek (kn ws p.toNat).2).length=64).symm)) rfl (nx J8 (ai (aH (ae (ae (aH (ae (TE.retC (H':=[aj d [(.map (some m)),wv,(.bool (ar)),(.int .i64 (lf)),(.bool (dn))] 161,jy m (r9 s),own wv (ws.length) (dz ws) 187 65]) rfl rfl qJ rfl kq (RO 0) (by rw[bm];exact dF hw (by omega)) (λ_ s=>ak [1,1,1] rfl s) ?_))))))));have e:=ER (s:=s) h25
 rw[show p.toNat+1=(p+1).toNat by omega,hp3]at e;exact⟨by rw[e];rfl,rfl⟩;refine nx J7 (CN (aQ (ag (ac J6 (af (PS ?_))))));refine tp (jE rfl rfl rfl (bI (by omega) (by omega))) ?_;refine PS ?_;refine au ?_
 exact aJ ((p-1):(Int)) ⟨by omega,by omega,by rw[←hp3,show(p+1).toNat=p.toNat+1 by omega,Cb h25];congr 1;omega⟩ (by show(p-1+1).toNat< (p+1).toNat;omega)
  SB
  (λ_ s=>s)
 refine nx J5 (CN (aZ (aB (aB (bw (ac J2 (sr λ_ J9=>P2 ?_)))))));refine FA 0 gB Di ?_;refine LA 1 Bn ?_;refine PS ?_;refine tp (PV.lookup rfl Bn Y3 HG rfl rfl (RdM.own 2 rfl rfl) (AM _ _)) ?_;refine ck (vs:=ek (ky s at')) (i:=0) (ab rfl) rfl rfl rfl rfl rfl (by rw[bm,eV hs2];exact kq) (eU _) rfl rfl (by rw[bm,eV hs2];exact aP _) (iB (Eq.trans (rfl:_=64) (by rw[bm,eV hs2]:(ek (ky s at')).length=64).symm)) rfl (nx J9 (ai (TE.retC (H':=[aj d [(.map (some m)),wv,(.bool (ar)),(.int .i64 (lf)),(.bool (dn))] 161,jy m (r9 s),own wv (ws.length) (dz ws) 187 65]) rfl rfl qJ rfl kq (RO 0) (by rw[bm];exact eV hs2 _) (λ_ s=>ak [1,1,1] rfl s) ?_)));rw[show(p+1).toNat=0 by omega]at hp3;exact⟨by rw[←hp3];rfl,rfl⟩
theorem wQ(d m:Nat)(wv:Value)(s ws:fo)(ar dn:Bool)(lf mask torn n:Int)(hs1:Whole s)(hw:Whole ws):
 DT 62 #[(.pointer (some ⟨d,0,none⟩)),(.int .i64 (mask)),(.int .i64 (torn)),(.int .i64 (n))] T0 [aj d [(.map (some m)),wv,(.bool (ar)),(.int .i64 (lf)),(.bool (dn))] 161,jy m (r9 s),own wv (ws.length) (dz ws) 187 65] (dw (λ_ H=>H=[aj d [(.map (some m)),(.slice none 0 0),(.bool false),(.int .i64 0),(.bool false)] 161,jy m (r9 (mp mask torn (pn n) s ws ws.length)),own (.slice none 0 0) 0 [] 187 65])):=by
 refine BD 70 Tryz.func62 rfl rfl rfl λw0 F hF=>sr λ_ J1=>fY 2 rfl rfl (λhwl _=>PS ?_)
 refine tp (w6 rfl rfl rfl) ?_;refine tp (MV (v':=(.int .i64 (((pn n:Nat):Int)))) (PV.minI rfl rfl rfl) (congrArg (Value.int .i64) (Io n))) ?_;refine PS ?_;refine nx J1 (aa λ_ J2=>sr λ_ J3=>P2 ?_);refine FA 1 gB gl ?_;refine LA 0 iv ?_;refine tp (cu rfl iv rfl hwl) ?_;refine PS ?_;refine nx J3 (ap ?_)
 refine bB (α:=(Nat)×(fo)) (λ⟨k,s'⟩=>k≤ws.length∧s'=mp mask torn (pn n) s ws k) (λ⟨k,s'⟩=>[(0,(.pointer (some ⟨d,0,none⟩))),(1,(.int .i64 (mask))),(2,(.int .i64 (torn))),(3,(.int .i64 (((pn n:Nat):Int)))),(17,wv),(18,(.int .i64 (((ws.length:Nat):Int)))),(19,(.int .i64 (((k:Nat):Int))))]) (λ⟨k,s'⟩=>[aj d [(.map (some m)),wv,(.bool (ar)),(.int .i64 (lf)),(.bool (dn))] 161,jy m (r9 s'),own wv (ws.length) (dz ws) 187 65]) (λ⟨k,s'⟩=>ws.length-k) (0,s)
  ⟨aN _,rfl⟩ SB
  (λ_ s=>s) (λ⟨k,s'⟩ hinv=>?_)
 obtain⟨hk,hs'⟩:=hinv;have hs2:Whole s':=by rw[hs'];exact hs1.crash hw k hk
 have hcn:=rQ n;refine sr λ_ J4=>PS ?_
 refine am ?_ ?_<;>intro h20;refine fG 2 rfl rfl (by omega) (λg cap hv hcap=>nx J4 (aa λ_ J5=>CY (qx J5 (aa λ_ J6=>ap (sr λ_ J7=>PS ?_)))));refine tp (bv (r:=k*65) hv rfl iv lI rfl rfl (by omega) (by omega) (by omega)) ?_;refine tp (jG (vs:=cT (kn ws k)) rfl oc rfl lI rfl (dT 2 rfl hv rfl) (cf (dF hw (by omega))) (pH hw (by omega))) ?_;refine XA Ed λb9=>?_
 refine PS ?_;refine ck (vs:=cT (kn ws k)) (i:=0) (ab rfl) rfl rfl rfl rfl rfl (by rw[cf (dF hw (by omega))];exact lI) (ib _) rfl rfl (by rw[cf (dF hw (by omega))];exact aP _) (iB (Eq.trans (rfl:_=65) (by rw[cf (dF hw (by omega))]:(cT (kn ws k)).length=65).symm)) rfl (nx J7 (sr λ_ J8=>P3 ?_));refine am ?_ ?_<;>intro h26;refine nx J8 (CY (aa λ_ J9=>qL (λw=>Frm F w∧w.heap[d]?=some (.cells ([(.map (some m)),wv,(.bool (ar)),(.int .i64 (lf)),(.bool (dn))]).toArray 161 (0,0))∧Hm m (r9 s') w∧w.heap[b9]?=some (.cells (cT (kn ws k)).toArray 187 (0,0))∧True) dC rfl (λ_ s=>⟨e5 s,s.block 1 (lb rfl) rfl,s.map 2 rfl rfl,s.block 0 (lb rfl) rfl,trivial⟩) (PD 0 ?_)));refine PD 1 ?_;refine FD 2 0 gB Di ?_;refine LX 3 Bn (.map (some m)) ?_ (hc:=by exact rfl);refine FD 4 0 oc aO ?_;refine LX 5 Y3 (.int .i64 ((kn ws k).1)) ?_ (hc:=by exact rfl);refine ta 6 rfl (PV.lookup rfl Bn Y3 HG rfl rfl (λ_ h=>h.2.2.1) (AM _ _)) ?_;refine AL 7 ?_;refine XA HG λb10=>?_
 refine au (tG (λ_ s=>⟨e5 s,s.block 2 (lb rfl) rfl,s.map 3 rfl rfl,s.block 1 (lb rfl) rfl,trivial⟩) (AL 8 ?_));refine ck (vs:=ek (ky s' ((kn ws k).1))) (i:=0) (ab rfl) rfl rfl rfl rfl rfl (by rw[bm,eV hs2];exact kq) (eU _) rfl rfl (by rw[bm,eV hs2];exact aP _) (iB (Eq.trans (rfl:_=64) (by rw[bm,eV hs2]:(ek (ky s' ((kn ws k).1))).length=64).symm)) rfl (au (tG (λ_ s=>⟨e5 s,s.block 2 (lb rfl) rfl,s.map 3 rfl rfl,s.block 1 (lb rfl) rfl,trivial⟩) (DN (ac J9 (aa λ_ J10=>D1 1 dC ?_)))));refine PD 0 ?_;refine ta 1 rfl (MP (k:=pn n) rfl qJ kS rfl rfl (by omega) (by omega) rfl) ?_;refine FD 2 1 oc kq ?_;refine PD 3 ?_;refine ta 4 rfl (MP (k:=pn n) rfl qJ kS rfl rfl (by omega) (by omega) rfl) ?_;refine AL 5 ?_;refine JT (i:=0) (m:=pn n) (news:=((ek (kn ws k).2).take (pn n))) (H':=[aj b10 (ek (re (ky s' ((kn ws k).1)) (kn ws k).2 (pn n))) 128,aj b9 (cT (kn ws k)) 187,aj d [(.map (some m)),wv,(.bool (ar)),(.int .i64 (lf)),(.bool (dn))] 161,jy m (r9 s'),own wv (ws.length) (dz ws) 187 65]) (ab rfl) rfl rfl rfl gk kS rfl rfl rfl rfl (λ_ _=>jg (by rw[bo,bm,dF hw (by omega)];have:=rQ n;omega) (RO 1) (by rw[bo,bm,dF hw (by omega)];exact zF (dF hw (by omega)) (rQ n))) (λu hu=>eU _ u (gr hu)) (by rw[bm,eV hs2];have:=rQ n;omega) (En (rQ n) (eV hs2 _) (dF hw (by omega)) (by omega)) rfl (EN (DN (ac J10 (af (PS ?_)))));refine FA 0 oc aO ?_;refine LA 1 Y3 ?_
 refine tp (aK (vs:=ek (re (ky s' ((kn ws k).1)) (kn ws k).2 (pn n))) rfl qJ rfl kq rfl (RO 0) (by rw[bm];exact pJ (eV hs2 _) (dF hw (by omega))) (uD (by rw[bm];exact pJ (eV hs2 _) (dF hw (by omega))))) ?_;refine CR GL (n7 d m wv s' ar (dn) lf ((kn ws k).1) (re (ky s' ((kn ws k).1)) (kn ws k).2 (pn n)) (by exact pJ (eV hs2 _) (dF hw (by omega)))) (SM [2,2]) λvR HR hR=>?_
 subst hR;refine au (ag (ac J6 (af (AD ?_))));refine PS ?_;refine au ?_
 exact aJ ((k+1,m9 s' (kn ws k).1 (re (ky s' (kn ws k).1) (kn ws k).2 (pn n))):(Nat)×(fo)) ⟨by omega,by rw[hs',mp,l5,if_pos h26]⟩ (by show ws.length- (k+1)<ws.length-k;omega)
  SB
  (λ_ s=>ak [0,0,2] rfl s)
 refine nx J8 (CN (sr λ_ J11=>P2 ?_));refine tp (PV.rem (r:=((k%32:Nat):Int)) rfl rfl rfl (by omega) (by rw[show(32:Int)=((32:Nat):Int)from rfl,←Int.ofNat_tmod])) ?_;refine tp (lm (r:=mask.fdiv (2^ (k%32))) rfl rfl rfl (by omega) (by congr 2;show min ((k%32:Nat):Int).toNat 64=k%32;omega)) ?_;refine tp (tR (r:=mask.fdiv (2^ (k%32))%2) rfl rfl rfl (MH _)) ?_;refine PS ?_;refine am ?_ ?_<;>intro h50;refine nx J11 (CY (af (PS ?_)));refine FA 0 oc aO ?_;refine LA 0 Y3 ?_;refine FA 1 oc kq ?_;refine tp (aK (vs:=ek (kn ws k).2) rfl qJ rfl kq rfl (RO 0) (by rw[bm];exact dF hw (by omega)) (uo (dF hw (by omega)))) ?_;refine CR GL (n7 d m wv s' ar (dn) lf ((kn ws k).1) (kn ws k).2 (by exact dF hw (by omega))) (SM [1,1]) λvR HR hR=>?_
 subst hR;refine au (ag (ac J6 (af (AD ?_))));refine PS ?_;refine au ?_
 exact aJ ((k+1,m9 s' (kn ws k).1 (kn ws k).2):(Nat)×(fo)) ⟨by omega,by rw[hs',mp,l5,if_neg h26,if_pos h50]⟩ (by show ws.length- (k+1)<ws.length-k;omega)
  SB
  (λ_ s=>ak [0,0,1] rfl s)
 refine nx J11 (CN (aQ (ag (ac J6 (af (AD ?_))))));refine PS ?_;refine au ?_
 exact aJ ((k+1,s'):(Nat)×(fo)) ⟨by omega,by rw[mp,l5,if_neg h26,if_neg h50];exact hs'⟩ (by show ws.length- (k+1)<ws.length-k;omega)
  SB
  (λ_ s=>ak [1,1,1] rfl s)
 refine nx J4 (aa λ_ J12=>CN (aZ (aB (aB (bw (ac J2 (af ?_)))))))
 iterate 5 refine PS ?_
 refine FA 1 gB gl ?_;refine S0 0 gl ?_;refine PS ?_;refine FA 2 gB kp ?_;refine S0 0 kp ?_;refine PS ?_;refine FA 3 gB aO ?_;refine S0 0 aO ?_;refine PS ?_;refine FA 4 gB kp ?_;refine S0 0 kp ?_;refine au (aE (H':=[aj d [(.map (some m)),(.slice none 0 0),(.bool false),(.int .i64 0),(.bool false)] 161,jy m (r9 s'),own (.slice none 0 0) 0 [] 187 65]) (dE _) (λ_ s=>dX (List.Perm.trans (List.Perm.swap _ _ _) (List.Perm.cons _ (List.Perm.swap _ _ _))) (fR 187 65 (ak [0,0] rfl s))) (bu rfl ?_));obtain rfl:k=ws.length:=by omega
 subst hs';exact rfl
theorem Ki:Tryz.prog.eqGuardType Tryz.prog.depth 128=false:=by kernel_rfl
theorem Kg:Tryz.prog.keyTypeAt 2 128=true:=by kernel_rfl
theorem Kk:lL Tryz.prog 2 128=some (List.replicate 64 (some .u8)):=by kernel_rfl
theorem Km:FJ Tryz.prog 128=true:=by kernel_rfl
theorem Kl:Tryz.prog.cellsOf 128=64:=by kernel_rfl
abbrev dk(d:Nat)(D:DS):HP:=Lx 161 187 d D
theorem D3(d:Nat)(D:DS):DT 57 #[(.pointer (some ⟨d,0,none⟩))] T0 [dk d D] (RI (.bool D.dn) [dk d (D)]):=Leg.Does.pack (B:=[]) λ⟨m,wv⟩=>
 Leg.Does.withinR (zb d m wv D.ar D.dn D.lf) (B:=[jy m (r9 D.s),own wv D.ws.length (dz D.ws) 187 65]) (λ_ _ _ _=>trivial) (λ_ s=>s) (λv H h=>by
  obtain⟨rfl,rfl⟩:=h
  exact⟨_,λ_ s=>bi (H:=[]) (m,wv) (s),rfl,rfl⟩)
theorem JI(d:Nat)(D:DS)(n:Int):DT 61 #[(.pointer (some ⟨d,0,none⟩)), .int .i64 n] T0 [dk d D] (dw (λv H=>True∧H=[dk d (D.arm n)])):=Leg.Does.pack (B:=[]) λ⟨m,wv⟩=>
 Leg.Does.withinR (A4 d m wv D.ar D.dn D.lf n) (B:=[jy m (r9 D.s),own wv D.ws.length (dz D.ws) 187 65]) (λ_ _ _ _=>trivial) (λ_ s=>s) (λv H h=>by
  subst h
  exact⟨_,λ_ s=>bi (H:=[]) (m,wv) s,trivial,rfl⟩)
theorem zc(d:Nat)(D:DS)(at':Int)(hD:D.Ok)(hb:D.ws.length≤1000000000):DT 130 #[(.pointer (some ⟨d,0,none⟩)), .int .i64 at'] T0 [dk d D] (RI (ED (D.read at')) [dk d (D)]):=Leg.Does.pack (B:=[]) λ⟨m,wv⟩=>
 Leg.Does.withinR (za d m wv D.s D.ws D.ar D.dn D.lf at' hD.s hD.ws hb) (B:=[]) (λ_ _ _ _=>trivial) (λ_ s=>s) (λv H h=>by
  obtain⟨rfl,rfl⟩:=h
  exact⟨_,λ_ s=>bi (H:=[]) (m,wv) (s),rfl,rfl⟩)
theorem A9(d:Nat)(D:DS)(mask torn n:Int)(hD:D.Ok):DT 62 #[(.pointer (some ⟨d,0,none⟩)), .int .i64 mask, .int .i64 torn, .int .i64 n] T0 [dk d D] (dw (λv H=>True∧H=[dk d (D.crash mask torn n)])):=Leg.Does.pack (B:=[]) λ⟨m,wv⟩=>
 Leg.Does.withinR (wQ d m wv D.s D.ws D.ar D.dn D.lf mask torn n hD.s hD.ws) (B:=[]) (λ_ _ _ _=>trivial) (λ_ s=>s) (λv H h=>by
  subst h
  exact⟨_,λ_ s=>bi (H:=[]) (m,(.slice none 0 0:Value)) s,trivial,rfl⟩)
theorem A8(d:Nat)(D:DS)(at':Int)(x:Value)(bs:List UInt8)(hD:D.Ok)(hb:D.ws.length≤1000000000):DT 70 #[(.pointer (some ⟨d,0,none⟩)), .int .i64 at',x] (IsW x bs) [dk d D] (RI (.int .i64 (D.write at' bs).1) [dk d ((D.write at' bs).2)]):=Leg.Does.pack (B:=[]) λ⟨m,wv⟩=>
 Leg.Does.withinR (wP d m wv D.ws D.ar D.dn D.lf at' x bs hD.lf hb) (B:=[jy m (r9 D.s)]) (λ_ _ h d=>h.more d) (λ_ s=>az [0,1] rfl s) (λv H h=>by
  unfold DS.write;replace h:(if at'<0∨2048≤at'∨64<bs.length then _ else _):=h;split at h<;>rename_i h1
  · rw[if_pos h1]
    obtain⟨rfl,rfl⟩:=h;exact⟨_,λ_ s=>bi (H:=[]) (m,wv) (az [0,1] rfl s),rfl,rfl⟩
  · rw[if_neg h1]
    split at h<;>rename_i h2
    · rw[if_pos h2]
      obtain⟨rfl,rfl⟩:=h;exact⟨_,λ_ s=>bi (H:=[]) (m,wv) (az [0,1] rfl s),rfl,rfl⟩
    · rw[if_neg h2]
      obtain⟨rfl,wv',rfl⟩:=h
      exact⟨_,λ_ s=>bi (H:=[]) (m,wv') (az [0,1] rfl s),rfl,rfl⟩)
theorem DZ(d:Nat)(D:DS)(hD:D.Ok):DT 71 #[(.pointer (some ⟨d,0,none⟩))] T0 [dk d D] (RI (.int .i64 D.sync.1) [dk d D.sync.2]):=by
 obtain⟨s,ws,ar,lf,dn⟩:=D;cases dn
 · exact Leg.Does.pack (B:=[]) λ⟨m,wv⟩=>Leg.Does.withinR (vS d m wv s ws ar lf hD.ws) (B:=[]) (λ_ _ _ _=>trivial) (λ_ s=>s) (λv H h=>by
    obtain⟨rfl,rfl⟩:=h
    exact⟨_,λ_ s=>bi (H:=[]) (m,(.slice none 0 0:Value)) s,rfl,rfl⟩)
 · exact Leg.Does.pack (B:=[]) λ⟨m,wv⟩=>Leg.Does.withinR (sM d m wv ar lf) (B:=[jy m (r9 s),own wv ws.length (dz ws) 187 65]) (λ_ _ _ _=>trivial) (λ_ s=>s) (λv H h=>by
    obtain⟨rfl,rfl⟩:=h
    exact⟨_,λ_ s=>bi (H:=[]) (m,wv) s,rfl,rfl⟩)
theorem JH:DT 54 #[] T0 [] (dw (λv H=>∃d,v= .pointer (some ⟨d,0,none⟩)∧H=[dk d DS.new])):=
 Leg.Does.withinR A3 (B:=[]) (λ_ _ _ _=>trivial) (λ_ s=>s) (λv H h=>by
  obtain⟨d,m,rfl,rfl⟩:=h
  exact⟨_,λ_ s=>bi (H:=[]) (m,(.slice none 0 0:Value)) (dX (List.Perm.trans (List.Perm.swap _ _ _) (List.Perm.cons _ (List.Perm.swap _ _ _))) (fR 187 65 s)),d,rfl,rfl⟩)
end Go.Proofs.YtjblgopghhgflaaGreat
end

section
namespace Wal
open Go Leg Codec Api Dsk
theorem sD{x y:Int}(k:Nat)(hx:0≤x)(hx2:x<2^k)(hy:0≤y)(h:x+y*2^k<4294967296):ik .u32 x (y*2^k)=x+y*2^k:=by
 obtain⟨a,rfl⟩:=Int.eq_ofNat_of_zero_le hx;obtain⟨b,rfl⟩:=Int.eq_ofNat_of_zero_le hy;have e2:((b:Nat):Int)*2^k=((b*2^k:Nat):Int):=by simp
 rw[e2]at h ⊢
 have ha:a<2^k:=by
  have:(((2:Nat)^k:Nat):Int)=(2:Int)^k:=by simp
  omega
 have hs:a+b*2^k<4294967296:=by omega
 have h1:(BitVec.ofInt 32 (a:Int)).toNat=a:=by rw[BitVec.toNat_ofInt];omega
 have h2:(BitVec.ofInt 32 ((b*2^k:Nat):Int)).toNat=b*2^k:=by
  rw[BitVec.toNat_ofInt];generalize b*2^k=q at*;omega
 have h3:a|||b*2^k=a+b*2^k:=by
  rw[Nat.or_comm,←Nat.shiftLeft_eq,←Nat.shiftLeft_add_eq_or_of_lt ha,lE]
 show IntKind.u32.wrap (((BitVec.ofInt 32 (a:Int))||| (BitVec.ofInt 32 ((b*2^k:Nat):Int))).toNat:Nat)=_;rw[BitVec.toNat_or,h1,h2,h3];generalize b*2^k=q at*;rw[j5 (by omega) (by omega)];omega
theorem E9{x y:Int}(k:Nat)(hx:0≤x)(hx2:x<2^k)(hy:0≤y)(h:x+y*2^k<9223372036854775808):ik .i64 (y*2^k) x=x+y*2^k:=by
 obtain⟨a,rfl⟩:=Int.eq_ofNat_of_zero_le hx;obtain⟨b,rfl⟩:=Int.eq_ofNat_of_zero_le hy;have e2:((b:Nat):Int)*2^k=((b*2^k:Nat):Int):=by simp
 rw[e2]at h ⊢
 have ha:a<2^k:=by
  have:(((2:Nat)^k:Nat):Int)=(2:Int)^k:=by simp
  omega
 have h1:(BitVec.ofInt 64 (a:Int)).toNat=a:=by rw[BitVec.toNat_ofInt];omega
 have h2:(BitVec.ofInt 64 ((b*2^k:Nat):Int)).toNat=b*2^k:=by
  rw[BitVec.toNat_ofInt];generalize b*2^k=q at*;omega
 have h3:b*2^k|||a=a+b*2^k:=by
  rw[←Nat.shiftLeft_eq,←Nat.shiftLeft_add_eq_or_of_lt ha,lE]
 show IntKind.i64.wrap (((BitVec.ofInt 64 ((b*2^k:Nat):Int))||| (BitVec.ofInt 64 (a:Int))).toNat:Nat)=_;rw[BitVec.toNat_or,h1,h2,h3];generalize b*2^k=q at*;rw[bI (by omega) (by omega)];omega
theorem Ek(x:Int):0≤IntKind.u32.wrap x∧IntKind.u32.wrap x<4294967296:=by
 simp only[IntKind.wrap,IntKind.signed,IntKind.bits];simp;omega
theorem zx(a b:Int):0≤oH .u32 a b∧oH .u32 a b<4294967296:=Ek _
def r8(x:Int):UInt8:=UInt8.ofNat (x%256).toNat
theorem lx(x:Int):(((r8 x).toNat:Nat):Int)=x%256:=by
 have:(x%256).toNat<256:=by omega
 simp only[r8,UInt8.toNat_ofNat'];omega
theorem r8_wrap(x:Int):IntKind.u8.wrap x=(((r8 x).toNat:Nat):Int):=by
 rw[lx];simp only[IntKind.wrap,IntKind.signed,IntKind.bits];simp
def CV(r:Int):Int:=if rV .u32 r 1=1 then oH .u32 (r.fdiv 2) 3988292384 else r.fdiv 2
def lV(r:Int):Nat→Int
 |0=>r
 |k+1=>CV (lV r k)
def D5(r:Int)(c:UInt8):Int:=lV (oH .u32 r ((c.toNat:Nat):Int)) 8
def fa(r:Int)(bs:List UInt8):Int:=bs.foldl D5 r
def fF(bs:List UInt8):Int:=oH .u32 4294967295 (fa 4294967295 bs)
theorem Bb{r:Int}{bs:List UInt8}{k:Nat}(h:k<bs.length):fa r (bs.take (k+1))=D5 (fa r (bs.take k)) (bs.getD k 0):=by
 rw[fa,fa,bW h,dU,List.getD_eq_getElem?_getD,List.getElem?_eq_getElem h];rfl
theorem wR(r:Int)(a b:List UInt8):fa r (a++b)=fa (fa r a) b:=by simp[fa]
theorem Bc{r:Int}{ps:List (List UInt8)}{k:Nat}(h:k<ps.length):fa r (ps.take (k+1)).flatten=fa (fa r (ps.take k).flatten) ps[k]:=by
 rw[bW h,List.flatten_append,wR];simp
theorem Bd(bs:List UInt8):0≤fF bs∧fF bs<4294967296:=zx _ _
def MF(r:Int):List UInt8:=[r8 r,r8 (r.fdiv 256),r8 (r.fdiv 65536),r8 (r.fdiv 16777216)]
def GW(a b c d:UInt8):Int:=
 ik .u32 (ik .u32 (ik .u32 ((a.toNat:Nat):Int) (IntKind.u32.wrap (((b.toNat:Nat):Int)*2^8))) (IntKind.u32.wrap (((c.toNat:Nat):Int)*2^16))) (IntKind.u32.wrap (((d.toNat:Nat):Int)*2^24))
theorem Ic(a b c d:UInt8):GW a b c d=((a.toNat:Nat):Int)+((b.toNat:Nat):Int)*256+((c.toNat:Nat):Int)*65536+((d.toNat:Nat):Int)*16777216:=by
 have ha:=a.toNat_lt;have hb:=b.toNat_lt;have hc:=c.toNat_lt;have hd:=d.toNat_lt;unfold GW;generalize a.toNat=a at*;generalize b.toNat=b at*;generalize c.toNat=c at*;generalize d.toNat=d at*;rw[j5 (x:=(b:Int)*2^8) (by omega) (by omega),j5 (x:=(c:Int)*2^16) (by omega) (by omega),j5 (x:=(d:Int)*2^24) (by omega) (by omega)];rw[sD 8 (by omega) (by omega) (by omega) (by omega),sD 16 (by omega) (by omega) (by omega) (by omega),sD 24 (by omega) (by omega) (by omega) (by omega)];omega
def o7(bs:List UInt8):List UInt8:=bs++MF (fF bs)
def mc(bs:List UInt8):Option (List UInt8):=
 if bs.length<4 then none
 else if fF (bs.take (bs.length-4))=GW ((bs.drop (bs.length-4)).getD 0 0) ((bs.drop (bs.length-4)).getD 1 0) ((bs.drop (bs.length-4)).getD 2 0) ((bs.drop (bs.length-4)).getD 3 0)then some (bs.take (bs.length-4))else none
theorem kf(bs:List UInt8):(o7 bs).length=bs.length+4:=by simp[o7,MF]
theorem GV{r:Int}(h:0≤r∧r<4294967296):GW (r8 r) (r8 (r.fdiv 256)) (r8 (r.fdiv 65536)) (r8 (r.fdiv 16777216))=r:=by
 rw[Ic,lx,lx,lx,lx,Int.fdiv_eq_ediv_of_nonneg _ (by decide),Int.fdiv_eq_ediv_of_nonneg _ (by decide),Int.fdiv_eq_ediv_of_nonneg _ (by decide)];omega
theorem qc(bs:List UInt8):mc (o7 bs)=some bs:=by
 have hl:=kf bs;have e1:(o7 bs).take (bs.length+4-4)=bs:=by rw[FN,o7];exact rY
 have e2:(o7 bs).drop (bs.length+4-4)=MF (fF bs):=by rw[FN,o7];exact Bt
 unfold mc;rw[hl,if_neg (by omega),e1,e2];exact if_pos (GV (Bd bs)).symm
theorem xm{bs t:List UInt8}(h:mc bs=some t):t.length+4=bs.length:=by
 unfold mc at h;split at h
 · cases h
 · split at h
   · injection h with h;subst h;rw[bo];omega
   · cases h
def bp(n:Nat):Nat:=if n=0 then 1 else(n-1) / 52+1
theorem o8(n:Nat):0<bp n:=by unfold bp;split<;>omega
theorem vh{n:Nat}(h:n≤3000):bp n≤58:=by unfold bp;split<;>omega
theorem wG(n:Nat):n≤bp n*52:=by unfold bp;split<;>omega
def HF(n:Int):List UInt8:=[r8 (n.fdiv 16777216),r8 (n.fdiv 65536),r8 (n.fdiv 256),r8 n]
def FI(bs:List UInt8):Int:=bs.foldl (λh c=>ik .i64 (IntKind.i64.wrap (h*2^8)) ((c.toNat:Nat):Int)) 0
theorem Hn{bs:List UInt8}{k:Nat}(h:k<bs.length):FI (bs.take (k+1))=ik .i64 (IntKind.i64.wrap (FI (bs.take k)*2^8)) (((bs.getD k 0).toNat:Nat):Int):=by
 rw[FI,FI,bW h,dU,List.getD_eq_getElem?_getD,List.getElem?_eq_getElem h];rfl
theorem tZ{h:Int}(c:UInt8)(h0:0≤h)(h1:h<4294967296):ik .i64 (IntKind.i64.wrap (h*2^8)) ((c.toNat:Nat):Int)=h*256+((c.toNat:Nat):Int):=by
 have hc:=c.toNat_lt;generalize c.toNat=c at*;rw[bI (by omega) (by omega),E9 8 (by omega) (by omega) (by omega) (by omega)];omega
theorem Ho(a b c d:UInt8):FI [a,b,c,d]=((a.toNat:Nat):Int)*16777216+((b.toNat:Nat):Int)*65536+((c.toNat:Nat):Int)*256+((d.toNat:Nat):Int):=by
 have ha:=a.toNat_lt;have hb:=b.toNat_lt;have hc:=c.toNat_lt;have hd:=d.toNat_lt;simp only[FI,List.foldl_cons,List.foldl_nil];rw[tZ a (by omega) (by omega),tZ b (by omega) (by omega),tZ c (by omega) (by omega),tZ d (by omega) (by omega)];omega
theorem Iv{n:Int}(h0:0≤n)(h1:n<4294967296):FI (HF n)=n:=by
 rw[HF,Ho,lx,lx,lx,lx,Int.fdiv_eq_ediv_of_nonneg _ (by decide),Int.fdiv_eq_ediv_of_nonneg _ (by decide),Int.fdiv_eq_ediv_of_nonneg _ (by decide)];omega
def gd(b:List UInt8)(i:Nat):List UInt8:=(b.drop (i*52)).take 52
theorem sA(b:List UInt8)(i:Nat):(gd b i).length≤52:=by rw[gd,bo];omega
theorem H0{n k:Nat}(h:k<bp n):k*52≤n:=by unfold bp at h;split at h<;>omega
theorem H3(b:List UInt8)(k:Nat):((b.take (min ((k+1)*52) b.length)).drop (k*52))=gd b k:=by
 rw[gd,nE,fz,Nat.one_mul]
 by_cases q:k*52+52≤b.length
 · rw[Nat.min_eq_left q,cm]
 · rw[Nat.min_eq_right (by omega),aC (by rw[dO];omega),aC (by rw[dO];omega)]
theorem E6(b:List UInt8): ∀k,b.length≤k*52→((List.range k).map (gd b)).flatten=b:=by
 have key: ∀k,((List.range k).map (gd b)).flatten=b.take (k*52):=by
  intro k
  induction k with
  |zero=>simp
  |succ k ih=>
   rw[cS,co,List.flatten_append,ih,fz,Nat.one_mul,List.take_add];simp[gd]
 intro k hk;rw[key,aC hk]
def jl(number:Int)(place all:Nat)(p:List UInt8):List UInt8:=HF number++([r8 (place:Int),r8 (all:Int),r8 (p.length:Int)]++(p++List.replicate (52-p.length) 0))
theorem iW{number:Int}{place all:Nat}{p:List UInt8}(h:p.length≤52):(jl number place all p).length=59:=by simp[jl,HF];omega
def oY(number:Int)(place all:Nat)(p:List UInt8):js:=o7 (jl number place all p)++[1]
theorem EC{number:Int}{place all:Nat}{p:List UInt8}(h:p.length≤52):(oY number place all p).length=64:=by simp[oY,kf,iW h]
def cj(number:Int)(b:List UInt8):List js:=(List.range (bp b.length)).map λi=>oY number i (bp b.length) (gd b i)
def mg(number:Int)(b:List UInt8)(k:Nat):List js:=(List.range k).map λi=>oY number i (bp b.length) (gd b i)
theorem B3(number:Int)(b:List UInt8)(k:Nat):mg number b (k+1)=mg number b k++[oY number k (bp b.length) (gd b k)]:=by simp[mg,cS]
theorem xp(number:Int)(b:List UInt8)(k:Nat):(mg number b k).length=k:=by simp[mg]
theorem Eo{number:Int}{place all:Nat}{p:List UInt8}(h:p.length≤52):
 wr (ek (HF number++([r8 (place:Int),r8 (all:Int),r8 (p.length:Int)]++List.replicate 52 0))) 7 ((ek p).take (min p.length 52))=ek (jl number place all p):=by
 have e:(ek p).take (min p.length 52)=ek p:=aC (by rw[bm];omega);rw[e,wr,bm];have e2:(ek (HF number++([r8 (place:Int),r8 (all:Int),r8 (p.length:Int)]++List.replicate 52 0))).take 7=ek (HF number++[r8 (place:Int),r8 (all:Int),r8 (p.length:Int)]):=rfl
 have e3:(ek (HF number++([r8 (place:Int),r8 (all:Int),r8 (p.length:Int)]++List.replicate 52 0))).drop (7+p.length)=ek (List.replicate (52-p.length) 0):=by
  rw[←jJ];have:(ek (HF number++([r8 (place:Int),r8 (all:Int),r8 (p.length:Int)]++List.replicate 52 0))).drop 7=ek (List.replicate 52 0):=rfl;rw[this,ek,ek,←ko,List.drop_replicate]
 rw[e2,e3,jl];simp[ek]
theorem el(number:Int)(b:List UInt8):(cj number b).length=bp b.length:=by simp[cj]
def e8(s:js)(number place:Int):Option (List UInt8×Int):=
 match mc (s.take 63)with
 |none=>none
 |some t=>if s.getD 63 0≠1 then none
  else if FI (t.take 4)≠number∨(((t.getD 4 0).toNat:Nat):Int)≠place∨place≥(((t.getD 5 0).toNat:Nat):Int)∨(((t.getD 6 0).toNat:Nat):Int)>52 then none
  else some ((t.drop 7).take (t.getD 6 0).toNat,(((t.getD 5 0).toNat:Nat):Int))
theorem Av{number:Int}{place all:Nat}{p:List UInt8}(h:p.length≤52)(h0:0≤number)(h1:number<4294967296)(hp:place<all)(ha:all≤255):e8 (oY number place all p) number place=some (p,(all:Int)):=by
 have e1:(oY number place all p).take 63=o7 (jl number place all p):=by
  rw[oY,cr (by rw[kf,iW h];omega),aC (by rw[kf,iW h];omega)]
 have e2:(oY number place all p).getD 63 0=1:=by
  rw[oY,List.getD_eq_getElem?_getD,List.getElem?_append_right (by rw[kf,iW h];omega),kf,iW h];rfl
 have n1:(((r8 (place:Int)).toNat:Nat):Int)=place:=by rw[lx];omega
 have n2:(((r8 (all:Int)).toNat:Nat):Int)=all:=by rw[lx];omega
 have n3:(((r8 (p.length:Int)).toNat:Nat):Int)=p.length:=by rw[lx];omega
 unfold e8;rw[e1,qc];simp only[e2,ne_eq,not_true_eq_false,if_false];have t4:(jl number place all p).take 4=HF number:=rfl;have g4:(jl number place all p).getD 4 0=r8 (place:Int):=rfl;have g5:(jl number place all p).getD 5 0=r8 (all:Int):=rfl;have g6:(jl number place all p).getD 6 0=r8 (p.length:Int):=rfl;have g7:(jl number place all p).drop 7=p++List.replicate (52-p.length) 0:=rfl;rw[t4,Iv h0 h1,g4,g5,g6,g7,n1,n2,n3];rw[if_neg (by omega)];have n3':(r8 (p.length:Int)).toNat=p.length:=by omega
 rw[n3'];simp
theorem qo{s:js}{number place:Int}(h:s.getD 63 0≠1):e8 s number place=none:=by
 unfold e8;split
 · rfl
 · rw[if_pos h]
theorem nV{s b:js}{number place all:Int}(hs:s.length=64)(h:e8 s number place=some (b,all)):place<all∧all≤255∧b.length≤52:=by
 unfold e8 at h;split at h
 · cases h
 · rename_i t ht
   have hl:=xm ht;split at h
   · cases h
   · split at h
     · cases h
     · rename_i h2
       injection h with h
       simp only[Prod.mk.injEq]at h;obtain⟨rfl,rfl⟩:=h;have:=(t.getD 5 0).toNat_lt;rw[bo];omega
theorem yQ{s:js}{number place:Int}(h:mc (s.take 63)=none):e8 s number place=none:=by simp only[e8,h]
theorem lR{s t:js}{number place:Int}(h:mc (s.take 63)=some t)(h2:FI (t.take 4)≠number∨(((t.getD 4 0).toNat:Nat):Int)≠place∨place≥(((t.getD 5 0).toNat:Nat):Int)∨(((t.getD 6 0).toNat:Nat):Int)>52):e8 s number place=none:=by
 simp only[e8,h];split
 · rfl
 · first|rfl|rw[if_pos h2]
theorem Au{s t:js}{number place:Int}(h:mc (s.take 63)=some t)(h1:s.getD 63 0=1)(h2: ¬(FI (t.take 4)≠number∨(((t.getD 4 0).toNat:Nat):Int)≠place∨place≥(((t.getD 5 0).toNat:Nat):Int)∨(((t.getD 6 0).toNat:Nat):Int)>52)):
 e8 s number place=some ((t.drop 7).take (t.getD 6 0).toNat,(((t.getD 5 0).toNat:Nat):Int)):=by
 simp only[e8,h,h1,ne_eq,not_true_eq_false,if_false];rw[if_neg h2]
def kj(rd:Int→js)(number at' all:Int):Nat→Option (List UInt8)
 |0=>some []
 |k+1=>match kj rd number at' all k with
  |none=>none
  |some b=>match e8 (rd (at'+k)) number k with
   |none=>none
   |some (m,same)=>if same=all then some (b++m)else none
def fA(rd:Int→js)(number at':Int):Option (List UInt8×Int):=
 match e8 (rd at') number 0 with
 |none=>none
 |some (_,all)=>(kj rd number at' all all.toNat).map λb=>(b,all)
theorem Cl{rd:Int→js}{number at' all:Int}{k:Nat}(h:kj rd number at' all k=none): ∀m,k≤m→kj rd number at' all m=none:=by
 intro m hm
 induction hm with
 |refl=>exact h
 |step _ ih=>simp only[kj,ih]
theorem vu{rd:Int→js}{number at' all:Int}{k:Nat}(h:e8 (rd (at'+k)) number k=none∨∃m same,e8 (rd (at'+k)) number k=some (m,same)∧same≠all): ∀m,k<m→kj rd number at' all m=none:=by
 refine λm hm=>Cl (k:=k+1) ?_ m hm
 simp only[kj];cases kj rd number at' all k with
 |none=>rfl
 |some b=>
  rcases h with h| ⟨x,same,h,h2⟩
  · simp only[h]
  · simp only[h,if_neg h2]
theorem vw{rd:Int→js}{number at' all:Int}{k:Nat}{b x:List UInt8}(h:kj rd number at' all k=some b)(h2:e8 (rd (at'+k)) number k=some (x,all)):kj rd number at' all (k+1)=some (b++x):=by
 simp only[kj,h,h2,if_true]
theorem Fh{rd:Int→js}{number at' all:Int}{b:List UInt8}(h:e8 (rd at') number 0=some (b,all)):kj rd number at' all 1=some b:=by
 have h0:kj rd number at' all 0=some []:=rfl;have:=vw (rd:=rd) (number:=number) (at':=at') (all:=all) (k:=0) h0 (x:=b) (by simpa using h)
 simpa using this
theorem pW{rd:Int→js}{number at':Int}(h:e8 (rd at') number 0=none):fA rd number at'=none:=by simp only[fA,h]
theorem pV{rd:Int→js}{number at' all:Int}{b:List UInt8}(h:e8 (rd at') number 0=some (b,all))(h2:kj rd number at' all all.toNat=none):fA rd number at'=none:=by simp only[fA,h,h2,Option.map_none]
theorem rj{rd:Int→js}{number at' all:Int}{b c:List UInt8}(h:e8 (rd at') number 0=some (b,all))(h2:kj rd number at' all all.toNat=some c):fA rd number at'=some (c,all):=by simp only[fA,h,h2,Option.map_some]
def fE(rd:Int→js):Nat→Int→Int→List (List UInt8)×Int
 |0,_,used=>([],used)
 |f+1,cnt,used=>match fA rd (cnt+1) used with
  |none=>([],used)
  |some (b,all)=>let r:=fE rd f (cnt+1) (used+all);(b::r.1,r.2)
def jk:Nat→Int→DS→Int×DS
 |0,_,D=>(0,D)
 |n+1,at',D=>if D.read at'=zs then jk n (at'+1) D else if(D.write at' []).1=0 then jk n (at'+1) (D.write at' []).2 else D.write at' []
structure OpenR where
 err:Int
 recs:List (List UInt8)
 used:Int
 D:DS
def iO:Nat:=2049
theorem rI:iO=2049:=rfl
def bL(D:DS):OpenR:=
 let r:=fE D.read iO 0 0;let w:=jk (2048-r.2).toNat r.2 D
 if w.1≠0 then⟨w.1,[],0,w.2⟩else if w.2.sync.1≠0 then⟨w.2.sync.1,[],0,w.2.sync.2⟩else⟨0,r.1,r.2,w.2.sync.2⟩
def In(s:fo):Prop:=∀p∈s,0≤p.1∧p.1<2048
def DS.In(D:DS):Prop:=Wal.In D.s∧Wal.In D.ws
end Wal
end

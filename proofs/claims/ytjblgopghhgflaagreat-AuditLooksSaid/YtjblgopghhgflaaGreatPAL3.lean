/-
  Joined texts:what a statement's proof reaches.
-/
import Derived.Laws.MakeOwn
import Derived.OwnWalk
import Derived.OpenShut
import Derived.Deep.Slices
import Derived.ChangeArms
import Derived.WalkSpells
import Derived.Test.YtjblgopghhgflaaGreatPAL2
set_option maxHeartbeats 8000000
set_option maxRecDepth 100000
set_option linter.unusedSimpArgs false
set_option linter.unusedVariables false
section
namespace Leg
open Go Codec Api
theorem xg(v:Value)(n:Nat):madeCells #[v] n=(List.replicate n v).toArray:=by
 unfold madeCells;apply Array.ext
 · simp
 · intro i h1 h2
   simp at h1;simp[Nat.mod_one]
theorem Io(n:Nat):dY (List.replicate n 0)=List.replicate n (.int .u8 0):=by simp[dY]
section
variable {P:Program} {w0:World} {F:Hl} {n:Nat} {ops:Array Oper} {Q:QQ} {D:List Deferred} {L:List (Nat×Value)} {H:List HP} {o:Oper} {l:List Oper} {d:Nat} {S:World→Prop}
theorem TL.mono{H':List HP}(m: ∀h,bC H h→bC H' h)(h:TL P w0 F n ops Q l D L H'):TL P w0 F n ops Q l D L H:=TL.weak (dh _) m h
abbrev cq:= @TL.mono
theorem TL.makeB{t e:TypeId}{x y:Operand}{k k':IntKind}{a b:Int}(m c:Nat)(hw:Want n D ops o L)(ho:o.op= .makeSlice t x y)(hd:o.dst=some d)(hn:Nat.blt d n=true)(ht:P.underlying t=some (.slice e))
 (hi:(P.info? e).map (λi=>(i.zero,i.size,i.bytes))=some (some (.int .u8 0),1,1)) (hx:cy L x=some (.int k a)) (hy:cy L y=some (.int k' b)) (ha:a=(m:Int)) (hb:b=(c:Int)) (h1:m≤c) (h2:c≤281474976710656)
 (h: ∀b,TL P w0 F n ops Q l D ((d, .slice (some ⟨b,0,none⟩) m c)::L) (ag b (dY (List.replicate c 0)) e::H)):TL P w0 F n ops Q (o::l) D L H:=
 lQ hw λa w f sm q=>by
  subst ha;subst hb;obtain⟨i,hie,hz0,hs,hb⟩:=info_parts hi;have hr:=run_make (P:=P) w t e i (.int .u8 0) ht hie hz0 k k' (m:Int) (c:Int) (by omega) (by omega) (by rw[hb];omega) (by omega)
  have e1:madeCells (Value.cells (.int .u8 0)) ((c:Int).toNat*i.size)=(dY (List.replicate c 0)).toArray:=by
   rw[hs,fC,Ia,Io];exact xg _ _
  rw[e1]at hr;simp only[Ia]at hr
  have r:(execOp a.eval o).run P w= .ok (.value (.slice (some ⟨w.heap.size,0,none⟩) m c)) (w.alloc (.cells (dY (List.replicate c 0)).toArray e)):=by
   simp only[execOp,ho,f.eval hx,f.eval hy,Sem.run_bind,hr,Result.andThen_ok,Sem.run_pure]
  unfold Oper.wp;rw[r,Oper.upon_value,hd];exact h _ _ _ (f.put (lb hn) _) (sm.trans ⟨rfl,rfl,rfl,by simp⟩) (q.alloc _)
def jH:Value→Nat→Nat→Value
 | .slice a m c,lo,hi=> .slice (if c=lo then a else a.map (·.add lo)) (hi-lo) (c-lo)
 |v,_,_=>v
theorem PV.sliceLH{t e:TypeId}{x y z:Operand}{a:Option Addr}{len cap lo hi:Nat}{k k':IntKind}{i j:Int}(ho:o.op= .slice t x (some y) (some z) none)(ht:P.underlying t=some (.slice e))(hs:(P.info? e).map (·.size)=some 1)
 (hx:cy L x=some (.slice a len cap)) (hy:cy L y=some (.int k i)) (hz:cy L z=some (.int k' j)) (hi':i=(lo:Int)) (hj:j=(hi:Int)) (h1:lo≤hi) (h2:hi≤cap):PV P n D L S o (jH (.slice a len cap) lo hi):=
 λb w g _=>by
  subst hi';subst hj;simp only[execOp,ho,g.eval hx,Option.map_some,Option.map_none,g.eval hy,g.eval hz,jH]
  by_cases q:cap=lo
  · have e2:hi=lo:=by omega
    subst e2;simp[Instr.sliceAt,Instr.slice,run_underlying ht,Instr.sliceBounds,Instr.sliceBound,asIntOf,dV hs,q]
  · simp[Instr.sliceAt,Instr.slice,run_underlying ht,Instr.sliceBounds,Instr.sliceBound,asIntOf,h1,h2,dV hs,q]
theorem PV.sliceH{t e:TypeId}{x z:Operand}{a:Option Addr}{len cap hi:Nat}{k':IntKind}{j:Int}(ho:o.op= .slice t x none (some z) none)(ht:P.underlying t=some (.slice e))(hs:(P.info? e).map (·.size)=some 1)
 (hx:cy L x=some (.slice a len cap)) (hz:cy L z=some (.int k' j)) (hj:j=(hi:Int)) (h2:hi≤cap):PV P n D L S o (jH (.slice a len cap) 0 hi):=
 λb w g _=>by
  subst hj;simp only[execOp,ho,g.eval hx,Option.map_some,Option.map_none,g.eval hz,jH]
  by_cases q:cap=0
  · have e2:hi=0:=by omega
    subst e2;simp[Instr.sliceAt,Instr.slice,run_underlying ht,Instr.sliceBounds,Instr.sliceBound,asIntOf,dV hs,q]
  · simp[Instr.sliceAt,Instr.slice,run_underlying ht,Instr.sliceBounds,Instr.sliceBound,asIntOf,h2,dV hs,q]
theorem PV.sliceL{t e:TypeId}{x y:Operand}{a:Option Addr}{len cap lo:Nat}{k:IntKind}{i:Int}(ho:o.op= .slice t x (some y) none none)(ht:P.underlying t=some (.slice e))(hs:(P.info? e).map (·.size)=some 1)
 (hx:cy L x=some (.slice a len cap)) (hy:cy L y=some (.int k i)) (hi:i=(lo:Int)) (h1:lo≤len):PV P n D L S o (jH (.slice a len cap) lo len):=
 λb w g _=>by
  subst hi;simp only[execOp,ho,g.eval hx,Option.map_some,Option.map_none,g.eval hy,jH]
  by_cases q:cap=lo
  · simp[Instr.sliceAt,Instr.slice,run_underlying ht,Instr.sliceBounds,Instr.sliceBound,asIntOf,h1,dV hs,q]
  · simp[Instr.sliceAt,Instr.slice,run_underlying ht,Instr.sliceBounds,Instr.sliceBound,asIntOf,h1,dV hs,q]
end
theorem IsW.form{v:Value}{bs:List UInt8}{F:Hl}(h:IsW v bs F): ∃a c,v= .slice a bs.length c∧bs.length≤c∧(bs.length=0∨c≤9223372036854775807):=by
 rcases h with(⟨rfl,rfl⟩| ⟨b,off,cap,cs,T,z,rfl,h1,h2,_⟩)| ⟨a,c,rfl,rfl⟩
 · exact⟨_,_,rfl,aK _, .inl rfl⟩
 · exact⟨_,_,rfl,h1, .inr h2⟩
 · exact⟨_,_,rfl,aN _, .inl rfl⟩
theorem IsW.lt{v:Value}{bs:List UInt8}{F:Hl}(h:IsW v bs F):bs.length≤9223372036854775807:=by
 obtain⟨a,c,_,h1,h2⟩:=h.form;omega
theorem IsW.cut{v:Value}{bs:List UInt8}{F:Hl}(h:IsW v bs F){lo hi:Nat}(h1:lo≤hi)(h2:hi≤bs.length):IsW (jH v lo hi) ((bs.take hi).drop lo) F:=by
 have hl:((bs.take hi).drop lo).length=hi-lo:=by simp;omega
 by_cases e:hi-lo=0
 · obtain⟨a,c,rfl,hc,_⟩:=h.form
   have e0:(bs.take hi).drop lo=[]:=List.eq_nil_of_length_eq_zero (by omega);rw[e0];simp only[jH,e];split
   · cases a with
     |some a=>exact .inr ⟨_,_,rfl,rfl⟩
     |none=>
      rcases h with(⟨h,rfl⟩| ⟨b,off,cap,cs,T,z,h,_⟩)| ⟨a,c,h,_⟩
      · injection h with _ _ h;subst h;exact .inl (.inl ⟨by simp,rfl⟩)
      · simp at h
      · simp at h
   · cases a with
     |some a=>exact .inr ⟨_,_,rfl,rfl⟩
     |none=>
      rcases h with(⟨h,rfl⟩| ⟨b,off,cap,cs,T,z,h,_⟩)| ⟨a,c,h,_⟩
      · injection h with _ _ h;subst h;exact .inl (.inl ⟨by simp,rfl⟩)
      · simp at h
      · simp at h
 · obtain⟨b,off,cap,cs,T,z,rfl,hb,hcs,hc⟩:=h.at (j:=0) (by omega)
   rcases h.form with⟨a,c,hv,_,hm⟩
   injection hv with _ _ hv
   subst hv;refine .inl (.inr ⟨b,off+lo,cap-lo,cs,T,z,?_,by omega,by omega,hb,λj hj=>?_⟩)
   · simp only[jH,hl,if_neg (show ¬cap=lo by omega),Option.map_some,pS]
   · rw[hl]at hj
     rw[oY,hcs (lo+j) (by omega)];congr 2;simp[List.getD_eq_getElem?_getD,List.getElem?_take,show lo+j<hi by omega]
def gm(v:Value)(bs:List UInt8)(e:Nat):HP:=λh=>
 (v= .slice none 0 0∧bs=[]∧h=em)∨∃g off cap cur,v= .slice (some ⟨g,off,none⟩) bs.length cap∧h=sg g (.cells cur e (0,0))∧bs.length≤cap∧cap≤maxLen∧off+cap≤cur.size∧(cur.toList.drop off).take bs.length=dY bs
theorem pn{v:Value}{bs:List UInt8}{e:Nat}{h:Hl}(x:dK v bs e h):gm v bs e h:=by
 rcases x with⟨_,⟨h1,h2,h3⟩| ⟨g,cap,cur,h1,h2,h3,h4,h5,h6⟩⟩
 · exact .inl ⟨h1,List.eq_nil_of_length_eq_zero h2,h3⟩
 · exact .inr ⟨g,0,cap,cur,h1,h2,h3,h4,by omega,by simpa using h6⟩
section
variable {H:List HP} {F:Hl} {v:Value} {bs:List UInt8} {e:Nat}
theorem yW(i:Nat)(hi:Nat.blt i H.length=true)(hH:H.getD i (λ_=>True)=dK v bs e){h:Hl}(s:bC H h):bC (H.set i (gm v bs e)) h:=
 km i (lb hi) (cA (eO i (lb hi) s) (λ_ x=>pn (by rwa [hH]at x)) λ_ x=>x)
theorem vf{lo hi nn:Nat}{bs':List UInt8}(i:Nat)(hi':Nat.blt i H.length=true)(hH:H.getD i (λ_=>True)=dK v bs e){g cap:Nat}(hv:v= .slice (some ⟨g,0,none⟩) nn cap)(h1:lo≤hi)(h2:hi≤bs.length)(h3:lo<bs.length)(hb:(bs.take hi).drop lo=bs'){h:Hl}(s:bC H h):
 bC (H.set i (gm (jH v lo hi) bs' e)) h:=by
 subst hb;have hl:((bs.take hi).drop lo).length=hi-lo:=by simp;omega
 refine km i (lb hi') (cA (eO i (lb hi') s) (λ_ x=>?_) λ_ x=>x);rw[hH]at x;rcases x with⟨_,⟨h1,h2,_⟩| ⟨g',cap',cur,h4,h5,h6,h7,h8,h9⟩⟩
 · rw[hv]at h1;simp at h1
 · rw[hv]at h4 ⊢
   simp only[Value.slice.injEq,Option.some.injEq,Addr.mk.injEq,and_true,true_and]at h4;obtain⟨rfl,rfl,rfl⟩:=h4;refine .inr ⟨g,lo,cap-lo,cur,?_,h5,by omega,by omega,by omega,?_⟩
   · simp only[jH,hl,if_neg (show ¬cap=lo by omega),Option.map_some,pS,bk]
   · rw[hl]
     rw[fC]at h9;have e1:=congrArg (λl:List Value=>(l.take hi).drop lo) h9;simp only[List.take_take,Nat.min_eq_left h2]at e1;rw[←n4,e1];simp[dY,oZ,kF]
theorem Sat.sub_form{w:World}(i:Nat)(s:Sat H F w)(hi:Nat.blt i H.length=true)(hH:H.getD i (λ_=>True)=gm v bs e):(v= .slice none 0 0∧bs=[])∨∃g off cap cur,v= .slice (some ⟨g,off,none⟩) bs.length cap∧w.heap[g]?=some (.cells cur e (0,0))∧bs.length≤cap∧cap≤maxLen∧off+cap≤cur.size∧(cur.toList.drop off).take bs.length=dY bs:=by
 obtain⟨h,d,e',x⟩:=s;obtain⟨h1,h2,d',rfl,a,_⟩:=eO i (lb hi) x;rw[hH]at a;rcases a with⟨x1,x2,_⟩| ⟨g,off,cap,cur,x1,x2,x3⟩
 · exact .inl ⟨x1,x2⟩
 · refine .inr ⟨g,off,cap,cur,x1,?_,x3⟩
   have:hp w g=some (.cells cur e (0,0)):=by
    rw[e',iV];exact gH (by rw[x2];simp[sg])
   exact this
theorem Sat.sub_len{w:World}(i:Nat)(s:Sat H F w)(hi:Nat.blt i H.length=true)(hH:H.getD i (λ_=>True)=gm v bs e):oM v bs.length∧v.oneCell'=true:=by
 rcases s.sub_form i hi hH with⟨rfl,rfl⟩| ⟨g,off,cap,cur,rfl,_⟩
 · exact⟨⟨_,_,rfl⟩,rfl⟩
 · exact⟨⟨_,_,rfl⟩,rfl⟩
theorem Src.sub(i:Nat)(hi:Nat.blt i H.length=true)(hH:H.getD i (λ_=>True)=gm v bs e){w:World}(s:Sat H F w):Src (Sat H F) v bs.length (dY bs) 1:=by
 refine⟨by simp[dY],?_⟩;rcases s.sub_form i hi hH with⟨rfl,rfl⟩| ⟨g,off,cap,cur,rfl,_⟩
 · exact .inl ⟨rfl,rfl⟩
 · refine .inr ⟨⟨g,off,none⟩,cap,rfl,λw s j u hj=>?_⟩
   rcases s.sub_form i hi hH with⟨h1,_⟩| ⟨g',off',cap',cur',h1,h2,h3,h4,h5,h6⟩
   · simp at h1
   · simp only[Value.slice.injEq,Option.some.injEq,Addr.mk.injEq,and_true,true_and]at h1
     obtain⟨⟨rfl,rfl⟩,rfl⟩:=h1;rw[pS];rw[←h6,List.getElem?_take]at hj;split at hj
     · simp only[World.cell?,h2,Option.isSome_none,Bool.false_eq_true,if_false]
       simpa using hj
     · cases hj
theorem zv(i:Nat){B:List HP}(hi:Nat.blt i B.length=true)(hH:B.getD i (λ_=>True)=gm v bs e): ∀g,Dj g F→bC B g→IsB v bs (jn g F):=λg _ s=>by
 obtain⟨h1,h2,d',rfl,a,_⟩:=eO i (lb hi) s;rw[hH]at a;rcases a with⟨x1,x2,_⟩| ⟨g,off,cap,cur,x1,x2,x3,x4,x5,x6⟩
 · exact .inl ⟨x1,x2⟩
 · refine .inr ⟨g,off,cap,cur.toList,e,(0,0),x1,x3,by simpa [maxLen]using x4,gH (gH (by rw[x2];simp[sg])),λj hj=>?_⟩
   have e1:=congrArg (λl:List Value=>l[j]?) x6;simp only[List.getElem?_take,if_pos hj,List.getElem?_drop]at e1;rw[e1];simp[dY,List.getD_eq_getElem?_getD,hj]
end
theorem sT{P:Program}(w:World)(t ty e:TypeId)(i:TypeInfo)(ht:P.underlying t=some (.slice e))(hi:P.info? e=some i)(g off sLen sCap:Nat)(cur:Array Value)(hg:w.heap[g]?=some (.cells cur e (0,0)))
 (a:Addr) (m c:Nat) (news:List Value) (hl:news.length=m*i.size) (hnews: ∀j u,news[j]?=some u→w.cell? (a.add j)=some u) (h1: ∀u∈news,u.oneCell'=true)
 (hroom:sLen+m≤sCap) (hfit:off+sLen*i.size+news.length≤cur.size):
 (Builtin.append_ #[t,t] ty #[.slice (some ⟨g,off,none⟩) sLen sCap, .slice (some a) m c]).run P w=
  .ok (.slice (some ⟨g,off,none⟩) (sLen+m) sCap) (w.setRow g (cur.toList.take (off+sLen*i.size)++news++cur.toList.drop (off+sLen*i.size+news.length)).toArray):=by
 have hf:=run_firstCells_some (P:=P) w i.size m a m c news hl hnews;have hst:=run_storeCells_at P g (off+sLen*i.size) e news 0 cur w hg (by simpa using hfit) h1;simp only[H8]at hst;simp[Builtin.append_,run_underlying ht,Go.sizeOf,typeInfo,hi,Builtin.lenOf,hroom,hf,Addr.add_lit,hst]
section
variable {P:Program} {w0:World} {F:Hl} {n:Nat} {ops:Array Oper} {Q:QQ} {D:List Deferred} {L:List (Nat×Value)} {H:List HP} {o:Oper} {l:List Oper} {d:Nat} {S:World→Prop}
theorem Sat.sub_open{w:World}{k:Nat}{v:Value}{bs:List UInt8}{e:TypeId}(s:Sat H F w)(hk:Nat.blt k H.length=true)(hH:H.getD k (λ_=>True)=gm v bs e):
 (v= .slice none 0 0∧bs=[]∧Sat (H.set k (dK (.slice none 0 0) [] e)) F w)∨∃g off cap cur,v= .slice (some ⟨g,off,none⟩) bs.length cap∧Sat (H.set k (zi g (.cells cur e (0,0)))) F w∧bs.length≤cap∧cap≤maxLen∧off+cap≤cur.size∧(cur.toList.drop off).take bs.length=dY bs:=by
 obtain⟨h,d,e',x⟩:=s;obtain⟨h1,h2,d',rfl,a,y⟩:=eO k (lb hk) x;rw[hH]at a;rcases a with⟨x1,x2,x3⟩| ⟨g,off,cap,cur,x1,x2,x3⟩
 · exact .inl ⟨x1,x2,_,d,e',km k (lb hk) ⟨h1,h2,d',rfl,⟨rfl, .inl ⟨rfl,rfl,x3⟩⟩,y⟩⟩
 · exact .inr ⟨g,off,cap,cur,x1,⟨_,d,e',km k (lb hk) ⟨h1,h2,d',rfl,x2,y⟩⟩,x3⟩
theorem Src.of_eq{S':World→Prop}{x:Value}{m size:Nat}{news:List Value}(h:Src S x m news size)(hS: ∀w,S' w→S w):Src S' x m news size:=⟨h.1,h.2.imp id λ⟨a,c,q3,q4⟩=>⟨a,c,q3,λw' s'=>q4 w' (hS w' s')⟩⟩
theorem AJ{k:Nat}{q:HP}(hk:Nat.blt k H.length=true)(hH:H.getD k (λ_=>True)=q):H.set k q=H:=by
 rw[←hH,List.getD_eq_getElem?_getD,List.getElem?_eq_getElem (lb hk)];exact List.set_getElem_self _
theorem AR{w:World}{k:Nat}{v x:Value}{bs news:List UInt8}{t ty e:TypeId}(s:Sat H F w)(ht:P.underlying t=some (.slice e))(hi:(P.info? e).map (λi=>(i.zero,i.size,i.bytes))=some (some (.int .u8 0),1,1))
 (hk:Nat.blt k H.length=true) (hH:H.getD k (λ_=>True)=gm v bs e) (hx:Src (Sat H F) x news.length (dY news) 1) (hb:bs.length+news.length≤140737488355328):
 ∃v' w',(Builtin.append_ #[t,t] ty #[v,x]).run P w= .ok v' w'∧Same w w'∧Sat (H.set k (gm v' (bs++news) e)) F w':=by
 rcases s.sub_open hk hH with⟨rfl,rfl,s1⟩| ⟨g,off,cap,cur,rfl,s1,h3,h4,h5,h6⟩
 · have hx':Src (Sat (H.set k (dK (.slice none 0 0) [] e)) F) x news.length (dY news) 1:=hx.of_eq λw' s'=>by
    have:=s'.turn (q:=gm (.slice none 0 0) [] e) k (by simpa using lb hk) λh hh=>by
     rw[ia (lb hk)]at hh;exact pn hh
    rwa [gT,AJ hk hH]at this
   obtain⟨v',w',r1,r2,r3⟩:=tA (k:=k) (nn:=0) (m:=news.length) (v:= .slice none 0 0) (xs:=dY []) (news:=dY news) (ty:=ty) s1 ht hi rfl (by decide) (by simpa using lb hk) (ia (lb hk) _) hx' (eN _) (by simp only[maxLen];simp at hb;omega) (by simp at hb;omega);refine⟨v',w',r1,r2,?_⟩;rw[gT]at r3
   have:=r3.turn (q:=gm v' ([]++news) e) k (by simpa using lb hk) λh hh=>by
    rw[ia (lb hk)]at hh;refine pn ?_;rw[←iL,bk,cb]at hh;exact hh
   rwa [gT]at this
 · obtain⟨i,hie,hz0,hsz,hby⟩:=info_parts hi
   obtain⟨hxl,hxx⟩:=hx;have hg:w.heap[g]?=some (.cells cur e (0,0)):=s1.block k (by simpa using lb hk) (ia (lb hk) _)
   by_cases hroom:bs.length+news.length≤cap
   · rcases hxx with⟨rfl,hm⟩| ⟨a0,c,rfl,hc⟩
     · have hn:news=[]:=List.eq_nil_of_length_eq_zero hm
       subst hn;refine⟨_,w,?_,rc w,by rw[bb,AJ hk hH];exact s⟩;simp[Builtin.append_,run_underlying ht,Go.sizeOf,typeInfo,hie,Builtin.lenOf,Builtin.firstCells,loadCells,loadCellsFrom,storeCells,h3]
     · have hfit:off+bs.length*i.size+(dY news).length≤cur.size:=by rw[hsz,fC,aX];omega
       refine⟨_,_,sT (P:=P) w t ty e i ht hie g off bs.length cap cur hg a0 news.length c (dY news) (by rw[hsz,aX,fC]) (λj v hj=>hc w s j v hj) (eN _) hroom hfit,⟨rfl,rfl,rfl,by simp⟩,?_⟩;have h2:=s1.write k (by simpa using lb hk) (ia (lb hk) _) (setRow_heap w g cur (cur.toList.take (off+bs.length*i.size)++dY news++cur.toList.drop (off+bs.length*i.size+(dY news).length)).toArray e _ hg) (λj hj=>setRow_other w g j _ hj);rw[gT]at h2
       have h7:=h2.turn (q:=gm (.slice (some ⟨g,off,none⟩) (bs.length+news.length) cap) (bs++news) e) k (by simpa using lb hk) (λh hh=>by
        rw[ia (lb hk)]at hh;rw[hsz,fC,aX]at hh;refine .inr ⟨g,off,cap,_,by rw[aj],hh,by rw[aj];exact hroom,h4,?_,?_⟩
        · simp only[List.size_toArray,aj,bG,dS,Array.length_toList,aX]
          rw[hsz,fC,aX]at hfit;omega
        · simp only[be]
          rw[j9 (by simp only[bG,Array.length_toList];rw[hsz,fC,aX]at hfit;omega),n4,ci,h6,←be,←iL]
          rw[ck (by rw[aX];exact aK _),aB (by rw[aX];exact aK _)])
       rwa [gT]at h7
   · rcases hxx with⟨rfl,hm⟩| ⟨a0,c,rfl,hc⟩
     · omega
     · have holds: ∀j u,(dY bs)[j]?=some u→w.cell? ((⟨g,off,none⟩:Addr).add j)=some u:=λj u hj=>by
        rw[pS];rw[←h6,List.getElem?_take]at hj;split at hj
        · simpa [World.cell?,hg]using hj
        · cases hj
       have hr:=run_append_grow (P:=P) w t ty e i _ ht hie hz0 ⟨g,off,none⟩ bs.length cap (dY bs) (by rw[hsz,aX,fC]) holds a0 news.length c (dY news) (by rw[hsz,aX,fC]) (λj v hj=>hc w s j v hj) (by omega) (by omega) (growslice_fits (by omega) (by rw[hby];omega));refine⟨_,_,hr,⟨rfl,rfl,rfl,by simp⟩,Sat.swap k (lb hk) (s.drew.alloc _) λh hh=>?_⟩;have hge:=grownCap_ge w (bs.length+news.length) cap e;refine .inr ⟨w.heap.size,0,_,_,by rw[aj],hh,by rw[aj];exact hge,grownCap_le_maxLen w (bs.length+news.length) cap e (by simp only[maxLen];omega),?_,?_⟩
       · simp only[Array.size_append,List.size_toArray,size_zeroCells,aX,bk]
         have:(Value.cells (.int .u8 0)).size=1:=rfl;rw[this,fC];omega
       · simp only[Array.toList_append,be,a8]
         rw[←be,←iL,←aX (bs++news)];exact sB
theorem TL.appendS{s x:Operand}{k:Nat}{v vx:Value}{bs news bs':List UInt8}{t e:TypeId}(hw:Want n D ops o L)
 (ho:o.op= .call {callee:= .builtin .append,args:=#[s,x],argTypes:=#[t,t]}) (hd:o.dst=some d) (hn:Nat.blt d n=true) (ht:P.underlying t=some (.slice e))
 (hi:(P.info? e).map (λi=>(i.zero,i.size,i.bytes))=some (some (.int .u8 0),1,1)) (hs:cy L s=some v) (hx:cy L x=some vx)
 (hk:Nat.blt k H.length=true) (hH:H.getD k (λ_=>True)=gm v bs e) (hsrc: ∀w,Sat H F w→Src (Sat H F) vx news.length (dY news) 1) (hb:bs.length+news.length≤140737488355328)
 (hxs:bs++news=bs') (h: ∀v',v'.oneCell'=true→TL P w0 F n ops Q l D ((d,v')::L) (H.set k (gm v' bs' e))):TL P w0 F n ops Q (o::l) D L H:=
 lQ hw λa w f sm q=>by
  obtain⟨v',w',hr,s',q'⟩:=AR (ty:=o.type) q ht hi hk hH (hsrc w q) hb;unfold Oper.wp execOp;simp only[ho,resolve,invoke,builtin,Sem.run_bind,Sem.run_pure,Result.andThen_ok,Ji,fo,q7,f.eval hs,f.eval hx,hr];rw[Oper.upon_value,hd];subst hxs;have one:v'.oneCell'=true:=(q'.sub_len k (by simpa using hk) (ia (lb hk) _)).2;exact h v' one _ w' (f.put (lb hn) v') (sm.trans s') q'
theorem TL.subLen{v:Value}{bs:List UInt8}{e:Nat}(k:Nat)(hk:Nat.blt k H.length=true)(hH:H.getD k (λ_=>True)=gm v bs e)
 (h:oM v bs.length→v.oneCell'=true→TL P w0 F n ops Q l D L H):TL P w0 F n ops Q l D L H:=xw (λw m=>m.sub_len k hk hH) λ⟨h1,h2⟩=>h h1 h2
end
theorem sd{v:Value}{z:Array Value}(h:v.oneCell'=true)(hz:z.size=1):Instr.fill (λi=>some (i*1,1)) z [(0,v)]=some #[v]:=by
 rw[Instr.fill,yw h];simp only[gj,List.size_toArray,ax,aC,bk,hz,ne_eq,not_true_eq_false,decide_false,Bool.false_or];rw[if_neg (by simp)]
 have:(#[v].zipIdx.foldl (λcs (c,j)=>cs.setIfInBounds (0+j) c) z)=#[v]:=by
  match z,hz with
  | ⟨[x]⟩,_=>rfl
 simp only[bk]at this;simp only[Instr.fill];rw[this]
theorem Bi{x:Value}{bs:List UInt8}{F:Hl}(hx:IsW x bs F)(i:Nat){g T:Nat}{B:List HP}(hi:Nat.blt i B.length=true)(e:B.getD i (λ_=>True)=ag g [x] T): ∀h,Dj h F→bC B h→MU (.slice (some ⟨g,0,none⟩) 1 1) [bs] (jn h F):=λh d s=>
 .inr (.inr ⟨g,0,1,[x],T,(0,0),rfl,aK _,by decide,rJ i hi e h d s,λj hj=>by
  obtain rfl:j=0:=by simpa using hj
  exact⟨[x],rfl,rfl,x,rfl,hx.more d⟩⟩)
theorem Bh(i n:Nat){g T:Nat}{bs:List UInt8}{B:List HP}{F:Hl}(hn:bs.length=n)(hl:n≤9223372036854775807)(hi:Nat.blt i B.length=true)(e:B.getD i (λ_=>True)=ag g (dY bs) T): ∀h,Dj h F→bC B h→IsB (.slice (some ⟨g,0,none⟩) n n) bs (jn h F):=by
 subst hn;exact IQ i hl hi e
def en(us:List Value)(ls:List (List UInt8))(e:Nat):HP:=λh=>us.length=ls.length∧bC (List.zipWith (λu l=>gm u l e) us ls) h
abbrev lY(te e:Nat)(v:Value)(ls:List (List UInt8)):HP:=pack λus:List Value=>[own v ls.length us te 1,en us ls e]
theorem uH{α β γ:Type}(f:α→β→γ): ∀(us:List α) (ls:List β) (u:α) (l:β),us.length=ls.length→List.zipWith f (us++[u]) (ls++[l])=List.zipWith f us ls++[f u l]
 | [],[],_,_,_=>rfl
 | [],_::_,_,_,h=>by simp at h
 |_::_,[],_,_,h=>by simp at h
 |x::us,y::ls,u,l,h=>by simp[uH f us ls u l (by simpa using h)]
theorem ti{us:List Value}{ls:List (List UInt8)}{e:Nat}{u:Value}{l:List UInt8}{H:List HP}{h:Hl}(s:bC (en us ls e::gm u l e::H) h):bC (en (us++[u]) (ls++[l]) e::H) h:=by
 have t:=mB.2 s;refine cA t (λh' x=>?_) λ_ x=>x
 obtain⟨h1,h2,d,rfl,⟨hl,a⟩,b⟩:=x;refine⟨by simp[hl],?_⟩;rw[uH _ _ _ _ _ hl];exact(bX _ _).2 ⟨h1,h2,d,rfl,a,qD b⟩
theorem yy{e:Nat}{H:List HP}{h:Hl}(s:bC H h):bC (en [] [] e::H) h:=⟨em,h,B3 h,(ql h).symm,⟨rfl,trivial⟩,s⟩
theorem wD: ∀(us:List Value) (ls:List (List UInt8)) (e:Nat) (h:Hl),us.length=ls.length→bC (List.zipWith (λu l=>gm u l e) us ls) h→∀(j:Nat) (hj:j<ls.length),∃u,us[j]?=some u∧∃h1 h2,Dj h1 h2∧h=jn h1 h2∧gm u ls[j] e h1
 | [],[],_,_,_,_,j,hj=>by simp at hj
 | [],_::_,_,_,h,_,_,_=>by simp at h
 |_::_,[],_,_,h,_,_,_=>by simp at h
 |u::us,l::ls,e,h,hl,s,0,_=>by
  obtain⟨h1,h2,d,rfl,a,_⟩:=s;exact⟨u,rfl,h1,h2,d,rfl,a⟩
 |u::us,l::ls,e,h,hl,s,j+1,hj=>by
  obtain⟨h1,h2,d,rfl,_,b⟩:=s;obtain⟨u',e1,g1,g2,d',rfl,a⟩:=wD us ls e h2 (by simpa using hl) b j (by simpa using hj);refine⟨u',by simpa using e1,g1,jn h1 g2,?_,?_,a⟩
  · obtain⟨q1,q2⟩:=nf.1 d
    exact nf.2 ⟨q1.symm,d'⟩
  · rw[m7 d,iV,m7 (nf.1 d).2]
theorem Au{v:Value}{bs:List UInt8}{e:Nat}{h1 G:Hl}(a:gm v bs e h1)(hG:Le h1 G):IsB v bs G:=by
 rcases a with⟨x1,x2,_⟩| ⟨g,off,cap,cur,x1,x2,x3,x4,x5,x6⟩
 · exact .inl ⟨x1,x2⟩
 · refine .inr ⟨g,off,cap,cur.toList,e,(0,0),x1,x3,by simpa [maxLen]using x4,hG _ _ (by rw[x2];simp[sg]),λj hj=>?_⟩
   have e1:=congrArg (λl:List Value=>l[j]?) x6;simp only[List.getElem?_take,if_pos hj,List.getElem?_drop]at e1;rw[e1];simp[dY,List.getD_eq_getElem?_getD,hj]
theorem tu(te e:Nat){H:List HP}{h:Hl}(s:bC H h):bC (lY te e (.slice none 0 0) []::H) h:=bi (p:=λus:List Value=>[own (.slice none 0 0) 0 us te 1,en us [] e]) [] (gy te 1 (yy s))
theorem tw{te e:Nat}{v' u:Value}{us:List Value}{ls:List (List UInt8)}{l:List UInt8}{H:List HP}{h:Hl}(s:bC (own v' (ls.length+1) (us++[u]) te 1::en us ls e::gm u l e::H) h):bC (lY te e v' (ls++[l])::H) h:=
 bi (p:=λus:List Value=>[own v' (ls++[l]).length us te 1,en us (ls++[l]) e]) (us++[u]) (cA s (λ_ x=>by simpa using x) λ_ x=>ti x)
section
variable {P:Program} {w0:World} {F:Hl} {n:Nat} {ops:Array Oper} {Q:QQ} {D:List Deferred} {L:List (Nat×Value)} {H:List HP} {l:List Oper}
theorem TL.recsOpen{te e:Nat}{v:Value}{ls:List (List UInt8)}(h: ∀us,TL P w0 F n ops Q l D L (own v ls.length us te 1::en us ls e::H)):TL P w0 F n ops Q l D L (lY te e v ls::H):=
 JV (λ_ s=>fk s) h
abbrev JU:= @TL.recsOpen
theorem tv{te e:Nat}{v:Value}{ls:List (List UInt8)}{h:Hl}(s:lY te e v ls h):oM v ls.length∧v.oneCell'=true:=by
 obtain⟨us,g1,g2,d2,rfl,a1,_⟩:=s;rcases a1 with⟨q0,⟨q1,q2,_⟩| ⟨g,cap,cur,q1,_⟩⟩
 · subst q1
   have:ls=[]:=List.eq_nil_of_length_eq_zero q2;subst this;exact⟨⟨_,_,rfl⟩,rfl⟩
 · subst q1;exact⟨⟨_,_,rfl⟩,rfl⟩
theorem TL.recsLen{te e:Nat}{v:Value}{ls:List (List UInt8)}(k:Nat)(hk:Nat.blt k H.length=true)(hH:H.getD k (λ_=>True)=lY te e v ls)(h:oM v ls.length→v.oneCell'=true→TL P w0 F n ops Q l D L H):TL P w0 F n ops Q l D L H:=
 xw (p:=oM v ls.length∧v.oneCell'=true) (λw ⟨h,d,e',x⟩=>by
  obtain⟨h1,h2,d',rfl,a,_⟩:=eO k (lb hk) x;rw[hH]at a
  exact tv a) λ⟨h1,h2⟩=>h h1 h2
end
end Leg
namespace Leg
open Go Codec Api
section
variable {P:Program} {w0:World} {F:Hl} {n:Nat} {L:List (Nat×Value)} {H:List HP}
theorem TE.ret3{fn:Func}{post:Ending→List HP→Prop}{t t' t'':Nat}{v v' v'':Value}(hr:fn.results=#[.tmp t, .tmp t', .tmp t''])(e:lk L t=some v)(e':lk L t'=some v')(e'':lk L t''=some v'')(h:post (.returned (.tuple #[v,v',v''])) H):
 TE w0 F n (bodyPost P fn (jw post w0 F)) .ret [] L H:=λa w f s m=>by
 refine bodyPost_ret (results_tmp3 hr _ _ _) f.2.1 ⟨s,H,m,?_⟩;have h1:=f.eval (x:= .tmp t) e;have h2:=f.eval (x:= .tmp t') e';have h3:=f.eval (x:= .tmp t'') e'';rw[show a.tmps.getD t undef=v from h1,show a.tmps.getD t' undef=v' from h2,show a.tmps.getD t'' undef=v'' from h3];exact h
abbrev mS:= @TE.ret3
end
theorem qt{l:List UInt8}{j:Nat}(h:j<l.length):(dY l)[j]?=some (.int .u8 (((l.getD j 0).toNat:Nat):Int)):=by simp[dY,List.getD_eq_getElem?_getD,h]
theorem I3{a:Addr}{m c k:Nat}(hc:0<c):jH (.slice (some a) m c) 0 k= .slice (some a) k c:=by
 simp only[jH,if_neg (show ¬c=0 by omega),Option.map_some,Of];rfl
end Leg
namespace Leg
open Go Codec Api
section
variable {P:Program} {w0:World} {F:Hl} {n:Nat} {ops:Array Oper} {Q:QQ} {D:List Deferred} {L:List (Nat×Value)} {H:List HP} {o:Oper} {l:List Oper} {d:Nat} {S:World→Prop}
end
end Leg
end

section
namespace Go.Proofs.YtjblgopghhgflaaGreat
open Go Leg Codec Api
theorem sO:(Tryz.prog.info? 61).map (·.size)=some 870:=by kernel_rfl
theorem nF:(Tryz.prog.info? 116).map (·.size)=some 875:=by kernel_rfl
theorem u6:(Tryz.prog.info? 121).map (·.size)=some 870:=by kernel_rfl
theorem Lg:(Tryz.prog.info? 123).map (·.size)=some 2818:=by kernel_rfl
theorem Jw:NM 168:=nk Tryz.func168
theorem L0:NM 179:=nk Tryz.func179
theorem jP(w:Int):
 DT 157 #[(.int .i64 (w))] T0 [] (RI (.bool (cF w)) []):=by
 refine BD 9 Tryz.func157 rfl rfl rfl λw0 F hF=>sr λ_ J1=>PS ?_
 refine nx J1 (sr λ_ J2=>P2 ?_);refine an ?_ ?_<;>intro h4
 iterate 5 refine PS ?_
 refine nx J2 (ai (au rfl rfl ?_));exact⟨congrArg Value.bool (by unfold cF;first| (rw[decide_eq_decide];omega)| (symm;rw[decide_eq_false_iff_not];omega)| (symm;rw[decide_eq_true_iff];omega)),rfl⟩;refine PS ?_;refine UF ?_;refine UF ?_;refine P2 ?_;refine nx J2 (ai (au rfl rfl ?_));exact⟨congrArg Value.bool (by unfold cF;first| (rw[decide_eq_decide];omega)| (symm;rw[decide_eq_false_iff_not];omega)| (symm;rw[decide_eq_true_iff];omega)),rfl⟩
theorem kT(w:Int):
 DT 79 #[(.int .i64 (w))] T0 [] (RI (.bool (cF w)) []):=by
 refine BD 9 Tryz.func79 rfl rfl rfl λw0 F hF=>sr λ_ J1=>PS ?_
 refine nx J1 (sr λ_ J2=>P2 ?_);refine an ?_ ?_<;>intro h4
 iterate 5 refine PS ?_
 refine nx J2 (ai (au rfl rfl ?_));exact⟨congrArg Value.bool (by unfold cF;first| (rw[decide_eq_decide];omega)| (symm;rw[decide_eq_false_iff_not];omega)| (symm;rw[decide_eq_true_iff];omega)),rfl⟩;refine PS ?_;refine UF ?_;refine UF ?_;refine P2 ?_;refine nx J2 (ai (au rfl rfl ?_));exact⟨congrArg Value.bool (by unfold cF;first| (rw[decide_eq_decide];omega)| (symm;rw[decide_eq_false_iff_not];omega)| (symm;rw[decide_eq_true_iff];omega)),rfl⟩
theorem gX(w:Int):
 DT 117 #[(.int .i64 (w))] T0 [] (RI (.bool (cF w)) []):=by
 refine BD 9 Tryz.func117 rfl rfl rfl λw0 F hF=>sr λ_ J1=>PS ?_
 refine nx J1 (sr λ_ J2=>P2 ?_);refine an ?_ ?_<;>intro h4
 iterate 5 refine PS ?_
 refine nx J2 (ai (au rfl rfl ?_));exact⟨congrArg Value.bool (by unfold cF;first| (rw[decide_eq_decide];omega)| (symm;rw[decide_eq_false_iff_not];omega)| (symm;rw[decide_eq_true_iff];omega)),rfl⟩;refine PS ?_;refine UF ?_;refine UF ?_;refine P2 ?_;refine nx J2 (ai (au rfl rfl ?_));exact⟨congrArg Value.bool (by unfold cF;first| (rw[decide_eq_decide];omega)| (symm;rw[decide_eq_false_iff_not];omega)| (symm;rw[decide_eq_true_iff];omega)),rfl⟩
theorem qX(key n:Int):
 DT 161 #[(.int .i64 (key)),(.int .i64 (n))] T0 [] (RI (.bool (wL key n)) []):=by
 refine BD 19 Tryz.func161 rfl rfl rfl λw0 F hF=>sr λ_ J1=>PS ?_
 refine nx J1 (sr λ_ J2=>P2 ?_);refine an ?_ ?_<;>intro h6;refine P3 ?_;refine an ?_ ?_<;>intro h9;refine P4 ?_;refine an ?_ ?_<;>intro h13;refine P3 ?_;refine CE Ef (kY n) ID ?_;refine P2 ?_;refine nx J2 (ai (WK [] (au rfl rfl ?_)));exact⟨congrArg Value.bool (by simp[wL,mL, *]),rfl⟩;refine P2 ?_;refine UF ?_;refine UF ?_;refine P2 ?_;refine nx J2 (ai (WK [] (au rfl rfl ?_)));exact⟨congrArg Value.bool (by simp[wL,mL, *]),rfl⟩;refine P2 ?_;refine UF ?_;refine UF ?_;refine P2 ?_;refine UF ?_;refine UF ?_;refine P2 ?_;refine nx J2 (ai (WK [] (au rfl rfl ?_)));exact⟨congrArg Value.bool (by simp[wL,mL, *]),rfl⟩;refine PS ?_;refine UF ?_;refine UF ?_;refine P2 ?_;refine UF ?_;refine UF ?_;refine P2 ?_;refine UF ?_;refine UF ?_;refine P2 ?_;refine nx J2 (ai (WK [] (au rfl rfl ?_)));exact⟨congrArg Value.bool (by simp[wL,mL, *]),rfl⟩
theorem FX(b off T:Nat)(cs:List Value)(n:Int)(h:cs[off]?=some (.int .i64 n)):
 DT 163 #[(.pointer (some ⟨b,off,none⟩))] T0 [ag b (cs) T] (RI (.tuple #[.int .i64 n, .pointer (some ⟨b,off,none⟩)]) [ag b cs T]):=by
 refine BD 11 Tryz.func163 rfl rfl rfl λw0 F hF=>sr λ_ J1=>P2 ?_
 refine nx J1 (ab λ_ J2=>D1 0 bh ?_);refine PD 0 ?_;refine PD 1 ?_;refine ta 2 rfl (aV (r:=off) rfl mp rfl aP rfl rfl) ?_;refine LX 3 Y3 (.int .i64 (n)) ?_ (hc:=by exact h);refine PD 4 ?_;refine PD 5 ?_;refine ta 6 rfl (aV (r:=off) rfl mp rfl aP rfl rfl) ?_;refine PD 7 ?_;refine PD 8 ?_;exact DN (ac J2 (ai (WK [0] (iq rfl rfl rfl ⟨rfl,rfl⟩))))
theorem F9(b off T:Nat)(cs:List Value)(n:Int)(h:cs[off+1]?=some (.int .i64 n)):
 DT 164 #[(.pointer (some ⟨b,off,none⟩))] T0 [ag b (cs) T] (RI (.tuple #[.int .i64 n, .pointer (some ⟨b,off+1,none⟩)]) [ag b cs T]):=by
 refine BD 11 Tryz.func164 rfl rfl rfl λw0 F hF=>sr λ_ J1=>P2 ?_
 refine nx J1 (ab λ_ J2=>D1 0 bh ?_);refine PD 0 ?_;refine PD 1 ?_;refine ta 2 rfl (aV (r:=off+1) rfl mp rfl aP rfl rfl) ?_;refine LX 3 Y3 (.int .i64 (n)) ?_ (hc:=by exact h);refine PD 4 ?_;refine PD 5 ?_;refine ta 6 rfl (aV (r:=off+1) rfl mp rfl aP rfl rfl) ?_;refine PD 7 ?_;refine PD 8 ?_;exact DN (ac J2 (ai (WK [0] (iq rfl rfl rfl ⟨rfl,rfl⟩))))
theorem Dc(b off T tb:Nat)(cs:List Value)(g:Vector Int 5)(to':Int)(ht:0≤to'∧to'<5)(h:(cs.drop (off+2)).take 5=ints g.toList):
 DT 165 #[(.pointer (some ⟨b,off,none⟩)),(.pointer (some ⟨tb,0,none⟩))] T0 [ag b (cs) T,ag tb [(.int .i64 (to'))] 3] (RI (.tuple #[.int .i64 (g.toList.foldl (λs g=>fM (s+g)) 0), .pointer (some ⟨b,off+2+to'.toNat,none⟩)]) [ag b cs T,ag tb [.int .i64 to'] 3]):=by
 refine BD 25 Tryz.func165 rfl rfl rfl λw0 F hF=>sr λ_ J1=>P2 ?_
 refine nx J1 (sr λ_ J2=>PS ?_);refine nx J2 (ab λ_ J3=>sr λ_ J4=>P2 ?_);refine tp (aV (r:=off+2) rfl mp rfl eQ rfl rfl) ?_;refine tp (aM (vs:=ints g.toList) rfl jz rfl eQ rfl (RO 0) (dP g) h) ?_;refine PS ?_;refine nx J4 (aq ?_)
 refine bn (α:=(Nat)×(Int)) (λ⟨k,s⟩=>k≤5∧s=(g.toList.take k).foldl (λs g=>fM (s+g)) 0) (λ⟨k,s⟩=>[(0,(.pointer (some ⟨b,off,none⟩))),(1,(.pointer (some ⟨tb,0,none⟩))),(3,(.int .i64 0)),(4,(.pointer none)),(5,(.int .i64 (s))),(11,(.agg (ints g.toList).toArray)),(12,(.int .i64 (((k:Nat):Int))))]) (λ⟨k,s⟩=>[ag b (cs) T,ag tb [(.int .i64 (to'))] 3]) (λ⟨k,s⟩=>5-k) (0,0)
  ⟨aN _,rfl⟩ SB
  (λ_ s=>s) (λ⟨k,s⟩ hinv=>?_)
 obtain⟨hk,hs⟩:=hinv;refine sr λ_ J5=>PS ?_
 refine an ?_ ?_<;>intro h13;refine nx J5 (ab λ_ J6=>CY (qx J6 (ab λ_ J7=>aq (sr λ_ J8=>tp (kE (cs:=ints g.toList) (v:=Value.int .i64 (g[k]'(by omega))) (r:=k) rfl jz Y3 rfl aP rfl rfl (by omega) (by omega) (by omega) (j0 g (by omega))) ?_))));refine PS ?_;refine nx J8 (ad (P2 ?_));refine tp (cg (r:=(fM (s+(g[k]'(by omega))))) rfl rfl rfl rfl) ?_;refine PS ?_;refine ap (af (ac J7 (ad (AD ?_))));refine PS ?_;refine ap ?_
 exact aI ((k+1,(fM (s+(g[k]'(by omega))))):(Nat)×(Int)) ⟨by omega,by rw[co (by simp;omega),eM,←hs];simp⟩ (by show 5- (k+1)<5-k;omega)
  SB
  (λ_ s=>s)
 refine nx J5 (ab λ_ J9=>CN (aS (ay (ay (bj (ac J3 (ab λ_ J10=>D1 1 bh ?_)))))));refine PD 0 ?_;refine PD 1 ?_;refine LX 2 Y3 (.int .i64 (to')) ?_ (hc:=by exact rfl);refine PD 3 ?_;refine ta 4 rfl (aV (r:=off+2) rfl mp rfl eQ rfl rfl) ?_;refine IY 5 (off+2+(to').toNat) jz aP ?_;refine PD 6 ?_;refine PD 7 ?_;refine DN (ac J10 (ai (WK [0,0] (iq rfl rfl rfl ?_))));exact⟨by rw[hs,aB (by simp;omega)],rfl⟩
theorem zo(x:RowT)(key n:Int)(hk:0≤key∧key<4)(hn:1≤n∧n≤1099511627776):
 DT 162 #[(.agg (ints x.flat).toArray),(.int .i64 (key)),(.int .i64 (n)),(.func (.func 163) #[] #[])] T0 [] (RI (.tuple #[.agg (ints (lq x key n (dC x key).inn {dC x key with inn:=fM ((dC x key).inn+n)}).1.flat).toArray, .int .i64 (lq x key n (dC x key).inn {dC x key with inn:=fM ((dC x key).inn+n)}).2]) []):=by
 refine BD 36 Tryz.func162 rfl rfl rfl λw0 F hF=>?_
 have hkb:mL key=true:=decide_eq_true hk;have hcell:dC x key=x.cells[key.toNat]'(by omega):=by rw[dC,dif_pos hkb]
 refine sr λ_ J1=>XY (ints x.flat) λb4=>?_
 refine XZ tk (ints RowT.zero.flat) λb8=>?_
 refine PS ?_;refine nx J1 (sr λ_ J2=>P2 ?_);refine FA 1 dN ld ?_;refine IX (1+key.toNat*7) zW fp ?_;refine TL.callRv (aa rfl) rfl rfl rfl rfl Mc rfl (FX b4 (1+key.toNat*7) 60 (ints x.flat) x.cells[key.toNat].inn (uo x (key.toNat*7) (by omega) (by omega) (nA br x.cells (i:=key.toNat) 0 (by omega) (by omega) (by decide) (q9 _ rfl)))) (λ_ s=>az [1] rfl s) (λ_ _ _=>trivial) (λvR HR hR=>?_);obtain⟨rfl,rfl⟩:=hR;refine P4 ?_;refine PS ?_;refine nx J2 (ab λ_ J3=>sr λ_ J4=>P2 ?_);refine tp (iH (r:=(1099511627776-n)) rfl rfl rfl (bH (by omega) (by omega))) ?_;refine PS ?_;refine an ?_ ?_<;>intro h23;refine nx J4 (CY (sr λ_ J5=>BV ((ints RowT.zero.flat).toArray) ?_));refine SW 1 aZ ah ?_;refine PS ?_;refine nx J5 (ai (ae (RT 1 [] dN aZ (ah _) ?_)));exact⟨by rw[lq,hcell,if_pos h23],rfl⟩;refine nx J4 (CN (qx J3 (sr λ_ J6=>P2 ?_)));refine LT 0 Y3 (.int .i64 ((x.cells[key.toNat]'(by omega)).inn)) ?_ (hc:=by exact uo x (key.toNat*7) (by omega) (by omega) (nA br x.cells (i:=key.toNat) 0 (by omega) (by omega) (by decide) (q9 (x.cells[key.toNat]'(by omega)) rfl)));refine PS ?_;refine tp (cg (r:=(fM (((x.cells[key.toNat]'(by omega)).inn)+n))) rfl rfl rfl rfl) ?_;refine PS ?_
 refine bv (i:=0) (aa rfl) rfl rfl rfl rfl rfl aP rfl rfl (LB (ah _)) (NS x (key.toNat*7) (by omega) (by omega) (Gv br x.cells (i:=key.toNat) 0 (by omega) (by omega) (by decide) (CellT.set_inn _ rfl _))) rfl (nx J6 (sr λ_ J7=>FA 0 dN aP ?_));refine LT 0 Y3 (.int .i64 (x.version)) ?_ (hc:=by exact cB _ rfl);refine tp (cg (r:=(fM (x.version+1))) rfl rfl rfl rfl) ?_;refine FA 0 dN aP ?_;refine bv (i:=0) (aa rfl) rfl rfl rfl rfl rfl aP rfl rfl (LB (ah _)) (wQ _ rfl _) rfl (nx J7 (sr λ_ J8=>LW 0 dN aZ ah ?_));refine SW 1 aZ ah ?_;refine PS ?_;refine nx J8 (ai (RT 1 [] dN aZ (ah _) ?_));refine⟨?_,rfl⟩;rw[lq,hcell,if_neg h23,kX,dif_pos hkb]
theorem zp(x:RowT)(key n:Int)(hk:0≤key∧key<4)(hn:1≤n∧n≤1099511627776):
 DT 162 #[(.agg (ints x.flat).toArray),(.int .i64 (key)),(.int .i64 (n)),(.func (.func 164) #[] #[])] T0 [] (RI (.tuple #[.agg (ints (lq x key n (dC x key).out {dC x key with out:=fM ((dC x key).out+n)}).1.flat).toArray, .int .i64 (lq x key n (dC x key).out {dC x key with out:=fM ((dC x key).out+n)}).2]) []):=by
 refine BD 36 Tryz.func162 rfl rfl rfl λw0 F hF=>?_
 have hkb:mL key=true:=decide_eq_true hk;have hcell:dC x key=x.cells[key.toNat]'(by omega):=by rw[dC,dif_pos hkb]
 refine sr λ_ J1=>XY (ints x.flat) λb4=>?_
 refine XZ tk (ints RowT.zero.flat) λb8=>?_
 refine PS ?_;refine nx J1 (sr λ_ J2=>P2 ?_);refine FA 1 dN ld ?_;refine IX (1+key.toNat*7) zW fp ?_;refine TL.callRv (aa rfl) rfl rfl rfl rfl Mb rfl (F9 b4 (1+key.toNat*7) 60 (ints x.flat) x.cells[key.toNat].out (uo x (key.toNat*7+1) (by omega) (by omega) (nA br x.cells (i:=key.toNat) 1 (by omega) (by omega) (by decide) (q8 _ rfl)))) (λ_ s=>az [1] rfl s) (λ_ _ _=>trivial) (λvR HR hR=>?_);obtain⟨rfl,rfl⟩:=hR;refine P4 ?_;refine PS ?_;refine nx J2 (ab λ_ J3=>sr λ_ J4=>P2 ?_);refine tp (iH (r:=(1099511627776-n)) rfl rfl rfl (bH (by omega) (by omega))) ?_;refine PS ?_;refine an ?_ ?_<;>intro h23;refine nx J4 (CY (sr λ_ J5=>BV ((ints RowT.zero.flat).toArray) ?_));refine SW 1 aZ ah ?_;refine PS ?_;refine nx J5 (ai (ae (RT 1 [] dN aZ (ah _) ?_)));exact⟨by rw[lq,hcell,if_pos h23],rfl⟩;refine nx J4 (CN (qx J3 (sr λ_ J6=>P2 ?_)));refine LT 0 Y3 (.int .i64 ((x.cells[key.toNat]'(by omega)).out)) ?_ (hc:=by exact uo x (key.toNat*7+1) (by omega) (by omega) (nA br x.cells (i:=key.toNat) 1 (by omega) (by omega) (by decide) (q8 (x.cells[key.toNat]'(by omega)) rfl)));refine PS ?_;refine tp (cg (r:=(fM (((x.cells[key.toNat]'(by omega)).out)+n))) rfl rfl rfl rfl) ?_;refine PS ?_
 refine bv (i:=0) (aa rfl) rfl rfl rfl rfl rfl aP rfl rfl (LB (ah _)) (NS x (key.toNat*7+1) (by omega) (by omega) (Gv br x.cells (i:=key.toNat) 1 (by omega) (by omega) (by decide) (CellT.set_out _ rfl _))) rfl (nx J6 (sr λ_ J7=>FA 0 dN aP ?_));refine LT 0 Y3 (.int .i64 (x.version)) ?_ (hc:=by exact cB _ rfl);refine tp (cg (r:=(fM (x.version+1))) rfl rfl rfl rfl) ?_;refine FA 0 dN aP ?_;refine bv (i:=0) (aa rfl) rfl rfl rfl rfl rfl aP rfl rfl (LB (ah _)) (wQ _ rfl _) rfl (nx J7 (sr λ_ J8=>LW 0 dN aZ ah ?_));refine SW 1 aZ ah ?_;refine PS ?_;refine nx J8 (ai (RT 1 [] dN aZ (ah _) ?_));refine⟨?_,rfl⟩;rw[lq,hcell,if_neg h23,kX,dif_pos hkb]
theorem xf(x:RowT)(key n:Int)(hk:0≤key∧key<4)(hn:1≤n∧n≤1099511627776)(tb:Nat)(to':Int)(ht:0≤to'∧to'<5):
 DT 162 #[(.agg (ints x.flat).toArray),(.int .i64 (key)),(.int .i64 (n)),(.func (.func 165) #[] #[(.pointer (some ⟨tb,0,none⟩))])] T0 [ag tb [(.int .i64 (to'))] 3] (RI (.tuple #[.agg (ints (lq x key n (GE (dC x key)) (wk (dC x key) to' (fM (kZ (dC x key) to'+n)))).1.flat).toArray, .int .i64 (lq x key n (GE (dC x key)) (wk (dC x key) to' (fM (kZ (dC x key) to'+n)))).2]) [ag tb [.int .i64 to'] 3]):=by
 refine Leg.Does.body (vs:=[(.agg (ints x.flat).toArray),(.int .i64 (key)),(.int .i64 (n)),(.func (.func 165) #[] #[(.pointer (some ⟨tb,0,none⟩))])]) (n:=36) Tryz.func162 rfl rfl rfl (λw0 F hF=>?_);have hkb:mL key=true:=decide_eq_true hk;have hcell:dC x key=x.cells[key.toNat]'(by omega):=by rw[dC,dif_pos hkb]
 have htb:cF to'=true:=decide_eq_true ht;refine sr λ_ J1=>?_
 refine TL.box (aa rfl) rfl rfl rfl rfl (λb4=>?_);change TL _ _ _ _ _ _ _ _ _ [ag b4 (ints x.flat) 60,ag tb [(.int .i64 (to'))] 3];refine lA (aa rfl) rfl rfl rfl tk (λb8=>?_);change TL _ _ _ _ _ _ _ _ _ [ag b8 (ints RowT.zero.flat) 60,ag b4 (ints x.flat) 60,ag tb [(.int .i64 (to'))] 3];refine oW ?_;refine nx J1 ?_;refine sr λ_ J2=>?_
 refine mv ?_;refine mv ?_;refine tp (aV (r:=1) rfl dN rfl ld rfl rfl) ?_;refine tp (eF (r:=1+key.toNat*7) rfl zW fp rfl rfl (by omega) (by omega) (by omega)) ?_;refine TL.callRv (aa rfl) rfl rfl rfl rfl Ma rfl (Dc b4 (1+key.toNat*7) 60 tb (ints x.flat) x.cells[key.toNat].given to' ht (BY x (key.toNat*7+2) (by omega) (by omega) (kg br x.cells (i:=key.toNat) 2 (by omega) (by omega) (by decide) (CellT.sub_given (x.cells[key.toNat]'(by omega)) 0 rfl (by decide) (whole (dP ((x.cells[key.toNat]'(by omega)).given))))))) (λ_ s=>az [1,1] rfl s) (λ_ _ _=>trivial) (λvR HR hR=>?_);obtain⟨rfl,rfl⟩:=hR;refine mv ?_;refine tp (lE (vs:=[(.int .i64 ((GE (x.cells[key.toNat]'(by omega))))),(.pointer (some ⟨b4,1+key.toNat*7+2+to'.toNat,none⟩))]) rfl rfl rfl) ?_;refine tp (lE (vs:=[(.int .i64 ((GE (x.cells[key.toNat]'(by omega))))),(.pointer (some ⟨b4,1+key.toNat*7+2+to'.toNat,none⟩))]) rfl rfl rfl) ?_;refine oW ?_;refine oW ?_;refine nx J2 ?_;refine ab λ_ J3=>?_
 refine sr λ_ J4=>?_
 refine mv ?_;refine mv ?_;refine tp (iH (r:=(1099511627776-n)) rfl rfl rfl (bH (by omega) (by omega))) ?_;refine tp (PV.gtr rfl rfl rfl) ?_;refine an (λh23=>?_) (λh23=>?_);refine nx J4 ?_;refine iG rfl ?_;refine sr λ_ J5=>?_
 refine tp (jL (cells:=(ints RowT.zero.flat).toArray) rfl rfl (by as_aux_lemma=>kernel_rfl)) ?_;refine bF (vs:=ints RowT.zero.flat) (i:=2) (aa rfl) rfl rfl rfl rfl rfl (by rw[(ah RowT.zero)];exact aZ) (bu _) rfl rfl (by have h0:=(ah RowT.zero);have h1:=(ah RowT.zero);omega) (cm ((ah RowT.zero).trans (ah RowT.zero).symm)) rfl ?_;refine oW ?_;refine nx J5 ?_;refine ai ?_;refine ae ?_;refine lB (H':=[ag tb [(.int .i64 (to'))] 3]) rfl rfl rfl dN rfl aZ (dG 2 rfl rfl) (ah RowT.zero) (λ_ s=>ak [1] rfl s) ?_;exact⟨by rw[lq,hcell,if_pos h23],rfl⟩;refine nx J4 ?_;refine sz rfl ?_;refine aQ ?_;refine ac J3 ?_;refine sr λ_ J6=>?_
 refine mv ?_;refine tp (fT rfl rfl) ?_;refine tp (e7 (v:=(.int .i64 ((((x.cells[key.toNat]'(by omega)).given)[to'.toNat]'(by omega))))) rfl Y3 rfl rfl (dG 0 rfl rfl) (uo x (key.toNat*7+2+to'.toNat) (by omega) (by omega) (nA br x.cells (i:=key.toNat) (2+to'.toNat) (by omega) (by omega) (by omega) (MY (x.cells[key.toNat]'(by omega)) (to'.toNat) (by omega) (by omega) (j0 ((x.cells[key.toNat]'(by omega)).given) (by omega)))))) ?_;refine mv ?_;refine tp (cg (r:=(fM ((((x.cells[key.toNat]'(by omega)).given)[to'.toNat]'(by omega))+n))) rfl rfl rfl rfl) ?_;refine tp (fT rfl rfl) ?_;refine bv (i:=0) (aa rfl) rfl rfl rfl rfl rfl aP rfl rfl (by have h0:=(ah x);omega) (NS x (key.toNat*7+2+to'.toNat) (by omega) (by omega) (Gv br x.cells (i:=key.toNat) (2+to'.toNat) (by omega) (by omega) (by omega) (CellT.st_given (x.cells[key.toNat]'(by omega)) (to'.toNat) (by omega) (by omega) (xO ((x.cells[key.toNat]'(by omega)).given) (by omega) _)))) rfl ?_;refine nx J6 ?_;refine sr λ_ J7=>?_
 refine tp (aV (r:=0) rfl dN rfl aP rfl rfl) ?_;refine tp (e7 (v:=(.int .i64 (x.version))) rfl Y3 rfl rfl (dG 0 rfl rfl) (cB (RowT.mk x.version (x.cells.set key.toNat (CellT.mk ((x.cells[key.toNat]'(by omega)).inn) ((x.cells[key.toNat]'(by omega)).out) (((x.cells[key.toNat]'(by omega)).given).set to'.toNat (fM ((((x.cells[key.toNat]'(by omega)).given)[to'.toNat]'(by omega))+n)) (by omega))) (by omega)) x.heir x.left) rfl)) ?_;refine tp (cg (r:=(fM (x.version+1))) rfl rfl rfl rfl) ?_;refine tp (aV (r:=0) rfl dN rfl aP rfl rfl) ?_;refine bv (i:=0) (aa rfl) rfl rfl rfl rfl rfl aP rfl rfl (by have h0:=(ah (RowT.mk x.version (x.cells.set key.toNat (CellT.mk ((x.cells[key.toNat]'(by omega)).inn) ((x.cells[key.toNat]'(by omega)).out) (((x.cells[key.toNat]'(by omega)).given).set to'.toNat (fM ((((x.cells[key.toNat]'(by omega)).given)[to'.toNat]'(by omega))+n)) (by omega))) (by omega)) x.heir x.left));omega) (wQ (RowT.mk x.version (x.cells.set key.toNat (CellT.mk ((x.cells[key.toNat]'(by omega)).inn) ((x.cells[key.toNat]'(by omega)).out) (((x.cells[key.toNat]'(by omega)).given).set to'.toNat (fM ((((x.cells[key.toNat]'(by omega)).given)[to'.toNat]'(by omega))+n)) (by omega))) (by omega)) x.heir x.left) rfl _) rfl ?_;refine nx J7 ?_;refine sr λ_ J8=>?_
 refine tp (aM (vs:=ints (RowT.mk (fM (x.version+1)) (x.cells.set key.toNat (CellT.mk ((x.cells[key.toNat]'(by omega)).inn) ((x.cells[key.toNat]'(by omega)).out) (((x.cells[key.toNat]'(by omega)).given).set to'.toNat (fM ((((x.cells[key.toNat]'(by omega)).given)[to'.toNat]'(by omega))+n)) (by omega))) (by omega)) x.heir x.left).flat) rfl dN rfl aZ rfl (dG 0 rfl rfl) (ah (RowT.mk (fM (x.version+1)) (x.cells.set key.toNat (CellT.mk ((x.cells[key.toNat]'(by omega)).inn) ((x.cells[key.toNat]'(by omega)).out) (((x.cells[key.toNat]'(by omega)).given).set to'.toNat (fM ((((x.cells[key.toNat]'(by omega)).given)[to'.toNat]'(by omega))+n)) (by omega))) (by omega)) x.heir x.left)) (whole (ah (RowT.mk (fM (x.version+1)) (x.cells.set key.toNat (CellT.mk ((x.cells[key.toNat]'(by omega)).inn) ((x.cells[key.toNat]'(by omega)).out) (((x.cells[key.toNat]'(by omega)).given).set to'.toNat (fM ((((x.cells[key.toNat]'(by omega)).given)[to'.toNat]'(by omega))+n)) (by omega))) (by omega)) x.heir x.left)))) ?_
 refine bF (vs:=ints (RowT.mk (fM (x.version+1)) (x.cells.set key.toNat (CellT.mk ((x.cells[key.toNat]'(by omega)).inn) ((x.cells[key.toNat]'(by omega)).out) (((x.cells[key.toNat]'(by omega)).given).set to'.toNat (fM ((((x.cells[key.toNat]'(by omega)).given)[to'.toNat]'(by omega))+n)) (by omega))) (by omega)) x.heir x.left).flat) (i:=2) (aa rfl) rfl rfl rfl rfl rfl (by rw[(ah (RowT.mk (fM (x.version+1)) (x.cells.set key.toNat (CellT.mk ((x.cells[key.toNat]'(by omega)).inn) ((x.cells[key.toNat]'(by omega)).out) (((x.cells[key.toNat]'(by omega)).given).set to'.toNat (fM ((((x.cells[key.toNat]'(by omega)).given)[to'.toNat]'(by omega))+n)) (by omega))) (by omega)) x.heir x.left))];exact aZ) (bu _) rfl rfl (by have h0:=(ah RowT.zero);have h1:=(ah (RowT.mk (fM (x.version+1)) (x.cells.set key.toNat (CellT.mk ((x.cells[key.toNat]'(by omega)).inn) ((x.cells[key.toNat]'(by omega)).out) (((x.cells[key.toNat]'(by omega)).given).set to'.toNat (fM ((((x.cells[key.toNat]'(by omega)).given)[to'.toNat]'(by omega))+n)) (by omega))) (by omega)) x.heir x.left));omega) (cm ((ah RowT.zero).trans (ah (RowT.mk (fM (x.version+1)) (x.cells.set key.toNat (CellT.mk ((x.cells[key.toNat]'(by omega)).inn) ((x.cells[key.toNat]'(by omega)).out) (((x.cells[key.toNat]'(by omega)).given).set to'.toNat (fM ((((x.cells[key.toNat]'(by omega)).given)[to'.toNat]'(by omega))+n)) (by omega))) (by omega)) x.heir x.left)).symm)) rfl ?_;refine oW ?_;refine nx J8 ?_;refine ai ?_
 refine lB (H':=[ag tb [(.int .i64 (to'))] 3]) rfl rfl rfl dN rfl aZ (dG 2 rfl rfl) (ah (RowT.mk (fM (x.version+1)) (x.cells.set key.toNat (CellT.mk ((x.cells[key.toNat]'(by omega)).inn) ((x.cells[key.toNat]'(by omega)).out) (((x.cells[key.toNat]'(by omega)).given).set to'.toNat (fM ((((x.cells[key.toNat]'(by omega)).given)[to'.toNat]'(by omega))+n)) (by omega))) (by omega)) x.heir x.left)) (λ_ s=>ak [1] rfl s) ?_;refine⟨?_,rfl⟩;rw[lq,hcell,if_neg h23,kX,dif_pos hkb];simp[wk,kZ,htb]
theorem AT(x:RowT)(key n:Int):
 DT 133 #[(.agg (ints x.flat).toArray),(.int .i64 (key)),(.int .i64 (n))] T0 [] (RI (.tuple #[.agg (ints (px x key n).1.flat).toArray, .int .i64 (px x key n).2]) []):=by
 refine BD 19 Tryz.func133 rfl rfl rfl λw0 F hF=>sr λ_ J1=>XY (ints x.flat) λb3=>?_
 refine XZ tk (ints RowT.zero.flat) λb6=>?_
 refine PS ?_;refine nx J1 (ab λ_ J2=>sr λ_ J3=>P2 ?_);refine CE G7 (qX key n) ID ?_;refine aW ?_ ?_<;>intro h10;have hq:=h10;unfold wL mL GZ at hq;simp only[av,decide_eq_true_iff]at hq;have hk:0≤key∧key<4:=hq.1.1;have hn:1≤n∧n≤1099511627776:=⟨hq.1.2,hq.2.2⟩;refine PS ?_;refine nx J3 (CN (qx J2 (sr λ_ J4=>LW 1 dN aZ ah ?_)));refine P2 ?_;refine CE G6 (zo x key n hk hn) ID ?_;refine P2 ?_;refine SW 0 aZ ah ?_;refine PS ?_;refine nx J4 (ai (RT 0 [] dN aZ (ah _) ?_));exact⟨by simp[px, *],rfl⟩;refine PS ?_;refine nx J3 (CY (sr λ_ J5=>BV ((ints RowT.zero.flat).toArray) ?_));refine SW 0 aZ ah ?_;refine PS ?_;refine nx J5 (ai (ae (RT 0 [] dN aZ (ah _) ?_)));exact⟨by simp[px, *],rfl⟩
theorem AU(x:RowT)(key n:Int):
 DT 134 #[(.agg (ints x.flat).toArray),(.int .i64 (key)),(.int .i64 (n))] T0 [] (RI (.tuple #[.agg (ints (py x key n).1.flat).toArray, .int .i64 (py x key n).2]) []):=by
 refine BD 19 Tryz.func134 rfl rfl rfl λw0 F hF=>sr λ_ J1=>XY (ints x.flat) λb3=>?_
 refine XZ tk (ints RowT.zero.flat) λb6=>?_
 refine PS ?_;refine nx J1 (ab λ_ J2=>sr λ_ J3=>P2 ?_);refine CE G7 (qX key n) ID ?_;refine aW ?_ ?_<;>intro h10;have hq:=h10;unfold wL mL GZ at hq;simp only[av,decide_eq_true_iff]at hq;have hk:0≤key∧key<4:=hq.1.1;have hn:1≤n∧n≤1099511627776:=⟨hq.1.2,hq.2.2⟩;refine PS ?_;refine nx J3 (CN (qx J2 (sr λ_ J4=>LW 1 dN aZ ah ?_)));refine P2 ?_;refine CE G6 (zp x key n hk hn) ID ?_;refine P2 ?_;refine SW 0 aZ ah ?_;refine PS ?_;refine nx J4 (ai (RT 0 [] dN aZ (ah _) ?_));exact⟨by simp[py, *],rfl⟩;refine PS ?_;refine nx J3 (CY (sr λ_ J5=>BV ((ints RowT.zero.flat).toArray) ?_));refine SW 0 aZ ah ?_;refine PS ?_;refine nx J5 (ai (ae (RT 0 [] dN aZ (ah _) ?_)));exact⟨by simp[py, *],rfl⟩
theorem y5(x:RowT)(key n to':Int):
 DT 135 #[(.agg (ints x.flat).toArray),(.int .i64 (key)),(.int .i64 (n)),(.int .i64 (to'))] T0 [] (RI (.tuple #[.agg (ints (l8 x key n to').1.flat).toArray, .int .i64 (l8 x key n to').2]) []):=by
 refine BD 27 Tryz.func135 rfl rfl rfl λw0 F hF=>sr λ_ J1=>XY (ints x.flat) λb4=>?_
 refine XB λb7=>?_
 refine XZ tk (ints RowT.zero.flat) λb8=>?_
 refine PS ?_;refine nx J1 (ab λ_ J2=>sr λ_ J3=>LA 1 Y3 ?_);refine CE Eb (jP to') ID ?_;refine aW ?_ ?_<;>intro h11;refine PS ?_;refine P3 ?_;refine CE G7 (qX key n) ID ?_;refine aW ?_ ?_<;>intro h16;have hq:=h16;unfold wL mL GZ at hq;simp only[av,decide_eq_true_iff]at hq;have hk:0≤key∧key<4:=hq.1.1;have hn:1≤n∧n≤1099511627776:=⟨hq.1.2,hq.2.2⟩;have ht:0≤to'∧to'<5:=of_decide_eq_true h11;refine PS ?_;refine PS ?_;refine nx J3 (CN (qx J2 (sr λ_ J4=>LW 2 dN aZ ah ?_)));refine P2 ?_;refine tp (N5 rfl rfl) ?_;refine CE G6 (xf x key n hk hn b7 to' ht) (SM [1]) ?_;refine P2 ?_;refine SW 1 aZ ah ?_;refine PS ?_;refine nx J4 (ai (RT 1 [] dN aZ (ah _) ?_));exact⟨by simp[l8, *],rfl⟩;refine PS ?_;refine PS ?_;refine nx J3 (CY (sr λ_ J5=>BV ((ints RowT.zero.flat).toArray) ?_));refine SW 0 aZ ah ?_;refine PS ?_;refine nx J5 (ai (ae (RT 0 [] dN aZ (ah _) ?_)));exact⟨by simp[l8, *],rfl⟩;refine PS ?_;refine PS ?_
 iterate 4 refine UT ?_
 refine PS ?_;refine nx J3 (CY (sr λ_ J6=>BV ((ints RowT.zero.flat).toArray) ?_));refine SW 0 aZ ah ?_;refine PS ?_;refine nx J6 (ai (ae (RT 0 [] dN aZ (ah _) ?_)));exact⟨by simp[l8, *],rfl⟩
theorem AS(x:RowT)(who:Int):
 DT 115 #[(.agg (ints x.flat).toArray),(.int .i64 (who))] T0 [] (c9 (λr' H=>∃u,r'=u∧H=[own u (fX x who).length (ints (fX x who)) 3 1])):=by
 refine BD 27 Tryz.func115 rfl rfl rfl λw0 F hF=>sr λ_ J1=>XY (ints x.flat) λb2=>?_
 refine PS ?_;refine nx J1 (sr λ_ J2=>PS ?_);refine nx J2 (ab λ_ J3=>sr λ_ J4=>FA 29 dN eQ ?_);refine tp (aM (vs:=ints x.heir.toList) rfl jz rfl eQ rfl (RO 0) (dP x.heir) (NR x 0 rfl (by decide) (whole (dP x.heir)))) ?_;refine PS ?_;refine nx J4 (aq ?_)
 refine bn (α:=(Nat)×(Value)) (λ⟨k,u⟩=>k≤5∧u.oneCell'=true) (λ⟨k,u⟩=>[(1,(.int .i64 (who))),(4,(.slice none 0 0)),(5,u),(9,(.agg (ints x.heir.toList).toArray)),(10,(.int .i64 (((k:Nat):Int))))]) (λ⟨k,u⟩=>[own u ((hZ x who k).length) (ints (hZ x who k)) 3 1]) (λ⟨k,u⟩=>5-k) (0,(.slice none 0 0))
  ⟨aN _,rfl⟩ SB
  (λ_ s=>gy 3 1 (ak [] rfl s)) (λ⟨k,u⟩ hinv=>?_)
 obtain⟨hk,hu⟩:=hinv;have hol:=Fz x who k;refine sr λ_ J5=>PS ?_
 refine an ?_ ?_<;>intro h11;refine nx J5 (ab λ_ J6=>CY (qx J6 (ab λ_ J7=>aq (sr λ_ J8=>PS ?_))));refine tp (kE (cs:=ints x.heir.toList) (v:=Value.int .i64 (x.heir[k]'(by omega))) (r:=k) rfl jz Y3 rfl aP rfl rfl (by omega) (by omega) (by omega) (j0 x.heir (by omega))) ?_;refine P2 ?_;refine nx J8 (sr λ_ J9=>P3 ?_);refine an ?_ ?_<;>intro h16;refine PS ?_;refine UT ?_;refine UT ?_;refine PS ?_;refine nx J9 (CY (ad (P2 ?_)));refine aU (cells:=#[(.int .i64 (((k:Nat):Int)))]) (aa rfl) rfl rfl rfl jZ qO rfl rfl rfl (by as_aux_lemma=>kernel_rfl) (λb23=>cE (k:=1) (news:=[(.int .i64 (((k:Nat):Int)))]) (nn':=(hZ x who k).length+1) (xs':=ints (hZ x who k)++[(.int .i64 (((k:Nat):Int)))]) (aa rfl) rfl rfl rfl jZ qO rfl rfl rfl rfl rfl rfl (λ_ _=>jl rfl (RO 0) rfl) (by simp[Value.oneCell']) (by simp only[maxLen];omega) (by omega) (by simp) (by simp) (λv24 ov24=>PS ?_));refine ap (af (ac J7 (ad (AD ?_))));refine PS ?_;refine ap ?_
 exact aI ((k+1,v24):(Nat)×(Value)) ⟨by omega,ov24⟩ (by show 5- (k+1)<5-k;omega)
  SB
  (λ_ s=>by
   show bC [own v24 (hZ x who (k+1)).length (ints (hZ x who (k+1))) 3 1] _;rw[show hZ x who (k+1)=hZ x who k++[((k:Nat):Int)]by rw[qI,if_pos (by rw[vJ x who (by omega)];simp;omega)],aj,eh]
   exact ak [1] rfl s)
 refine P3 ?_;refine an ?_ ?_<;>intro h19;refine PS ?_;refine nx J9 (CY (ad (P2 ?_)));refine aU (cells:=#[(.int .i64 (((k:Nat):Int)))]) (aa rfl) rfl rfl rfl jZ qO rfl rfl rfl (by as_aux_lemma=>kernel_rfl) (λb23=>cE (k:=1) (news:=[(.int .i64 (((k:Nat):Int)))]) (nn':=(hZ x who k).length+1) (xs':=ints (hZ x who k)++[(.int .i64 (((k:Nat):Int)))]) (aa rfl) rfl rfl rfl jZ qO rfl rfl rfl rfl rfl rfl (λ_ _=>jl rfl (RO 0) rfl) (by simp[Value.oneCell']) (by simp only[maxLen];omega) (by omega) (by simp) (by simp) (λv24 ov24=>PS ?_));refine ap (af (ac J7 (ad (AD ?_))));refine PS ?_;refine ap ?_
 exact aI ((k+1,v24):(Nat)×(Value)) ⟨by omega,ov24⟩ (by show 5- (k+1)<5-k;omega)
  SB
  (λ_ s=>by
   show bC [own v24 (hZ x who (k+1)).length (ints (hZ x who (k+1))) 3 1] _;rw[show hZ x who (k+1)=hZ x who k++[((k:Nat):Int)]by rw[qI,if_pos (by rw[vJ x who (by omega)];simp;omega)],aj,eh]
   exact ak [1] rfl s)
 refine PS ?_;refine nx J9 (CN (aQ (af (ac J7 (ad (AD ?_))))));refine PS ?_;refine ap ?_
 exact aI ((k+1,u):(Nat)×(Value)) ⟨by omega,hu⟩ (by show 5- (k+1)<5-k;omega)
  SB
  (λ_ s=>by
   show bC [own u (hZ x who (k+1)).length (ints (hZ x who (k+1))) 3 1] _;rw[show hZ x who (k+1)=hZ x who k by rw[qI,if_neg (by rw[vJ x who (by omega)];simp;omega),bb]]
   exact ak [0] rfl s)
 refine nx J5 (ab λ_ J10=>CN (aS (ay (ay (bj (ac J3 (sr λ_ J11=>P2 ?_)))))));refine nx J11 (ai (WK [0] (au rfl rfl ?_)));obtain rfl:k=5:=by omega
 exact⟨u,rfl,rfl⟩
theorem y6(x:RowT)(who of' key:Int):
 DT 116 #[(.agg (ints x.flat).toArray),(.int .i64 (who)),(.int .i64 (of')),(.int .i64 (key))] T0 [] (RI (.tuple #[.agg (ints (jQ x who of' key).1.flat).toArray, .int .i64 (jQ x who of' key).2]) []):=by
 refine BD 53 Tryz.func116 rfl rfl rfl λw0 F hF=>sr λ_ J1=>XY (ints x.flat) λb4=>?_
 refine XZ Ic (ints CellT.zero.flat) λb8=>?_
 refine PS ?_;refine nx J1 (ab λ_ J2=>sr λ_ J3=>PS ?_);refine CE Eb (jP who) ID ?_;refine aW ?_ ?_<;>intro h11;refine PS ?_;refine P2 ?_;refine CE Eb (jP of') ID ?_;refine aW ?_ ?_<;>intro h15;refine PS ?_;refine P4 ?_;refine an ?_ ?_<;>intro h20;have hkb:mL key=false:=decide_eq_false (by omega);refine P2 ?_;refine UT ?_;refine UT ?_;refine PS ?_;refine nx J3 (CY (sr λ_ J4=>BV ((ints CellT.zero.flat).toArray) ?_));refine SW 0 fp bm ?_;refine PS ?_;refine nx J4 (ai (ae (RT 0 [] mp fp (bm _) ?_)));exact⟨by simp[jQ, *],rfl⟩;refine P4 ?_;refine an ?_ ?_<;>intro h24;have hkb:mL key=false:=decide_eq_false (by omega);refine PS ?_;refine nx J3 (CY (sr λ_ J5=>BV ((ints CellT.zero.flat).toArray) ?_));refine SW 0 fp bm ?_;refine PS ?_;refine nx J5 (ai (ae (RT 0 [] mp fp (bm _) ?_)));exact⟨by simp[jQ, *],rfl⟩;have hw:cF who=true:=by simpa using h11
 have ho:cF of'=true:=by simpa using h15
 have hw2:0≤who∧who<5:=of_decide_eq_true hw;have ho2:0≤of'∧of'<5:=of_decide_eq_true ho;have hkb:mL key=true:=decide_eq_true ⟨by omega,by omega⟩;have e1:fK x of'=x.heir[of'.toNat]'(by omega):=by rw[fK,dif_pos ho]
 have e2:C7 x of' key=(x.left[of'.toNat]'(by omega))[key.toNat]'(by omega):=by rw[C7,dif_pos ⟨ho,hkb⟩]
 have e3:dC x key=x.cells[key.toNat]'(by omega):=by rw[dC,dif_pos hkb]
 refine PS ?_;refine nx J3 (CN (qx J2 (ab λ_ J6=>sr λ_ J7=>P3 ?_)));refine an ?_ ?_<;>intro h29;refine nx J7 (CY (ab λ_ J8=>D1 1 bh ?_));refine PD 0 ?_;refine FD 1 1 dN ld ?_;refine IY 2 (1+key.toNat*7) zW fp ?_;refine ta 3 rfl (aM (vs:=ints (x.cells[key.toNat]'(by omega)).flat) rfl mp rfl fp rfl (λ_ h=>h.2.1) (bm (x.cells[key.toNat]'(by omega))) (BY x (key.toNat*7) (by omega) (by omega) (kg br x.cells (i:=key.toNat) 0 (by omega) (by omega) (by decide) (whole (bm (x.cells[key.toNat]'(by omega))))))) ?_;refine FD 4 0 dN aP ?_;refine LR 5 Y3 (cB x rfl) ?_;refine AL 6 ?_;refine SW 0 fp bm ?_;refine EN (PD 7 ?_);refine DN (ac J8 (ai (ae (RT 0 [] mp fp (bm _) ?_))));exact⟨by simp[jQ, *],rfl⟩;refine nx J7 (CN (qx J6 (ab λ_ J9=>sr λ_ J10=>PS ?_)));refine FA 29 dN eQ ?_;refine IX (29+(of').toNat) jz aP ?_;refine LT 1 Y3 (.int .i64 ((x.heir[(of').toNat]'(by omega)))) ?_ (hc:=by exact qY x ((of').toNat) (by omega) (by omega) (j0 x.heir (by omega)));refine PS ?_;refine an ?_ ?_<;>intro h40;refine nx J10 (CY (ab λ_ J11=>D1 1 bh ?_));refine PD 0 ?_;refine PD 1 ?_;refine FD 2 34 dN Ao ?_;refine IY 3 (34+((of').toNat)*28) JT ld ?_;refine IY 4 (34+((of').toNat)*28+key.toNat*7) zW fp ?_
 refine ta 5 rfl (aM (vs:=ints ((x.left[(of').toNat]'(by omega))[key.toNat]'(by omega)).flat) rfl mp rfl fp rfl (λ_ h=>h.2.1) (bm ((x.left[(of').toNat]'(by omega))[key.toNat]'(by omega))) (EA x (((of').toNat)*28+key.toNat*7) (by omega) (by omega) (kg sI x.left (i:=(of').toNat) (key.toNat*7) (by omega) (by omega) (by omega) (kg br (x.left[(of').toNat]'(by omega)) (i:=key.toNat) 0 (by omega) (by omega) (by decide) (whole (bm ((x.left[(of').toNat]'(by omega))[key.toNat]'(by omega)))))))) ?_;refine PD 6 ?_;refine FD 7 29 dN eQ ?_;refine IY 8 (29+(of').toNat) jz aP ?_;refine LX 9 Y3 (.int .i64 ((x.heir[(of').toNat]'(by omega)))) ?_ (hc:=by exact qY x ((of').toNat) (by omega) (by omega) (j0 x.heir (by omega)));refine ta 10 rfl (iH (r:=(fM ((x.heir[(of').toNat]'(by omega))-1))) rfl rfl rfl rfl) ?_;refine AL 11 ?_;refine SW 0 fp bm ?_;refine EN (PD 12 ?_);refine DN (ac J11 (ai (ae (RT 0 [] mp fp (bm _) ?_))));exact⟨by simp[jQ, *],rfl⟩;refine nx J10 (CN (qx J9 (sr λ_ J12=>BV ((ints CellT.zero.flat).toArray) ?_)));refine SW 0 fp bm ?_;refine PS ?_;refine nx J12 (ai (RT 0 [] mp fp (bm _) ?_));exact⟨by simp[jQ, *],rfl⟩;refine PS ?_;refine P2 ?_;refine UT ?_;refine UT ?_;refine P2 ?_;refine UT ?_;refine UT ?_;refine PS ?_;refine nx J3 (CY (sr λ_ J13=>BV ((ints CellT.zero.flat).toArray) ?_));refine SW 0 fp bm ?_;refine PS ?_;refine nx J13 (ai (ae (RT 0 [] mp fp (bm _) ?_)));exact⟨by simp[jQ, *],rfl⟩;refine PS ?_;refine PS ?_
 iterate 3 refine UT ?_
 refine P2 ?_;refine UT ?_;refine UT ?_;refine P2 ?_;refine UT ?_;refine UT ?_;refine PS ?_;refine nx J3 (CY (sr λ_ J14=>BV ((ints CellT.zero.flat).toArray) ?_));refine SW 0 fp bm ?_;refine PS ?_;refine nx J14 (ai (ae (RT 0 [] mp fp (bm _) ?_)));exact⟨by simp[jQ, *],rfl⟩
theorem o6(who:Int):
 DT 34 #[(.int .i64 (who))] T0 [] (c9 (λr' H=>∃u,r'=u∧H=[own u (gE who).length (ints (gE who)) 3 1])):=by
 refine BD 20 Tryz.func34 rfl rfl rfl λw0 F hF=>sr λ_ J1=>PS ?_
 refine nx J1 (ab λ_ J2=>sr λ_ J3=>PS ?_);refine CE G3 (jA who) ID ?_;refine aW ?_ ?_<;>intro h6;have hm:0≤who∧who<5:=of_decide_eq_true h6;refine PS ?_;refine nx J3 (CN (qx J2 (sr λ_ J4=>ML 3 1 (λon=>?_))));clear on;refine PS ?_;refine nx J4 (ab λ_ J5=>sr λ_ J6=>PS ?_);refine nx J6 (aq (ra 3 (ab λ_ J7=>sr λ_ J8=>P2 ?_)));refine nx J8 (CY (qx J7 (ab λ_ J9=>aq (ad (P3 ?_)))));refine tp (cg (r:=(who+1)) rfl rfl rfl (bH (by omega) (by omega))) ?_;refine tp (PV.rem (r:=((who+1)%5)) rfl rfl rfl (by omega) (D5 (by omega))) ?_;refine aU (cells:=#[(.int .i64 (((who+1)%5)))]) (aa rfl) rfl rfl rfl jZ qO rfl rfl rfl (by as_aux_lemma=>kernel_rfl) (λb17=>cE (k:=1) (news:=[(.int .i64 (((who+1)%5)))]) (nn':=1) (xs':=[(.int .i64 (((who+1)%5)))]) (aa rfl) rfl rfl rfl jZ qO rfl rfl rfl rfl rfl rfl (λ_ _=>jl rfl (RO 0) rfl) (by simp[Value.oneCell']) (by simp only[maxLen];omega) (by omega) (by simp) (by simp) (λv18 ov18=>PS ?_));refine ap (af (ac J9 (ad (PS ?_))));refine tp (cg (r:=2) rfl rfl rfl (by decide)) ?_;refine PS ?_;refine ap (ei (ab λ_ J10=>sr λ_ J11=>P2 ?_));refine nx J11 (CY (qx J10 (ab λ_ J12=>aq (ad (P3 ?_)))));refine tp (cg (r:=(who+2)) rfl rfl rfl (bH (by omega) (by omega))) ?_;refine tp (PV.rem (r:=((who+2)%5)) rfl rfl rfl (by omega) (D5 (by omega))) ?_
 refine cq (H':=[own v18 (1) ([(.int .i64 (((who+1)%5)))]) 3 1]) (λ_ s=>ak [1] rfl s) (aU (cells:=#[(.int .i64 (((who+2)%5)))]) (aa rfl) rfl rfl rfl jZ qO rfl rfl rfl (by as_aux_lemma=>kernel_rfl) (λb17=>cE (k:=1) (news:=[(.int .i64 (((who+2)%5)))]) (nn':=1+1) (xs':=[(.int .i64 (((who+1)%5)))]++[(.int .i64 (((who+2)%5)))]) (aa rfl) rfl rfl rfl jZ qO rfl rfl rfl rfl rfl rfl (λ_ _=>jl rfl (RO 0) rfl) (by simp[Value.oneCell']) (by simp only[maxLen];omega) (by omega) (by simp) (by simp) (λv18 ov18=>PS ?_)));refine ap (af (ac J12 (ad (PS ?_))));refine tp (cg (r:=3) rfl rfl rfl (by decide)) ?_;refine PS ?_;refine ap (ei (ab λ_ J13=>sr λ_ J14=>P2 ?_));refine nx J14 (CN (aS (ay (ay (bj (ac J5 (sr λ_ J15=>P2 ?_)))))));refine nx J15 (ai (WK [1] (au rfl rfl ?_)));exact⟨_,rfl,by rw[gE,if_pos h6];rfl⟩;refine PS ?_;refine nx J3 (CY (sr λ_ J16=>PS ?_));refine nx J16 (ai (ae (aF (H':=[own (.slice none 0 0) 0 [] 3 1]) (dh _) (λ_ s=>gy 3 1 s) (au rfl rfl ?_))));exact⟨_,rfl,by rw[gE,if_neg (by simp[h6])];rfl⟩
theorem mg(b off T:Nat)(cs:BookT→List Value)(hA:Arnd cs (λx=>ints x.flat) off)(B:BookT)(who:Int):
 DT 43 #[(.pointer (some ⟨b,off,none⟩)),(.int .i64 (who))] T0 [ag b (cs B) T] (RI (.agg (ints (cu B who).flat).toArray) [ag b (cs B) T]):=by
 refine BD 15 Tryz.func43 rfl rfl rfl λw0 F hF=>sr λ_ J1=>XZ tk (ints RowT.zero.flat) λb4=>?_
 refine nx J1 (ab λ_ J2=>sr λ_ J3=>PS ?_);refine CE Kn (kT who) ID ?_;refine aW ?_ ?_<;>intro h6;have hm:0≤who∧who<5:=of_decide_eq_true h6;refine PS ?_;refine nx J3 (CN (qx J2 (sr λ_ J4=>P3 ?_)));refine tp (aV (r:=off) rfl H3 rfl sO rfl rfl) ?_;refine IX (off+who.toNat*174) Gh aZ ?_;refine tp (aM (vs:=ints (B.rows[who.toNat]'(by omega)).flat) rfl dN rfl aZ rfl (RO 1) (ah (B.rows[who.toNat]'(by omega))) (M3 hA (j:=who.toNat*174) (by omega) (LB (wW _)) (M0 B (who.toNat*174) (by omega) (by omega) (kg dp B.rows (i:=who.toNat) 0 (by omega) (by omega) (by decide) (whole (ah (B.rows[who.toNat]'(by omega)))))))) ?_;refine SW 0 aZ ah ?_;refine nx J4 (ai (RC 0 [1] dN aZ (ah _) ?_));exact⟨by rw[cu,dif_pos h6],rfl⟩;refine PS ?_;refine nx J3 (CY (sr λ_ J5=>BV ((ints RowT.zero.flat).toArray) ?_));refine SW 0 aZ ah ?_;refine nx J5 (ai (ae (RC 0 [1] dN aZ (ah _) ?_)));exact⟨by rw[cu,dif_neg (by simp[h6])],rfl⟩
theorem kA(b off T:Nat)(cs:BookT→List Value)(hA:Arnd cs (λx=>ints x.flat) off)(B:BookT)(who:Int)(x:RowT)(hx:WF x.flat):
 DT 75 #[(.pointer (some ⟨b,off,none⟩)),(.int .i64 (who)),(.agg (ints x.flat).toArray)] T0 [ag b (cs B) T] (RI (.bool (fu B who x).2) [ag b (cs (fu B who x).1) T]):=by
 refine BD 33 Tryz.func75 rfl rfl rfl λw0 F hF=>sr λ_ J1=>XY (ints x.flat) λb5=>?_
 refine PS ?_;refine nx J1 (ab λ_ J2=>ab λ_ J3=>D2 0 1 bh ?_);refine PD 0 ?_;refine AL 1 ?_;refine CE Kn (kT who) ID ?_;refine aW ?_ ?_<;>intro h8;have hm:0≤who∧who<5:=of_decide_eq_true h8;have hrow:cu B who=B.rows[who.toNat]'(by omega):=by rw[cu,dif_pos h8]
 refine ap (E2 0 1 (PD 2 ?_));refine PD 3 ?_;refine LY 4 dN aZ ah ?_;refine AL 5 ?_;refine CE FM (il x hx) ID ?_;refine aW ?_ ?_<;>intro h12;refine ap (E2 0 1 (PD 6 ?_));refine PD 7 ?_;refine PD 8 ?_;refine FD 9 0 dN aP ?_;refine LR 10 Y3 (cB x rfl) ?_;refine PD 11 ?_;refine PD 12 ?_;refine PD 13 ?_;refine tb 14 rfl (aV (r:=off) rfl H3 rfl sO rfl rfl) ?_;refine IY 15 (off+who.toNat*174) Gh aZ ?_;refine tb 16 rfl (aV (r:=off+who.toNat*174) rfl dN rfl aP rfl rfl) ?_;refine LX 17 Y3 (.int .i64 ((B.rows[who.toNat]'(by omega)).version)) ?_ (hc:=by exact Arnd.at hA (j:=who.toNat*174) (by omega) (LB (wW _)) (BookT.pt_rows B (who.toNat*174) (by omega) (by omega) (nA dp B.rows (i:=who.toNat) 0 (by omega) (by omega) (by decide) (cB _ rfl))));refine PD 18 ?_;refine gR ?_ ?_<;>intro h25;refine PD 19 ?_;refine DN (ac J3 (CY (sr λ_ J4=>PS ?_)));refine nx J4 (ai (ae (WK [1] (au rfl rfl ?_))));have e:fu B who x=(B,false):=by rw[fu,if_neg (λh=>by simp only[av,decide_eq_true_iff]at h;rw[hrow]at h;omega)]
 exact⟨by rw[e],by rw[e];rfl⟩;refine PD 19 ?_;refine DN (ac J3 (CN (qx J2 (ab λ_ J5=>D1 0 bh ?_))));refine PD 0 ?_;refine PD 1 ?_;refine LY 2 dN aZ ah ?_;refine PD 3 ?_;refine ta 4 rfl (aV (r:=off) rfl H3 rfl sO rfl rfl) ?_;refine IY 5 (off+who.toNat*174) Gh aZ ?_;refine AL 6 ?_;refine bF (vs:=ints x.flat) (i:=1) (aa rfl) rfl rfl rfl rfl rfl (by rw[(ah x)];exact aZ) (bu _) rfl rfl (by have h0:=(wW B);have h2:=Arnd.le hA B;have h1:=(ah x);omega) (Arnd.wr hA (x:=B) (x':=(BookT.mk (B.rows.set who.toNat x (by omega)))) (j:=who.toNat*174) (by omega) (LC (wW _) (ah _)) (BookT.wr_rows_ B (who.toNat*174) (by omega) (by have h1:=(ah x);omega) (tl dp B.rows (i:=who.toNat) 0 (by omega) (by omega) (by have h1:=(ah x);omega) (cm ((ah (B.rows[who.toNat]'(by omega))).trans (ah x).symm))))) rfl (ap (E1 0 (DN (ac J5 (sr λ_ J6=>PS ?_)))));refine nx J6 (ai (WK [1] (au rfl rfl ?_)));have e:fu B who x=(zb B who x,true):=by rw[fu,if_pos (by simp only[av,decide_eq_true_iff,hrow];exact⟨⟨h8,h12⟩,by omega⟩)]
 exact⟨by rw[e],by rw[e,zb,dif_pos h8];rfl⟩;refine ap (E2 0 1 (PD 6 ?_));refine PD 7 ?_;refine PD 8 ?_;refine NT 9 ?_;refine NT 10 ?_;refine NT 11 ?_;refine NT 12 ?_;refine NT 13 ?_;refine NT 14 ?_;refine NT 15 ?_;refine NT 16 ?_;refine NT 17 ?_;refine NT 18 ?_;refine PD 19 ?_;refine DN (ac J3 (CY (sr λ_ J7=>PS ?_)));refine nx J7 (ai (ae (WK [1] (au rfl rfl ?_))));have e:fu B who x=(B,false):=by rw[fu,if_neg (λh=>by simp only[av,decide_eq_true_iff]at h;rw[h12]at h;exact absurd h.1.2 (by decide))]
 exact⟨by rw[e],by rw[e];rfl⟩;refine ap (E2 0 1 (PD 2 ?_));refine PD 3 ?_;refine NT 4 ?_;refine NT 5 ?_;refine NT 6 ?_;refine PD 7 ?_;refine PD 8 ?_;refine NT 9 ?_;refine NT 10 ?_;refine NT 11 ?_;refine NT 12 ?_;refine NT 13 ?_;refine NT 14 ?_;refine NT 15 ?_;refine NT 16 ?_;refine NT 17 ?_;refine NT 18 ?_;refine PD 19 ?_;refine DN (ac J3 (CY (sr λ_ J8=>PS ?_)));refine nx J8 (ai (ae (WK [1] (au rfl rfl ?_))));have e:fu B who x=(B,false):=by rw[fu,if_neg (λh=>by simp only[av,decide_eq_true_iff]at h;rw[h8]at h;exact absurd h.1.1 (by decide))]
 exact⟨by rw[e],by rw[e];rfl⟩
theorem nt(b off T:Nat)(cs:BookT→List Value)(hA:Arnd cs (λx=>ints x.flat) off)(B:BookT)(of' key:Int):
 DT 74 #[(.pointer (some ⟨b,off,none⟩)),(.int .i64 (of')),(.int .i64 (key))] T0 [ag b (cs B) T] (RI (.agg (ints (cT B of' key).flat).toArray) [ag b (cs B) T]):=by
 refine BD 35 Tryz.func74 rfl rfl rfl λw0 F hF=>sr λ_ J1=>XZ Ic (ints CellT.zero.flat) λb6=>?_
 refine nx J1 (sr λ_ J2=>XZ Ic (ints CellT.zero.flat) λb7=>?_);refine nx J2 (sr λ_ J3=>PS ?_);refine nx J3 (ab λ_ J4=>sr λ_ J5=>PS ?_);refine nx J5 (aq ?_)
 refine bn (α:=(Nat)×(CellT)×(Int)) (λ⟨k,c,n⟩=>k≤5∧(c,n)=wG B of' key k) (λ⟨k,c,n⟩=>[(0,(.pointer (some ⟨b,off,none⟩))),(1,(.int .i64 (of'))),(2,(.int .i64 (key))),(6,(.pointer (some ⟨b6,0,none⟩))),(7,(.pointer (some ⟨b7,0,none⟩))),(8,(.int .i64 (n))),(12,(.int .i64 (((k:Nat):Int))))]) (λ⟨k,c,n⟩=>[ag b7 (ints c.flat) 56,ag b6 (ints CellT.zero.flat) 56,ag b (cs B) T]) (λ⟨k,c,n⟩=>5-k) (0,CellT.zero, -1)
  ⟨aN _,rfl⟩ SB
  (λ_ s=>s) (λ⟨k,c,n⟩ hinv=>?_)
 obtain⟨hk,hc⟩:=hinv;refine sr λ_ J6=>PS ?_
 refine an ?_ ?_<;>intro h13;refine nx J6 (ab λ_ J7=>CY (qx J7 (ab λ_ J8=>aq (sr λ_ J9=>P2 ?_))));refine nx J9 (sr λ_ J10=>P3 ?_);refine tp (aV (r:=off) rfl H3 rfl sO rfl rfl) ?_;refine IX (off+k*174) Gh aZ ?_;refine tp (aM (vs:=ints (B.rows[k]'(by omega)).flat) rfl dN rfl aZ rfl (RO 2) (ah (B.rows[k]'(by omega))) (M3 hA (j:=k*174) (by omega) (LB (wW _)) (M0 B (k*174) (by omega) (by omega) (kg dp B.rows (i:=k) 0 (by omega) (by omega) (by decide) (whole (ah (B.rows[k]'(by omega)))))))) ?_;refine P3 ?_;refine CE Ms (y6 (B.rows[k]'(by omega)) ((k:Nat):Int) of' key) ID ?_;refine P3 ?_;refine XZ Ic (ints CellT.zero.flat) λb10=>?_
 refine SW 0 fp bm ?_;refine PS ?_;refine nx J10 (sr λ_ J11=>P3 ?_);refine an ?_ ?_<;>intro h30;refine nx J11 (CY (ad (LW 0 mp fp bm ?_)));refine PS ?_;refine SW 1 fp bm ?_;refine PS ?_;refine ap (af (ac J8 (ad (AD ?_))));refine PS ?_;refine ap ?_
 exact aI ((k+1,(jQ (B.rows[k]'(by omega)) ((k:Nat):Int) of' key).1,(jQ (B.rows[k]'(by omega)) ((k:Nat):Int) of' key).2):(Nat)×(CellT)×(Int)) ⟨by omega,by rw[tX,←hc,sv,wH B (by omega)];simp[h30]⟩ (by show 5- (k+1)<5-k;omega)
  SB
  (λ_ s=>ak [1,1,1] rfl s)
 refine nx J11 (CN (aQ (af (ac J8 (ad (AD ?_))))));refine PS ?_;refine ap ?_
 exact aI ((k+1,c,n):(Nat)×(CellT)×(Int)) ⟨by omega,by rw[tX,←hc,sv,wH B (by omega)];simp[h30]⟩ (by show 5- (k+1)<5-k;omega)
  SB
  (λ_ s=>ak [1,1,1] rfl s)
 refine nx J6 (ab λ_ J12=>CN (aS (ay (ay (bj (ac J4 (sr λ_ J13=>LW 0 mp fp bm ?_)))))));refine SW 1 fp bm ?_;refine nx J13 (ai (RC 1 [2] mp fp (bm _) ?_));obtain rfl:k=5:=by omega
 exact⟨by rw[cT,←hc],rfl⟩
theorem pO(b off T:Nat)(cs:BookT→List Value)(hA:Arnd cs (λx=>ints x.flat) off)(B:BookT)(key:Int):
 DT 39 #[(.pointer (some ⟨b,off,none⟩)),(.int .i64 (key))] T0 [ag b (cs B) T] (RI (.int .i64 (mo B key)) [ag b (cs B) T]):=by
 refine BD 24 Tryz.func39 rfl rfl rfl λw0 F hF=>sr λ_ J1=>PS ?_
 refine nx J1 (sr λ_ J2=>PS ?_);refine nx J2 (ab λ_ J3=>sr λ_ J4=>PS ?_);refine nx J4 (aq ?_)
 refine bn (α:=(Nat)×(Int)) (λ⟨k,n⟩=>k≤5∧n=rr B key k) (λ⟨k,n⟩=>[(0,(.pointer (some ⟨b,off,none⟩))),(1,(.int .i64 (key))),(4,(.int .i64 0)),(5,(.int .i64 (n))),(8,(.int .i64 (((k:Nat):Int))))]) (λ⟨k,n⟩=>[ag b (cs B) T]) (λ⟨k,n⟩=>5-k) (0,0)
  ⟨aN _,rfl⟩ SB
  (λ_ s=>s) (λ⟨k,n⟩ hinv=>?_)
 obtain⟨hk,hc⟩:=hinv;refine sr λ_ J5=>PS ?_
 refine an ?_ ?_<;>intro h9;refine nx J5 (ab λ_ J6=>CY (qx J6 (ab λ_ J7=>aq (sr λ_ J8=>P2 ?_))));refine nx J8 (sr λ_ J9=>P3 ?_);refine CE Kp (nt b off T cs hA B ((k:Nat):Int) key) ID ?_;refine XZ Ic (ints CellT.zero.flat) λb7=>?_
 refine SW 0 fp bm ?_;refine nx J9 (ad (PS ?_));refine FA 0 mp aP ?_;refine LT 0 Y3 (.int .i64 ((cT B ((k:Nat):Int) key).inn)) ?_ (hc:=by exact q9 _ rfl);refine FA 1 mp aP ?_;refine LT 0 Y3 (.int .i64 ((cT B ((k:Nat):Int) key).out)) ?_ (hc:=by exact q8 _ rfl);refine tp (iH (r:=(fM (((cT B ((k:Nat):Int) key).inn)- ((cT B ((k:Nat):Int) key).out)))) rfl rfl rfl rfl) ?_;refine tp (cg (r:=(fM (n+(fM (((cT B ((k:Nat):Int) key).inn)- ((cT B ((k:Nat):Int) key).out)))))) rfl rfl rfl rfl) ?_;refine PS ?_;refine ap (af (ac J7 (ad (AD ?_))));refine PS ?_;refine ap ?_
 exact aI ((k+1,(fM (n+(fM (((cT B ((k:Nat):Int) key).inn)- ((cT B ((k:Nat):Int) key).out)))))):(Nat)×(Int)) ⟨by omega,by rw[yN,←hc]⟩ (by show 5- (k+1)<5-k;omega)
  SB
  (λ_ s=>ak [1] rfl s)
 refine nx J5 (ab λ_ J10=>CN (aS (ay (ay (bj (ac J3 (sr λ_ J11=>P2 ?_)))))));refine nx J11 (ai (WK [0] (au rfl rfl ?_)));obtain rfl:k=5:=by omega
 exact⟨by rw[hc];rfl,rfl⟩
theorem oL(b off T:Nat)(cs:BookT→List Value)(hA:Arnd cs (λx=>ints x.flat) off)(B:BookT)(who key:Int):
    DT 73 #[(.pointer (some ⟨b,off,none⟩)),(.int .i64 (who)),(.int .i64 (key))] T0 [ag b (cs B) T] (RI (.int .i64 (oC B who key)) [ag b (cs B) T]):=by
 refine BD 71 Tryz.func73 rfl rfl rfl λw0 F hF=>sr λ_ J1=>PS ?_
 refine nx J1 (ab λ_ J2=>sr λ_ J3=>PS ?_);refine CE Kn (kT who) ID ?_;refine aW ?_ ?_<;>intro h14;have hm:0≤who∧who<5:=of_decide_eq_true h14;refine PS ?_;refine nx J3 (CN (qx J2 (sr λ_ J4=>XZ KX (ints ((#v[CellT.zero,CellT.zero,CellT.zero,CellT.zero,CellT.zero]).toList.flatMap CellT.flat)) λb7=>?_)));refine nx J4 (ab λ_ J5=>sr λ_ J6=>PS ?_);refine nx J6 (aq ?_)
 refine bn (α:=(Nat)×(Vector CellT 5)) (λ⟨k,C⟩=>k≤5∧∀(j:Nat) (h:j<5),j<k→C[j]=cT B j key) (λ⟨k,C⟩=>[(0,(.pointer (some ⟨b,off,none⟩))),(1,(.int .i64 (who))),(2,(.int .i64 (key))),(6,(.int .i64 0)),(7,(.pointer (some ⟨b7,0,none⟩))),(16,(.int .i64 (((k:Nat):Int))))]) (λ⟨k,C⟩=>[ag b7 (ints (C.toList.flatMap CellT.flat)) 132,ag b (cs B) T]) (λ⟨k,C⟩=>5-k) (0, #v[CellT.zero,CellT.zero,CellT.zero,CellT.zero,CellT.zero])
     ⟨aN _,λj _ h=>absurd h (by omega)⟩ SB
     (λ_ s=>ak [0,0] rfl s) (λ⟨k,C⟩ hinv=>?_)
 obtain⟨hk,hC⟩:=hinv;refine sr λ_ J7=>PS ?_
 refine an ?_ ?_<;>intro h17;refine nx J7 (ab λ_ J8=>CY (qx J8 (ab λ_ J9=>aq (sr λ_ J10=>P2 ?_))));refine nx J10 (ad (P4 ?_));refine CE Kp (nt b off T cs hA B ((k:Nat):Int) key) (SM [1]) ?_;refine IX (k*7) xv fp ?_;refine bF (vs:=ints (cT B ((k:Nat):Int) key).flat) (i:=1) (aa rfl) rfl rfl rfl rfl rfl (by rw[(bm (cT B ((k:Nat):Int) key))];exact fp) (bu _) rfl rfl (by have h0:=(Im C);have h1:=(bm (cT B ((k:Nat):Int) key));omega) (tl br C (i:=k) 0 (by omega) (by omega) (by have h1:=(bm (cT B ((k:Nat):Int) key));omega) (cm ((bm (C[k]'(by omega))).trans (bm (cT B ((k:Nat):Int) key)).symm))) rfl (ap (af (ac J9 (ad (AD ?_)))));refine PS ?_;refine ap ?_
 exact aI ((k+1,(C.set k (cT B ((k:Nat):Int) key) (by omega))):(Nat)×(Vector CellT 5)) ⟨by omega,λj h hj=>by
        rw[Vector.getElem_set];split
        · subst_vars;rfl
        · exact hC j h (by omega)⟩ (by show 5- (k+1)<5-k;omega)
   SB
   (λ_ s=>ak [1,0] rfl s)
 refine nx J7 (ab λ_ J11=>CN (aS (ay (ay (bj (ac J5 (sr λ_ J12=>PS ?_)))))));refine nx J12 (ab λ_ J13=>sr λ_ J14=>P3 ?_);refine tp (aV (r:=off) rfl H3 rfl sO rfl rfl) ?_;refine IX (off+who.toNat*174) Gh aZ ?_;refine tp (aM (vs:=ints (B.rows[who.toNat]'(by omega)).flat) rfl dN rfl aZ rfl (RO 1) (ah (B.rows[who.toNat]'(by omega))) (M3 hA (j:=who.toNat*174) (by omega) (LB (wW _)) (M0 B (who.toNat*174) (by omega) (by omega) (kg dp B.rows (i:=who.toNat) 0 (by omega) (by omega) (by decide) (whole (ah (B.rows[who.toNat]'(by omega)))))))) ?_;refine PS ?_;have hbr:B.rows[who.toNat]'(by omega)=cu B who:=by rw[cu,dif_pos h14]
 rw[hbr];refine CR Mt (AS (cu B who) who) ID λvR HR hR=>?_
 obtain⟨_,rfl,rfl⟩:=hR;revert vR;intro ul1;refine kD 0 rfl rfl (λhlul1 houl1=>tp (dX rfl jZ rfl hlul1) ?_);refine PS ?_;refine nx J14 (aq ?_)
 refine bn (α:=(Nat)×(Int)) (λ⟨i,r⟩=>i≤(fX (cu B who) who).length∧r=((fX (cu B who) who).take i).foldl (og B key) 0) (λ⟨i,r⟩=>[(0,(.pointer (some ⟨b,off,none⟩))),(6,(.int .i64 0)),(7,(.pointer (some ⟨b7,0,none⟩))),(9,(.int .i64 (r))),(33,ul1),(34,(.int .i64 ((((fX (cu B who) who).length:Nat):Int)))),(35,(.int .i64 (((i:Nat):Int))))]) (λ⟨i,r⟩=>[own ul1 ((fX (cu B who) who).length) (ints (fX (cu B who) who)) 3 1,ag b7 (ints (C.toList.flatMap CellT.flat)) 132,ag b (cs B) T]) (λ⟨i,r⟩=>(fX (cu B who) who).length-i) (0,0)
     ⟨aN _,rfl⟩ SB
     (λ_ s=>ak [0,0,0] rfl s) (λ⟨i,r⟩ hinv=>?_)
 obtain⟨hi,hr⟩:=hinv;have hE: ∀(j:Nat) (h:j<5),C[j]=cT B j key:=λj h=>hC j h (by omega)
 refine sr λ_ J15=>PS ?_
 refine an ?_ ?_<;>intro h36;refine nx J15 (ab λ_ J16=>CY (qx J16 (ab λ_ J17=>aq (sr λ_ J18=>jJ 0 rfl rfl (by omega) (λga capa hva hcapa=>?_)))));obtain⟨q,hq,hq5⟩: ∃q:Nat,(fX (cu B who) who)[i]=((q:Nat):Int)∧q<5:=by have:=Cy (cu B who) who _ (eY (show i< (fX (cu B who) who).length by omega));exact⟨(fX (cu B who) who)[i].toNat,by omega,by omega⟩
 have hE2:C[q]=cT B (fX (cu B who) who)[i] key:=by rw[hE q hq5,hq]
 refine tp (bS (r:=i) hva rfl jZ aP rfl rfl (by omega) (by omega) (by omega)) ?_;refine tp (cX (v:=(.int .i64 (((q:Nat):Int)))) rfl Y3 rfl rfl (fU 0 rfl hva rfl) (by rw[←hq];simp[ints,show i< (fX (cu B who) who).length by omega])) ?_;refine PS ?_;refine nx J18 (ab λ_ J19=>D1 1 bh ?_);refine PD 0 ?_;refine PD 1 ?_;refine IY 2 (q*7) xv fp ?_;refine ta 3 rfl (aV (r:=q*7) rfl mp rfl aP rfl rfl) ?_;refine LX 4 Y3 (.int .i64 ((C[q]'(by omega)).inn)) ?_ (hc:=by exact nA br C (i:=q) 0 (by omega) (by omega) (by decide) (q9 _ rfl));refine PD 5 ?_;refine IY 6 (q*7) xv fp ?_;refine ta 7 rfl (aV (r:=q*7+1) rfl mp rfl aP rfl rfl) ?_;refine LX 8 Y3 (.int .i64 ((C[q]'(by omega)).out)) ?_ (hc:=by exact nA br C (i:=q) 1 (by omega) (by omega) (by decide) (q8 _ rfl));refine ta 9 rfl (iH (r:=(fM (((C[q]'(by omega)).inn)- ((C[q]'(by omega)).out)))) rfl rfl rfl rfl) ?_;refine ta 10 rfl (cg (r:=(fM (r+(fM (((C[q]'(by omega)).inn)- ((C[q]'(by omega)).out)))))) rfl rfl rfl rfl) ?_;refine PD 11 ?_;refine DN (ac J19 (sr λ_ J20=>PS ?_));refine nx J20 (aq ?_)
 refine bn (α:=(Nat)×(Int)) (λ⟨o,r3⟩=>o≤5∧r3=pz B key (fX (cu B who) who)[i] (fM (r+fM (C[q].inn-C[q].out))) o) (λ⟨o,r3⟩=>[(0,(.pointer (some ⟨b,off,none⟩))),(6,(.int .i64 0)),(7,(.pointer (some ⟨b7,0,none⟩))),(9,(.int .i64 (r3))),(11,(.int .i64 (((q:Nat):Int)))),(33,ul1),(34,(.int .i64 ((((fX (cu B who) who).length:Nat):Int)))),(35,(.int .i64 (((i:Nat):Int)))),(50,(.int .i64 (((o:Nat):Int))))]) (λ⟨o,r3⟩=>[own ul1 ((fX (cu B who) who).length) (ints (fX (cu B who) who)) 3 1,ag b7 (ints (C.toList.flatMap CellT.flat)) 132,ag b (cs B) T]) (λ⟨o,r3⟩=>5-o) (0,(fM (r+(fM (((C[q]'(by omega)).inn)- ((C[q]'(by omega)).out))))))
     ⟨aN _,rfl⟩ SB
     (λ_ s=>ak [0,0,0] rfl s) (λ⟨o,r3⟩ hinv=>?_)
 obtain⟨ho,hr3⟩:=hinv;refine sr λ_ J21=>PS ?_
 refine an ?_ ?_<;>intro h51;refine nx J21 (ab λ_ J22=>CY (qx J22 (ab λ_ J23=>aq (sr λ_ J24=>P2 ?_))));refine nx J24 (D1 1 bh ?_);refine PD 0 ?_;refine PD 1 ?_;refine PD 2 ?_;refine IY 3 (o*7) xv fp ?_;refine ta 4 rfl (aV (r:=o*7+2) rfl mp rfl eQ rfl rfl) ?_;refine IY 5 (o*7+2+q) jz aP ?_;refine LX 6 Y3 (.int .i64 ((((C[o]'(by omega)).given)[q]'(by omega)))) ?_ (hc:=by exact nA br C (i:=o) (2+q) (by omega) (by omega) (by omega) (MY (C[o]'(by omega)) q (by omega) (by omega) (j0 ((C[o]'(by omega)).given) (by omega))));refine PD 7 ?_;refine PD 8 ?_;refine IY 9 (q*7) xv fp ?_;refine ta 10 rfl (aV (r:=q*7+2) rfl mp rfl eQ rfl rfl) ?_;refine IY 11 (q*7+2+o) jz aP ?_;refine LX 12 Y3 (.int .i64 ((((C[q]'(by omega)).given)[o]'(by omega)))) ?_ (hc:=by exact nA br C (i:=q) (2+o) (by omega) (by omega) (by omega) (MY (C[q]'(by omega)) o (by omega) (by omega) (j0 ((C[q]'(by omega)).given) (by omega))));refine ta 13 rfl (iH (r:=(fM ((((C[o]'(by omega)).given)[q]'(by omega))- (((C[q]'(by omega)).given)[o]'(by omega))))) rfl rfl rfl rfl) ?_;refine ta 14 rfl (cg (r:=(fM (r3+(fM ((((C[o]'(by omega)).given)[q]'(by omega))- (((C[q]'(by omega)).given)[o]'(by omega))))))) rfl rfl rfl rfl) ?_;refine PD 15 ?_;refine DN (af (ac J23 (ad (AD ?_))));refine PS ?_;refine ap ?_
 exact aI ((o+1,(fM (r3+(fM ((((C[o]'(by omega)).given)[q]'(by omega))- (((C[q]'(by omega)).given)[o]'(by omega))))))):(Nat)×(Int)) ⟨by omega,by rw[w8,←hr3,wj _ (by omega),hq,wj _ hq5,←hE o (by omega),←hE q hq5]⟩ (by show 5- (o+1)<5-o;omega)
   SB
   (λ_ s=>ak [0,0,0] rfl s)
 refine nx J21 (ab λ_ J25=>CN (aS (ay (ay (bj (af (ac J17 (ad (AD ?_)))))))));refine PS ?_;refine ap ?_
 exact aI ((i+1,r3):(Nat)×(Int)) ⟨by omega,by
          have h5:o=5:=by omega
          rw[co (by omega),eM,←hr];show r3=og B key r _
          rw[hr3,h5,og,←hE2]⟩ (by show(fX (cu B who) who).length- (i+1)< (fX (cu B who) who).length-i;omega)
   SB
   (λ_ s=>ak [0,0,0] rfl s)
 refine nx J15 (ab λ_ J26=>CN (aS (ay (ay (bj (ac J13 (sr λ_ J27=>P2 ?_)))))));refine nx J27 (ai (WK [2] (au rfl rfl ?_)));obtain rfl:i=(fX (cu B who) who).length:=by omega
 exact⟨by rw[oC,if_pos h14,hr,hO],rfl⟩;refine PS ?_;refine nx J3 (CY (sr λ_ J28=>PS ?_));refine nx J28 (ai (ae (WK [0] (au rfl rfl ?_))));exact⟨by rw[oC,if_neg (by simp[h14])],rfl⟩
theorem lu(b off T:Nat)(cs:MirT→List Value)(hA:Arnd cs MirT.cells off)(M:MirT)(who:Int):
 DT 77 #[(.pointer (some ⟨b,off,none⟩)),(.int .i64 (who))] T0 [ag b (cs M) T] (RI (.agg (ints (c7 M who).flat).toArray) [ag b (cs M) T]):=by
 refine BD 15 Tryz.func77 rfl rfl rfl λw0 F hF=>sr λ_ J1=>XZ tk (ints RowT.zero.flat) λb4=>?_
 refine nx J1 (ab λ_ J2=>sr λ_ J3=>PS ?_);refine CE Eg (gX who) ID ?_;refine aW ?_ ?_<;>intro h6;have hm:0≤who∧who<5:=of_decide_eq_true h6;refine PS ?_;refine nx J3 (CN (qx J2 (sr λ_ J4=>P3 ?_)));refine tp (aV (r:=off) rfl DK rfl sO rfl rfl) ?_;refine IX (off+who.toNat*174) Gh aZ ?_;refine tp (aM (vs:=ints (M.rows[who.toNat]'(by omega)).flat) rfl dN rfl aZ rfl (RO 1) (ah (M.rows[who.toNat]'(by omega))) (M3 hA (j:=who.toNat*174) (by omega) (LB (pU _)) (MirT.sub_rows M (who.toNat*174) (by omega) (by omega) (kg dp M.rows (i:=who.toNat) 0 (by omega) (by omega) (by decide) (whole (ah (M.rows[who.toNat]'(by omega)))))))) ?_;refine SW 0 aZ ah ?_;refine nx J4 (ai (RC 0 [1] dN aZ (ah _) ?_));exact⟨by rw[c7,dif_pos h6],rfl⟩;refine PS ?_;refine nx J3 (CY (sr λ_ J5=>BV ((ints RowT.zero.flat).toArray) ?_));refine SW 0 aZ ah ?_;refine nx J5 (ai (ae (RC 0 [1] dN aZ (ah _) ?_)));exact⟨by rw[c7,dif_neg (by simp[h6])],rfl⟩
theorem mJ(b off T:Nat)(cs:MirT→List Value)(hA:Arnd cs MirT.cells off)(M:MirT)(who:Int):
 DT 78 #[(.pointer (some ⟨b,off,none⟩)),(.int .i64 (who))] T0 [ag b (cs M) T] (RI (.bool (e8 M who)) [ag b (cs M) T]):=by
 refine BD 15 Tryz.func78 rfl rfl rfl λw0 F hF=>sr λ_ J1=>PS ?_
 refine nx J1 (sr λ_ J2=>PS ?_);refine CE Eg (gX who) ID ?_;refine aW ?_ ?_<;>intro h6;have hm:0≤who∧who<5:=of_decide_eq_true h6;refine P4 ?_;refine tq (aV (r:=off+870) rfl DK rfl J0 rfl rfl) ?_;refine IX (off+870+who.toNat) KQ ka ?_;refine LT 0 Y4 (.bool ((M.sealed[who.toNat]'(by omega)))) ?_ (hc:=by exact Arnd.at hA (j:=870+who.toNat) (by omega) (LB (pU _)) (MirT.pt_sealed M (who.toNat) (by omega) (by omega) (Jj M.sealed (by omega))));refine P2 ?_;refine nx J2 (ai (WK [0] (au rfl rfl ?_)));exact⟨by simp[e8, *],rfl⟩;refine PS ?_
 iterate 6 refine UF ?_
 refine P2 ?_;refine nx J2 (ai (WK [0] (au rfl rfl ?_)));exact⟨by simp[e8, *],rfl⟩
theorem qh(b off T:Nat)(cs:MirT→List Value)(hA:Arnd cs MirT.cells off)(M:MirT)(who:Int)(x:RowT)(hx:WF x.flat):
 DT 160 #[(.pointer (some ⟨b,off,none⟩)),(.int .i64 (who)),(.agg (ints x.flat).toArray)] T0 [ag b (cs M) T] (RI (.bool (lr M who x)) [ag b (cs M) T]):=by
 refine BD 34 Tryz.func160 rfl rfl rfl λw0 F hF=>sr λ_ J1=>XY (ints x.flat) λb5=>?_
 refine PS ?_;refine nx J1 (ab λ_ J2=>D2 1 0 bh ?_);refine PD 0 ?_;refine AL 1 ?_;refine CE Eg (gX who) ID ?_;refine aW ?_ ?_<;>intro h8;have hm:0≤who∧who<5:=of_decide_eq_true h8;refine EN (PD 2 ?_);refine PD 3 ?_;refine PD 4 ?_;refine PD 5 ?_;refine tb 6 rfl (aV (r:=off+870) rfl DK rfl J0 rfl rfl) ?_;refine IY 7 (off+870+who.toNat) KQ ka ?_;refine LX 8 Y4 (.bool ((M.sealed[who.toNat]'(by omega)))) ?_ (hc:=by exact Arnd.at hA (j:=870+who.toNat) (by omega) (LB (pU _)) (MirT.pt_sealed M (who.toNat) (by omega) (by omega) (Jj M.sealed (by omega))));refine kM ?_ ?_<;>intro h15;refine PD 9 ?_;refine PD 10 ?_;refine PD 11 ?_;refine NT 12 ?_;refine NT 13 ?_;refine PD 14 ?_;refine PD 15 ?_;refine NT 16 ?_;refine NT 17 ?_;refine NT 18 ?_;refine NT 19 ?_;refine NT 20 ?_;refine NT 21 ?_;refine NT 22 ?_;refine NT 23 ?_;refine NT 24 ?_;refine NT 25 ?_;refine PD 26 ?_;refine PD 27 ?_;refine DN (ac J2 (ai (WK [1] (au rfl rfl ?_))));exact⟨by simp[lr,e8,c7, *],rfl⟩;refine PD 9 ?_;refine PD 10 ?_;refine PD 11 ?_;refine LY 12 dN aZ ah ?_;refine AL 13 ?_;refine CE FM (il x hx) ID ?_;refine aW ?_ ?_<;>intro h20;refine EN (PD 14 ?_);refine PD 15 ?_;refine FD 16 0 dN aP ?_;refine LR 17 Y3 (cB x rfl) ?_;refine PD 18 ?_;refine PD 19 ?_;refine PD 20 ?_;refine tb 21 rfl (aV (r:=off) rfl DK rfl sO rfl rfl) ?_;refine IY 22 (off+who.toNat*174) Gh aZ ?_;refine tb 23 rfl (aV (r:=off+who.toNat*174) rfl dN rfl aP rfl rfl) ?_
 refine LX 24 Y3 (.int .i64 ((M.rows[who.toNat]'(by omega)).version)) ?_ (hc:=by exact Arnd.at hA (j:=who.toNat*174) (by omega) (LB (pU _)) (MirT.pt_rows M (who.toNat*174) (by omega) (by omega) (nA dp M.rows (i:=who.toNat) 0 (by omega) (by omega) (by decide) (cB _ rfl))));refine PD 25 ?_;refine PD 26 ?_;refine PD 27 ?_;refine DN (ac J2 (ai (WK [1] (au rfl rfl ?_))));exact⟨by simp[lr,e8,c7, *],rfl⟩;refine EN (PD 14 ?_);refine PD 15 ?_;refine NT 16 ?_;refine NT 17 ?_;refine NT 18 ?_;refine NT 19 ?_;refine NT 20 ?_;refine NT 21 ?_;refine NT 22 ?_;refine NT 23 ?_;refine NT 24 ?_;refine NT 25 ?_;refine PD 26 ?_;refine PD 27 ?_;refine DN (ac J2 (ai (WK [1] (au rfl rfl ?_))));exact⟨by simp[lr,e8,c7, *],rfl⟩;refine EN (PD 2 ?_);refine NT 3 ?_;refine NT 4 ?_;refine NT 5 ?_;refine NT 6 ?_;refine NT 7 ?_;refine NT 8 ?_;refine NT 9 ?_;refine PD 10 ?_;refine PD 11 ?_;refine NT 12 ?_;refine NT 13 ?_;refine PD 14 ?_;refine PD 15 ?_;refine NT 16 ?_;refine NT 17 ?_;refine NT 18 ?_;refine NT 19 ?_;refine NT 20 ?_;refine NT 21 ?_;refine NT 22 ?_;refine NT 23 ?_;refine NT 24 ?_;refine NT 25 ?_;refine PD 26 ?_;refine PD 27 ?_;refine DN (ac J2 (ai (WK [1] (au rfl rfl ?_))));exact⟨by simp[lr,e8,c7, *],rfl⟩
theorem rV(b off T:Nat)(cs:MirT→List Value)(hA:Arnd cs MirT.cells off)(M:MirT)(who:Int)(x:RowT)(hx:WF x.flat):
 DT 131 #[(.pointer (some ⟨b,off,none⟩)),(.int .i64 (who)),(.agg (ints x.flat).toArray)] T0 [ag b (cs M) T] (RI (.bool (ma M who x).2) [ag b (cs (ma M who x).1) T]):=by
 refine BD 18 Tryz.func131 rfl rfl rfl λw0 F hF=>sr λ_ J1=>XY (ints x.flat) λb5=>?_
 refine PS ?_;refine nx J1 (ab λ_ J2=>sr λ_ J3=>P2 ?_);refine LW 0 dN aZ ah ?_;refine CE Jy (qh b off T cs hA M who x hx) (SM [1]) ?_;refine aW ?_ ?_<;>intro h10;have hm0:cF who=true:=by have:=h10;simp only[lr,av]at this;exact this.1.1.1
 have hm:0≤who∧who<5:=of_decide_eq_true hm0;refine PS ?_;refine nx J3 (CN (qx J2 (ab λ_ J4=>D1 1 bh ?_)));refine PD 0 ?_;refine PD 1 ?_;refine LY 2 dN aZ ah ?_;refine PD 3 ?_;refine ta 4 rfl (aV (r:=off) rfl DK rfl sO rfl rfl) ?_;refine IY 5 (off+who.toNat*174) Gh aZ ?_;refine AL 6 ?_;refine bF (vs:=ints x.flat) (i:=0) (aa rfl) rfl rfl rfl rfl rfl (by rw[(ah x)];exact aZ) (bu _) rfl rfl (by have h0:=(pU M);have h2:=Arnd.le hA M;have h1:=(ah x);omega) (Arnd.wr hA (x:=M) (x':=(MirT.mk (M.rows.set who.toNat x (by omega)) M.sealed)) (j:=who.toNat*174) (by omega) (LC (pU _) (ah _)) (MirT.wr_rows_ M (who.toNat*174) (by omega) (by have h1:=(ah x);omega) (tl dp M.rows (i:=who.toNat) 0 (by omega) (by omega) (by have h1:=(ah x);omega) (cm ((ah (M.rows[who.toNat]'(by omega))).trans (ah x).symm))))) rfl (ap (E1 1 (DN (ac J4 (sr λ_ J5=>PS ?_)))));refine nx J5 (ai (WK [0] (au rfl rfl ?_)));have e:ma M who x=(zq M who x,true):=by rw[ma,if_pos h10]
 exact⟨by rw[e],by rw[e,zq,dif_pos hm0];rfl⟩;refine PS ?_;refine nx J3 (CY (sr λ_ J6=>PS ?_));refine nx J6 (ai (ae (WK [0] (au rfl rfl ?_))));have e:ma M who x=(M,false):=by rw[ma,if_neg (by simp[h10])]
 exact⟨by rw[e],by rw[e];rfl⟩
theorem rU(b off T:Nat)(cs:MirT→List Value)(hA:Arnd cs MirT.cells off)(M:MirT)(who:Int):
 DT 132 #[(.pointer (some ⟨b,off,none⟩)),(.int .i64 (who))] T0 [ag b (cs M) T] (RI (.tuple #[.agg (ints (c7 M who).flat).toArray, .bool (cF who)]) [ag b (cs (nR M who)) T]):=by
 refine Leg.Does.body (vs:=[(.pointer (some ⟨b,off,none⟩)),(.int .i64 (who))]) (n:=21) Tryz.func132 rfl rfl rfl (λw0 F hF=>?_);refine sr λ_ J1=>?_
 refine lA (aa rfl) rfl rfl rfl tk (λb4=>?_);change TL _ _ _ _ _ _ _ _ _ [ag b4 (ints RowT.zero.flat) 60,ag b (cs M) T];refine oW ?_;refine nx J1 ?_;clear J1;refine ab λ_ J2=>?_
 refine sr λ_ J3=>?_
 refine mv ?_;refine gP (aa rfl) rfl rfl rfl Eg rfl (gX who) (λ_ s=>s) (λ_ _ _=>trivial) (λvR HR hR=>?_);obtain⟨rfl,rfl⟩:=hR;refine aW (λh7=>?_) (λh7=>?_);have hm:0≤who∧who<5:=of_decide_eq_true h7;refine tp (nY (r:=false) rfl rfl rfl) ?_;refine nx J3 ?_;clear J3;refine sz rfl ?_;refine aQ ?_;refine ac J2 ?_;clear J2;refine sr λ_ J4=>?_
 refine mv ?_;refine mv ?_;refine tp (fT rfl rfl) ?_;refine tp (aV (r:=off+870) rfl DK rfl J0 rfl rfl) ?_;refine tp (eF (r:=off+870+who.toNat) rfl KQ ka rfl rfl (by omega) (by omega) (by omega)) ?_;refine bv (i:=1) (aa rfl) rfl rfl rfl rfl rfl ka rfl rfl (by have h0:=(pU M);have h2:=Arnd.le hA M;omega) (Arnd.set hA (x:=M) (x':=(MirT.mk M.rows (M.sealed.set who.toNat true (by omega)))) (j:=870+who.toNat) (by omega) (by have h0:=(pU M);omega) (MirT.st_sealed M (who.toNat) (by omega) (by omega) (La M.sealed (by omega) _))) rfl ?_;refine nx J4 ?_;clear J4;refine sr λ_ J5=>?_
 refine mv ?_;refine mv ?_;refine tp (fT rfl rfl) ?_;refine tp (aV (r:=off) rfl DK rfl sO rfl rfl) ?_;refine tp (eF (r:=off+who.toNat*174) rfl Gh aZ rfl rfl (by omega) (by omega) (by omega)) ?_;refine tp (aM (vs:=ints (M.rows[who.toNat]'(by omega)).flat) rfl dN rfl aZ rfl (dG 1 rfl rfl) (ah (M.rows[who.toNat]'(by omega))) (M3 hA (j:=who.toNat*174) (by omega) (by have h0:=(pU (MirT.mk M.rows (M.sealed.set who.toNat true (by omega))));omega) (MirT.sub_rows (MirT.mk M.rows (M.sealed.set who.toNat true (by omega))) (who.toNat*174) (by omega) (by omega) (kg dp M.rows (i:=who.toNat) 0 (by omega) (by omega) (by decide) (whole (ah (M.rows[who.toNat]'(by omega)))))))) ?_;refine bF (vs:=ints (M.rows[who.toNat]'(by omega)).flat) (i:=0) (aa rfl) rfl rfl rfl rfl rfl (by rw[(ah (M.rows[who.toNat]'(by omega)))];exact aZ) (bu _) rfl rfl (by have h0:=(ah RowT.zero);have h1:=(ah (M.rows[who.toNat]'(by omega)));omega) (cm ((ah RowT.zero).trans (ah (M.rows[who.toNat]'(by omega))).symm)) rfl ?_;refine oW ?_;refine nx J5 ?_;clear J5;refine ai ?_;refine lB (H':=[ag b (cs (MirT.mk M.rows (M.sealed.set who.toNat true (by omega)))) T]) rfl rfl rfl dN rfl aZ (dG 0 rfl rfl) (ah (M.rows[who.toNat]'(by omega))) (λ_ s=>ak [1] rfl s) ?_;exact⟨by simp[c7, *],by simp[nR, *]⟩;refine tp (nY (r:=true) rfl rfl rfl) ?_;refine nx J3 ?_;clear J3;refine iG rfl ?_;refine sr λ_ J6=>?_
 refine tp (jL (cells:=(ints RowT.zero.flat).toArray) rfl rfl (by as_aux_lemma=>kernel_rfl)) ?_;refine bF (vs:=ints RowT.zero.flat) (i:=0) (aa rfl) rfl rfl rfl rfl rfl (by rw[(ah RowT.zero)];exact aZ) (bu _) rfl rfl (by have h0:=(ah RowT.zero);have h1:=(ah RowT.zero);omega) (cm ((ah RowT.zero).trans (ah RowT.zero).symm)) rfl ?_;refine oW ?_;refine nx J6 ?_;clear J6;refine ai ?_;refine ae ?_;clear J2;refine lB (H':=[ag b (cs M) T]) rfl rfl rfl dN rfl aZ (dG 0 rfl rfl) (ah RowT.zero) (λ_ s=>ak [1] rfl s) ?_;exact⟨by simp[c7, *],by simp[nR, *]⟩
end Go.Proofs.YtjblgopghhgflaaGreat
end

section
namespace Api
open Go Leg Codec
def e6(k:Int):Bool:=decide (k=0∨k=2∨k=9)
def ff(k:Int):Bool:=decide (k=3∨k=6)
def cI:Ps (MsgT×Bool):=pb (fc 10) λk=>
 if e6 k then pb (fc 5) λw=>pb ub λx=>pr (⟨k,w,x,0,0, .zero, .zero, .zero, .zero⟩,gz x)
 else if k=1 then pb mX λn=>pr (⟨k,0, .zero,n,0, .zero, .zero, .zero, .zero⟩,true)
 else if ff k then pb mX λn=>pb jS λb=>pr (⟨k,0, .zero,0,n,b, .zero, .zero, .zero⟩,true)
 else if k=4 then pb mX λn=>pb jS λb=>pb jS λd=>pb k9 λc=>pr (⟨k,0, .zero,0,n,b,d,c, .zero⟩,true)
 else if k=5 then pb mX λn=>pb jS λb=>pb k9 λc=>pr (⟨k,0, .zero,0,n,b, .zero,c, .zero⟩,true)
 else if k=7 then pb mu λv=>pr (⟨k,0, .zero,0,0, .zero, .zero, .zero,v⟩,ko v)
 else if k=8 then pb (fc 5) λw=>pb mu λv=>pr (⟨k,w, .zero,0,0, .zero, .zero, .zero,v⟩,ko v)
 else pr (⟨k,0, .zero,0,0, .zero, .zero, .zero, .zero⟩,true)
def dd:Ps (RecT×Bool):=pb (fc 6) λk=>
 if k=0 then pb ub λx=>pr (⟨k,0,x,0, .zero, .zero, .zero⟩,gz x)
 else if k=1 then pb (fc 5) λw=>pb ub λx=>pr (⟨k,w,x,0, .zero, .zero, .zero⟩,gz x)
 else if k=2 then pb (fc 5) λw=>pr (⟨k,w, .zero,0, .zero, .zero, .zero⟩,true)
 else if k=3 then pb mX λn=>pb jS λb=>pr (⟨k,0, .zero,n,b, .zero, .zero⟩,true)
 else if k=4 then pb mX λn=>pb jS λb=>pb k9 λc=>pr (⟨k,0, .zero,n,b,c, .zero⟩,true)
 else if k=5 then pb mu λv=>pr (⟨k,0, .zero,0, .zero, .zero,v⟩,ko v)
 else pr (⟨k,0, .zero,0, .zero, .zero, .zero⟩,true)
def jy(bs:List UInt8):MsgT×Int:=match cI bs with
 |some ((m,true),[])=>(m,0)
 |_=>(.zero,1)
def nq(bs:List UInt8):RecT×Int:=match dd bs with
 |some ((m,true),[])=>(m,0)
 |_=>(.zero,1)
def dU(m:MsgT):List UInt8:=
 if e6 m.kind then bf [m.kind,m.whose]++g9 m.row
 else if m.kind=1 then bf [m.kind,m.version]
 else if ff m.kind then bf [m.kind,m.epoch]++bf m.ballot.flat
 else if m.kind=4 then bf [m.kind,m.epoch]++bf m.ballot.flat++bf m.had.flat++bf m.change.flat
 else if m.kind=5 then bf [m.kind,m.epoch]++bf m.ballot.flat++bf m.change.flat
 else if m.kind=7 then bf [m.kind]++bf m.view.flat
 else if m.kind=8 then bf [m.kind,m.whose]++bf m.view.flat
 else []
def jG(m:RecT):List UInt8:=
 if m.kind=0 then bf [m.kind]++g9 m.row
 else if m.kind=1 then bf [m.kind,m.whose]++g9 m.row
 else if m.kind=2 then bf [m.kind,m.whose]
 else if m.kind=3 then bf [m.kind,m.epoch]++bf m.ballot.flat
 else if m.kind=4 then bf [m.kind,m.epoch]++bf m.ballot.flat++bf m.change.flat
 else if m.kind=5 then bf [m.kind]++bf m.view.flat
 else []
theorem rm{v:ViewT}{bs r:List UInt8}(h:mu bs=some (v,r)):Rng v:=λi hi=>by
 have:=(sJ h).1.2.2 i hi;exact⟨this.1,by omega⟩
theorem y3{x:RowT}{bs r:List UInt8}(h:ub bs=some (x,r)):WF x.flat:=(vu h).1.wf
def Nm(n:Int):Prop:=0≤n∧n<9223372036854775808
def OkB(b:BallotT):Prop:=Nm b.round∧0≤b.who∧b.who<5
def OkC(c:ChangeT):Prop:=(0≤c.kind∧c.kind<2)∧(0≤c.who∧c.who<5)∧(0≤c.heir∧c.heir<5)
def N8(v:ViewT):Prop:=Nm v.epoch∧(0≤v.members∧v.members<32)∧∀(i:Nat) (h:i<5),0≤v.heirs[i]∧v.heirs[i]<6
structure OkM(m:MsgT):Prop where
 kind:0≤m.kind∧m.kind<10
 whose:0≤m.whose∧m.whose<5
 row:TameR m.row
 version:Nm m.version
 epoch:Nm m.epoch
 ballot:OkB m.ballot
 had:OkB m.had
 change:OkC m.change
 view:N8 m.view
theorem KA(i:Nat)(hi:i<5):RowT.zero.heir[i]=0:=by match i,hi with|0,_|1,_|2,_|3,_|4,_=>rfl
theorem HL(k:Nat)(hk:k<4):RowT.zero.cells[k]=CellT.zero:=by match k,hk with|0,_|1,_|2,_|3,_=>rfl
theorem C4(i:Nat)(hi:i<5):RowT.zero.left[i]=RowT.zero.cells:=by match i,hi with|0,_|1,_|2,_|3,_|4,_=>rfl
theorem tame_rzero:TameR RowT.zero:=⟨⟨by decide,by decide⟩,λk hk=>by rw[HL k hk];exact sL,λi hi=>by rw[KA i hi];decide,λi k hi hk=>by rw[show RowT.zero.left[i][k]=RowT.zero.cells[k]from by rw[C4 i hi],HL k hk];exact sL,λi hi _=>by rw[C4 i hi,C4 0 (by decide)]⟩
def CJ(m:RecT):Bool:=if m.kind=0∨m.kind=1 then gz m.row else if m.kind=5 then ko m.view else true
structure OkRc(m:RecT):Prop where
 kind:0≤m.kind∧m.kind<6
 whose:0≤m.whose∧m.whose<5
 row:TameR m.row
 epoch:Nm m.epoch
 ballot:OkB m.ballot
 change:OkC m.change
 view:N8 m.view
theorem GR{m:RecT}{g:Bool}{bs r:List UInt8}(h:dd bs=some ((m,g),r)):bs=jG m++r∧CJ m=g∧(0≤m.kind∧m.kind<6)∧(0≤m.whose∧m.whose<5)∧TameR m.row:=by
 obtain⟨k,r1,h1,h2⟩:=bD h;clear h;obtain⟨k1,rfl⟩:=da h1;have tz:=tame_rzero;have kz:(0:Int)≤0∧(0:Int)<5:=by omega
 by_cases c0:k=0
 · simp only[if_pos c0]at h2
   subst c0;obtain⟨x,r3,h5,h6⟩:=bD h2;obtain⟨k5,rfl⟩:=vu h5;obtain⟨e,rfl⟩:=gW h6;injection e with e1 e2;subst e1;subst e2
   exact⟨by simp[jG,bf],by simp[CJ],⟨k1.1,k1.2.1⟩,kz,k5⟩
 simp only[if_neg c0]at h2
 by_cases c1:k=1
 · simp only[if_pos c1]at h2
   subst c1;obtain⟨w,r2,h3,h4⟩:=bD h2;obtain⟨k3,rfl⟩:=da h3;obtain⟨x,r3,h5,h6⟩:=bD h4;obtain⟨k5,rfl⟩:=vu h5;obtain⟨e,rfl⟩:=gW h6;injection e with e1 e2;subst e1;subst e2
   exact⟨by simp[jG,bf],by simp[CJ],⟨k1.1,k1.2.1⟩,⟨k3.1,k3.2.1⟩,k5⟩
 simp only[if_neg c1]at h2
 by_cases c2:k=2
 · simp only[if_pos c2]at h2
   subst c2;obtain⟨w,r2,h3,h4⟩:=bD h2;obtain⟨k3,rfl⟩:=da h3;obtain⟨e,rfl⟩:=gW h4;injection e with e1 e2;subst e1;subst e2
   exact⟨by simp[jG,bf],by simp[CJ],⟨k1.1,k1.2.1⟩,⟨k3.1,k3.2.1⟩,tz⟩
 simp only[if_neg c2]at h2
 by_cases c3:k=3
 · simp only[if_pos c3]at h2
   subst c3;obtain⟨n,r2,h3,h4⟩:=bD h2;obtain⟨_,_,rfl⟩:=kR h3;obtain⟨b,r3,h5,h6⟩:=bD h4;obtain⟨_,rfl⟩:=pQ h5;obtain⟨e,rfl⟩:=gW h6;injection e with e1 e2;subst e1;subst e2
   exact⟨by simp[jG,bf],by simp[CJ],⟨k1.1,k1.2.1⟩,kz,tz⟩
 simp only[if_neg c3]at h2
 by_cases c4:k=4
 · simp only[if_pos c4]at h2
   subst c4;obtain⟨n,r2,h3,h4⟩:=bD h2;obtain⟨_,_,rfl⟩:=kR h3;obtain⟨b,r3,h5,h6⟩:=bD h4;obtain⟨_,rfl⟩:=pQ h5;obtain⟨c,r5,h9,h10⟩:=bD h6;obtain⟨_,rfl⟩:=tT h9;obtain⟨e,rfl⟩:=gW h10;injection e with e1 e2;subst e1;subst e2
   exact⟨by simp[jG,bf],by simp[CJ],⟨k1.1,k1.2.1⟩,kz,tz⟩
 simp only[if_neg c4]at h2;have c5:k=5:=by omega
 simp only[if_pos c5]at h2;subst c5;obtain⟨v,r3,h5,h6⟩:=bD h2;obtain⟨_,rfl⟩:=sJ h5;obtain⟨e,rfl⟩:=gW h6;injection e with e1 e2;subst e1;subst e2
 exact⟨by simp[jG,bf],by simp[CJ],⟨k1.1,k1.2.1⟩,kz,tz⟩
theorem Rng.zeros{v:ViewT}(h:v.heirs= #v[0,0,0,0,0]):Rng v:=λi hi=>by
 have:v.heirs[i]=0:=by
  rw[show v.heirs[i]=(#v[0,0,0,0,0]:Vector Int 5)[i]from by rw[h]]
  match i,hi with|0,_|1,_|2,_|3,_|4,_=>rfl
 omega
theorem Rng.zero:Rng ViewT.zero:=Rng.zeros rfl
theorem Rng.first:Rng firstV:=Rng.zeros rfl
structure GoodV(v:ViewT):Prop where
 epoch:1≤v.epoch
 mem:1≤v.members∧v.members<32
 ok: ∀(i:Nat) (h:i<5),Jq v v.heirs[i] i=true
 rng:Rng v
def vv(x:RepT):MsgT:= {MsgT.zero with kind:=0,whose:=x.id,row:=x.own}
def rQ(id:Int)(x:RowT):MsgT:= {MsgT.zero with kind:=2,whose:=id,row:=x}
def zR(k w:Int):Bool:=decide (k.fdiv (2^min w.toNat IntKind.i64.bits)%2=0)
def pj(x:RepT):List SaidT:=((gE x.id).filter λw=>zR x.kept w).map λw=>⟨w,vv x⟩
end Api
namespace Api
open Go Leg Codec
def gM(x:RepT)(o:OpT):RowT×Int:=
 if o.kind=0 then px x.own o.key o.n else if o.kind=1 then py x.own o.key o.n else if o.kind=2 then(if o.to'≠x.id then l8 x.own o.key o.n o.to' else(.zero,5))else(.zero,5)
def j6(x:RepT)(o:OpT):RowT×Int×Int:=
 if iD x.view x.id=false then(.zero,0,9)else if mL o.key=false then(.zero,0,5)else if o.kind=3 then(.zero,mo x.book o.key,0)else if x.busy then(.zero,0,8)
 else if(gM x o).2≠0 then(.zero,0,(gM x o).2)else if o.kind≠0∧oC x.book x.id o.key<o.n then(.zero,0,7)else((gM x o).1,0,0)
def kn(y:RowT):RecT:= {RecT.zero with kind:=0,row:=y}
end Api
namespace Api
open Go Leg Codec
end Api
namespace Api
open Go Leg Codec
end Api
namespace Api
open Go Leg Codec
end Api
namespace Api
open Go Leg Codec
end Api
end

section
namespace Leg
open Go Go.ChangeShapes Go.WideShapes Codec Api
section
variable {P:Program} {W:World} {H:Type} {enc:TypeId×Value→H} {B0:Nat} {spare:Nat→Bool} {held:Bool}
theorem Ch{t:TypeId}{fuel:Nat}{cs:List Value}{x:DataW H×List MemPlace}(ht:P.underlying t=some .bool)(h:DataW.trod enc P W B0 spare held fuel t cs=some x): ∃b,cs=[.bool b]:=by
 cases fuel with
 |zero=>simp[DataW.trod]at h
 |succ n=>
  unfold DataW.trod at h;rw[ht]at h;split at h<;>simp_all
theorem Fits.append{a b:List (Option IntKind)}{x y:List Lit}(h:Fits a x)(g:Fits b y):Fits (a++b) (x++y):=
 ⟨by rw[cQ,cQ,h.1,g.1],λl hl=>(ez.1 hl).elim (h.2 l) (g.2 l)⟩
theorem yp{d:Nat}(ih: ∀t ks,kK P d t=some ks→∀fuel cs x,DataW.trod enc P W B0 spare held fuel t cs=some x→∃ls,Fits ks ls∧cs=ls.map gU)(cs:List Value)(n:Nat):
 ∀(fs:List Field) (o:Nat) (ks:List (Option IntKind)),pI P (kK P d) fs o=some ks→cs.length=o+ks.length→
  (∀f∈fs,∃y,DataW.trod enc P W B0 spare held n f.type ((cs.drop f.offset).take (P.cellsOf f.type))=some y)→∃ls,Fits ks ls∧cs.drop o=ls.map gU
 | [],o,ks,h,hl,_=>by
  simp only[pI,Option.some.injEq]at h;subst h;exact⟨[],⟨rfl,λ_ h=>by cases h⟩,by rw[cD (by simpa using cM hl)];rfl⟩
 |f::fs,o,ks,h,hl,hf=>by
  simp only[pI]at h;split at h
  · rename_i c hc
    split at h
    · rename_i hh
      obtain⟨m,hm,rfl⟩:=Option.map_eq_some_iff.1 h;rw[aj]at hl;obtain⟨y,hy⟩:=hf f (by simp);rw[hh.1,hh.2]at hy;obtain⟨l1,f1,e1⟩:=ih f.type c hc n _ _ hy;obtain⟨l2,f2,e2⟩:=yp ih cs n fs (o+c.length) m hm (by omega) (λg hg=>hf g (by simp[hg]));refine⟨l1++l2,f1.append f2,?_⟩;rw[cQ,←e1,←e2,←jN];exact(kH _ _).symm
    · cases h
  · cases h
theorem flat_in: ∀(d:Nat) (t:TypeId) (ks:List (Option IntKind)),kK P d t=some ks→∀fuel cs x,DataW.trod enc P W B0 spare held fuel t cs=some x→∃ls,Fits ks ls∧cs=ls.map gU
 |0,_,_,h=>by simp[kK]at h
 |d+1,t,ks,h=>λfuel cs x hx=>by
  have ih:=flat_in d;simp only[kK]at h;split at h
  · rename_i q hu
    simp only[Option.some.injEq]at h;subst h;obtain⟨n,rfl,_,hw⟩:=DataW.trod_int hu hx;exact⟨[.int q n],⟨rfl,by simpa using hw⟩,rfl⟩
  · rename_i hu
    simp only[Option.some.injEq]at h;subst h;obtain⟨b,rfl⟩:=Ch hu hx;exact⟨[.bool b],⟨rfl,by simp[Lit.wf]⟩,rfl⟩
  · rename_i n e hu
    split at h
    · rename_i c hc
      split at h
      · rename_i hh
        simp only[Option.some.injEq]at h;subst h;obtain⟨xs,m,_,_,hl,hxl,hxi⟩:=DataW.trod_array hu hx;rw[hh.2]at hl
        have each: ∀k,k≤n→∃ls,Fits (List.replicate k c).flatten ls∧cs.take (k*c.length)=ls.map gU:=by
         intro k
         induction k with
         |zero=>intro _;exact⟨[],⟨rfl,λ_ h=>by cases h⟩,by simp⟩
         |succ k ihk=>
          intro hk;obtain⟨l1,f1,e1⟩:=ihk (by omega);have hy:=hxi k (by omega);rw[List.getElem?_eq_getElem (by omega),hh.1]at hy;obtain⟨l2,f2,e2⟩:=ih e c hc m _ _ hy;refine⟨l1++l2,?_,?_⟩
          · rw[List.replicate_succ',List.flatten_append]
            simpa using f1.append f2
          · rw[cQ,←e1,←e2,fD,Nat.one_mul,List.take_add]
        obtain⟨ls,f,e⟩:=each n (aK _);rw[aB (by omega)]at e;exact⟨ls,f,e⟩
      · cases h
    · cases h
  · rename_i fs hu
    split at h
    · rename_i m' hc
      split at h
      · rename_i hh
        simp only[Option.some.injEq]at h;subst h;obtain⟨xs,m,_,_,hl,hxl,hxi⟩:=DataW.trod_struct hu hx
        have:=yp (λt ks h=>ih t ks h) cs m fs.toList 0 _ hc (by rw[hl,hh.1,bk]) (λf hf=>by
         obtain⟨i,hi⟩:=List.getElem?_of_mem hf;have hi':fs[i]?=some f:=by simpa using hi
         have:=hxi i f hi';have hlt:=(Array.getElem?_eq_some_iff.1 hi').1;rw[List.getElem?_eq_getElem (by omega)]at this
         exact⟨_,this⟩)
        simpa using this
      · cases h
    · cases h
  · cases h
theorem fits_ints{c:Nat}{ls:List Lit}(h:Fits (List.replicate c (some .i64)) ls): ∃l,ls=mY l∧l.length=c∧WF l:=by
 obtain⟨h1,h2⟩:=h
 have e: ∀x∈ls,∃n,x= .int .i64 n:=λx hx=>by
  have:yi x∈ls.map yi:=List.mem_map_of_mem hx;rw[h1,List.map_replicate]at this;have:=List.eq_of_mem_replicate this;cases x<;>simp only[yi,Option.some.injEq,reduceCtorEq]at this;subst this;exact⟨_,rfl⟩
 refine⟨ls.map λx=>match x with| .int _ n=>n|_=>0,?_,?_,?_⟩
 · rw[mY,Oh]
   conv=>lhs;rw[←List.map_id ls]
   refine dM λx hx=>?_
   obtain⟨n,rfl⟩:=e x hx;rfl
 · have:=congrArg List.length h1
   simpa using this
 · intro n hn
   obtain⟨x,hx,rfl⟩:=eX.1 hn;obtain⟨n,rfl⟩:=e x hx;exact h2 _ hx
theorem litI_cells(l:List Int):(mY l).map gU=ints l:=by simp[mY,ints,gU]
theorem xr{a:Addr}{v:Value}(h:W.cell? a=some v): ∃b o cs T z,a=⟨b,o,none⟩∧W.heap[b]?=some (.cells (List.toArray cs) T z)∧cs[o]?=some v:=by
 obtain⟨b,o,s⟩:=a;simp only[World.cell?]at h;split at h
 · rename_i cs T z hb
   cases s with
   |some s=>simp at h
   |none=>exact⟨b,o,cs.toList,T,z,rfl,by simpa using hb,by simpa using h⟩
 · cases h
theorem Hr{t e:TypeId}{fuel size:Nat}{α:Type}{E:List Value→α→Hl→Prop}{cs:List Value}{x:DataW H×List MemPlace}(ht:P.underlying t=some (.slice e))(hc:P.cellsOf e=size)(hs:0<size)
 (hE: ∀fuel cs x,DataW.trod enc P W B0 spare held fuel e cs=some x→∃a,E cs a (hp W)) (h:DataW.trod enc P W B0 spare held fuel t cs=some x): ∃u l,cs=[u]∧IsL size E u l (hp W):=by
 classical
 rcases Deep.open_slice ht h with⟨rfl,_⟩| ⟨a,len,cap,m,n,D,Pl,rfl,_,hl,hm,hmm,_,hx⟩
 · exact⟨_,[],rfl, .inl ⟨rfl,rfl⟩⟩
 · have hlm:len≤m:=by rw[hmm];split<;>omega
   by_cases h0:len=0
   · subst h0
     exact⟨_,[],rfl, .inr (.inl ⟨a,cap,rfl,rfl⟩)⟩
   · have first: ∃v,W.cell? a=some v:=by
      obtain⟨cs',h1,_⟩:=hx 0 (by omega);obtain⟨_,h2,h3⟩:=World.cells?_some h1;have:=h3 0 (by omega);rw[gj,show(a.add 0).add 0=a from rfl,List.getElem?_eq_getElem (by omega)]at this;exact⟨_,this⟩
     obtain⟨v,hv⟩:=first;obtain⟨b,o,bs,T,z,rfl,hb,_⟩:=xr hv
     have each: ∀i,i<len→∃us,us.length=size∧(bs.drop (o+i*size)).take size=us∧∃x,E us x (hp W):=λi hi=>by
      obtain⟨cs',h1,h2⟩:=hx i (by omega);obtain⟨_,h3,h4⟩:=World.cells?_some h1;rw[hc]at h3 h4;refine⟨cs',h3,?_,hE _ _ _ h2⟩;apply List.ext_getElem?;intro k;rw[List.getElem?_take];split
      · rename_i hk
        have:=h4 k hk;rw[pS,pS]at this;simp only[World.cell?,hb,Option.isSome_none,Bool.false_eq_true,if_false]at this;rw[List.getElem?_drop]
        simpa using this
      · rw[List.getElem?_eq_none (by omega)]
     obtain⟨f,hf⟩: ∃f:Nat→α,∀i,i<len→E ((bs.drop (o+i*size)).take size) (f i) (hp W):=by
      have each': ∀i,i<len→∃x,E ((bs.drop (o+i*size)).take size) x (hp W):=λi hi=>by
       obtain⟨us,_,e2,q⟩:=each i hi;rw[e2];exact q
      obtain⟨x,_⟩:=each' 0 (by omega)
      haveI:Inhabited α:=⟨x⟩
      exact Deep.choose_lt each'
     refine⟨_,(List.range len).map f,rfl, .inr (.inr ⟨b,o,cap,bs,T,z,by simp,by simpa using hl,by simpa [maxLen]using hm,hb,λj hj=>?_⟩)⟩;have hj':j<len:=by simpa using hj
     obtain⟨us,e1,e2,_⟩:=each j hj';exact⟨us,e1,e2,by rw[←e2];simpa using hf j hj'⟩
theorem listV_in{t e:TypeId}{size:Nat}{α:Type}{E:List Value→α→Hl→Prop}{v:Value}{d:DataW H}{ps:List MemPlace}(ht:P.underlying t=some (.slice e))(hc:P.cellsOf e=size)(hs:0<size)(hv:Value.okWide P W .any B0 t v)
 (hE: ∀fuel cs x,DataW.trod enc P W 0 spare held fuel e cs=some x→∃a,E cs a (hp W)) (hd:DataW.Trod enc P W 0 spare held t v d ps): ∃l,IsL size E v l (hp W):=by
 obtain⟨fuel,hf⟩:=hd;obtain⟨u,l,h1,h2⟩:=Hr ht hc hs hE hf;obtain⟨a,len,cap,rfl⟩:=WideShapes.okWide_slice ht hv;simp[Value.cells]at h1;subst h1;exact⟨l,h2⟩
end
section
variable {P:Program} {w0:World} {F:Hl} {n:Nat} {ops:Array Oper} {Q:QQ} {D:List Deferred} {L:List (Nat×Value)} {H:List HP} {o:Oper} {l:List Oper} {d:Nat} {S:World→Prop}
def wU(P:Program)(t:TypeId)(rv:Value)(nm:String)(f:FuncId):Prop:=∀w,(method (P.types.size+Made.depth) t rv nm).run P w= .ok (f,rv) w
theorem TL.callI{recv:Operand}{nm:String}{t:TypeId}{rv:Value}{f:FuncId}{xs:Array Operand}{ts:Array TypeId}{vs:List Value}{R:Hl→Prop}{A B:List HP}{p:Value→List HP→Prop}(hw:Want n D ops o L)
 (ho:o.op= .call {callee:= .invoke recv nm,args:=xs,argTypes:=ts}) (hd:o.dst=some d) (hn:Nat.blt d n=true) (hr:cy L recv=some (.iface t rv)) (hm:wU P t rv nm f) (hf:Named P f) (hx:zy L xs.toList=some vs)
 (sp:Does P f (rv::vs).toArray R A (c9 p)) (hp: ∀h,bC H h→bC (A++B) h) (hR: ∀g,Dj g F→bC B g→R (jn g F))
 (hret: ∀v H',p v H'→TL P w0 F n ops Q l D ((d,v)::L) (H'++B)):TL P w0 F n ops Q (o::l) D L H:=
 TL.callw hw (λa w g=>by
  have e:xs.map a.eval=vs.toArray:=g.evals hx;have e2:a.eval recv= .iface t rv:=g.eval hr;have e3:=hm w
  simp[execOp,ho,resolve,invoke,callMethod,e,e2,e3,l7 hf])
  sp hp hR (λv H' q a g w s m=>by rw[hd];exact hret v H' q _ w (g.put (lb hn) v) s m) (λ_ _ h=>h.elim) (λ_ h=>h)
theorem TE.retCTT{H':List HP}{fn:Func}{post:Ending→List HP→Prop}{t t' t2 ty e m b:Nat}{cs:List Value}{z:Nat×Nat}{dt:TypeDesc}{v' v2:Value}(hr:fn.results=#[.cell t ty, .tmp t', .tmp t2])(he:lk L t=some (.pointer (some ⟨b,0,none⟩)))(e':lk L t'=some v')(e2:lk L t2=some v2)
 (hu:P.underlying ty=some dt) (hp:eg dt=false) (hm:(P.info? ty).map (·.size)=some m) (hR:Rd (Sat H F) b (.cells cs.toArray e z)) (hl:cs.length=m) (hk: ∀h,bC H h→bC H' h)
 (h:post (.returned (.tuple #[.agg cs.toArray,v',v2])) H'):TE w0 F n (bodyPost P fn (jw post w0 F)) .ret [] L H:=λa w f s q=>by
 have h1:a.tmps.getD t undef= .pointer (some ⟨b,0,none⟩):=f.eval (x:= .tmp t) he;have h2:a.tmps.getD t' undef=v':=f.eval (x:= .tmp t') e';have h4:a.tmps.getD t2 undef=v2:=f.eval (x:= .tmp t2) e2
 have h3:(results fn a.tmps).run P w= .ok (.tuple #[.agg cs.toArray,v',v2]) w:=by
  have h1':a.tmps[t]?.getD undef= .pointer (some ⟨b,0,none⟩):=by simpa using h1
  have h2':a.tmps[t']?.getD undef=v':=by simpa using h2
  have h4':a.tmps[t2]?.getD undef=v2:=by simpa using h4
  simp[results,hr,h1',h2',h4',asAddr,run_loadVar_row w b e ty cs.toArray z dt (hR w q) hu (by cases dt<;>simp[eg]at hp ⊢) (by simp[hm,hl])]
 exact bodyPost_ret h3 f.2.1 ⟨s,H',q.mono hk,h⟩
theorem PV.ifaceNotNil{t t' u:TypeId}{x:Operand}{v:Value}{ms:Array (String×TypeId)}(ho:o.op= .binOp .neq t x (.const .nilIface) t')(ht:P.underlying t=some (.interface ms))(hx:cy L x=some (.iface u v)):PV P n D L S o (.bool true):=
 fF ho hx rfl λw=>by
  have:=qj (P:=P) (w:=w) 9999 (u:=u) (v:=v) ht;simp[eqGuard,binOp,Op.equal,Op.maxDepth,this]
end
theorem Er(i:Nat){v:Value}{l:List Int}{e:Nat}{B:List HP}{F:Hl}(hi:Nat.blt i B.length=true)(hH:B.getD i (λ_=>True)=own v l.length (Api.ints l) e 1): ∀g,Dj g F→bC B g→IsI .i64 v l (jn g F):=λg _ s=>by
 obtain⟨h1,h2,d',rfl,a,_⟩:=eO i (lb hi) s;rw[hH]at a;rcases a with⟨_,⟨h0,hn,_⟩| ⟨g,cap,cur,hv,hh,h3,h4,h5,h6⟩⟩
 · exact .inl ⟨h0,List.eq_nil_of_length_eq_zero hn⟩
 · refine .inr ⟨g,0,cap,cur.toList,e,(0,0),hv,h3,by simp only[maxLen]at h4;omega,gH (gH (by rw[hh];simp[sg])),λj hj=>?_⟩
   rw[fC]at h6;have e1:(cur.toList.take l.length)[j]?=some (.int .i64 (l.getD j 0)):=by rw[h6];exact Api.ints_get l j hj
   rw[List.getElem?_take,if_pos hj]at e1
   simpa using e1
variable {P:Program} {w0:World} {F:Hl} {n:Nat} {ops:Array Oper} {Q:QQ} {D:List Deferred} {L:List (Nat×Value)} {H:List HP} {d:Nat} {o:Oper} {l:List Oper}
theorem RU{fn:Func}{post:Ending→List HP→Prop}{t t' t2 ty e m b:Nat}{cs:List Value}{dt:TypeDesc}{v' v2:Value}(k:Nat)(is:List Nat)(hu:P.underlying ty=some dt)(hm:(P.info? ty).map (·.size)=some m)(hl:cs.length=m)(h:post (.returned (.tuple #[.agg cs.toArray,v',v2])) ((AO H is).take is.length))(hr:fn.results=#[.cell t ty, .tmp t', .tmp t2]:=by exact rfl)(he:lk L t=some (.pointer (some ⟨b,0,none⟩)):=by exact rfl)(e':lk L t'=some v':=by exact rfl)(e2:lk L t2=some v2:=by exact rfl)(hp:eg dt=false:=by exact rfl)(hk:Nat.blt k H.length=true:=by exact rfl)(hH:H.getD k (λ_=>True)=ag b cs e:=by exact rfl)(hs:IC H.length is=true:=by exact rfl):TE w0 F n (bodyPost P fn (jw post w0 F)) .ret [] L H:=TE.retCTT hr he e' e2 hu hp hm (dG k hk hH) hl (λ_ s=>ak is hs s) h
end Leg
end

section
namespace Dsk
open Go Leg Codec Api
abbrev jK:=List UInt8
def zs:jK:=List.replicate 64 0
def AP(b:jK):Value:= .agg (dY b).toArray
abbrev fx:=List (Int×jK)
def it(s:fx)(k:Int):jK:=match s with
 | []=>zs
 | (a,b)::s=>if k=a then b else it s k
def nG(s:fx)(k:Int)(v:jK):fx:=match s with
 | []=>[(k,v)]
 | (a,b)::s=>if k=a then(a,v)::s else(a,b)::nG s k v
theorem GG(s:fx)(k j:Int)(v:jK):it (nG s k v) j=if j=k then v else it s j:=by
 induction s with
 |nil=>simp[nG,it]
 |cons p s ih=>
  obtain⟨a,b⟩:=p;simp only[nG]
  by_cases h:k=a
  · subst h
    rw[if_pos rfl]
    by_cases h2:j=k
    · simp[it,h2]
    · simp[it,h2]
  · rw[if_neg h]
    simp only[it]
    by_cases h2:j=a
    · subst h2
      rw[if_pos rfl,if_pos rfl,if_neg (by omega)]
    · rw[if_neg h2,if_neg h2,ih]
def qN(s:fx):List (Int×Value):=s.map λp=>(p.1,AP p.2)
theorem wg(s:fx)(k:Int):(FV (qN s) k).getD (AP zs)=AP (it s k):=by
 induction s with
 |nil=>rfl
 |cons p s ih=>
  obtain⟨a,b⟩:=p;simp only[qN,fo,FV,it]at ih ⊢;split
  · rfl
  · exact ih
theorem Hu(s:fx)(k:Int)(v:jK):we (qN s) k (AP v)=qN (nG s k v):=by
 induction s with
 |nil=>rfl
 |cons p s ih=>
  obtain⟨a,b⟩:=p;simp only[qN,fo,we,nG]at ih ⊢;split
  · rfl
  · rw[ih];rfl
def cR(p:Int×jK):List Value:= .int .i64 p.1::dY p.2
def dy(ws:fx):List Value:=ws.flatMap cR
def eG(b:List UInt8):jK:=b++List.replicate (64-b.length) 0
theorem du{b:List UInt8}(h:b.length≤64):(eG b).length=64:=by simp[eG];omega
def Whole(s:fx):Prop:=∀p∈s,p.2.length=64
theorem cd{p:Int×jK}(h:p.2.length=64):(cR p).length=65:=by simp[cR,dY,h]
theorem EH{ws:fx}(h:Whole ws){k:Nat}(hk:k<ws.length):((dy ws).drop (k*65)).take 65=cR ws[k]:=by
 induction ws generalizing k with
 |nil=>simp at hk
 |cons p ws ih=>
  have h1:=cd (h p (by simp));simp only[dy,cZ]at ih ⊢;cases k with
  |zero=>
   simp only[gj,a8,n0];rw[ck (by omega),aB (by omega)]
  |succ k=>
   rw[hX,cD (by omega),h1,show(k+1)*65-65=k*65 by omega,cb]
   simpa using ih (λq hq=>h q (by simp[hq])) (by simpa using hk)
theorem cr{s:fx}(h:Whole s)(k:Int):(it s k).length=64:=by
 induction s with
 |nil=>simp[it,zs]
 |cons p s ih=>
  obtain⟨a,b⟩:=p;simp only[it];split
  · exact h (a,b) (by simp)
  · exact ih λq hq=>h q (by simp[hq])
theorem Whole.put{s:fx}(h:Whole s)(k:Int){v:jK}(hv:v.length=64):Whole (nG s k v):=by
 induction s with
 |nil=>intro p hp;simp only[nG,ii]at hp;subst hp;exact hv
 |cons p s ih=>
  obtain⟨a,b⟩:=p;intro q hq;simp only[nG]at hq;split at hq
  · rcases cn.1 hq with rfl|hq
    · exact hv
    · exact h q (by simp[hq])
  · rcases cn.1 hq with rfl|hq
    · exact h (a,b) (by simp)
    · exact ih (λq hq=>h q (by simp[hq])) q hq
theorem Whole.add{s:fx}(h:Whole s)(k:Int){v:jK}(hv:v.length=64):Whole (s++[(k,v)]):=λp hp=>by
 rcases ez.1 hp with hp|hp
 · exact h p hp
 · simp only[ii]at hp;subst hp;exact hv
section
variable {P:Program} {n:Nat} {D:List Deferred} {L:List (Nat×Value)} {S:World→Prop} {o:Oper}
theorem PV.mapNil{t t' k e m:TypeId}{x y:Operand}(ho:o.op= .binOp .eql t x y t')(hu:P.underlying t=some (.map k e))(hx:cy L x=some (.map (some m)))(hy:cy L y=some (.map none)):PV P n D L S o (.bool false):=
 fF ho hx hy λw=>by
  have e:(Op.equal t (.map (some m)) (.map none)).run P w= .ok false w:=run_equalIn_map_nil w 9999 t k e (some m) hu;simp[eqGuard,binOp,e]
end
end Dsk
namespace Dsk
open Go Leg Codec Api
theorem yF{k:Int}{b:List UInt8}(h:b.length≤64):wr (.int .i64 k::dY zs) 1 ((dY b).take (min b.length 64))=cR (k,eG b):=by
 have e:(dY b).take (min b.length 64)=dY b:=aB (by rw[aX];omega);rw[e,wr,aX]
 have e2:(Value.int IntKind.i64 k::dY zs).drop (1+b.length)=dY (List.replicate (64-b.length) 0):=by
  rw[show 1+b.length=b.length+1 by omega,gQ];rw[dY,dY,zs,←kF,List.drop_replicate]
 rw[e2];simp only[cR,eG,dY,cQ,List.take_succ_cons,List.take_zero,wT,cb]
theorem HB(vs:List Value): ∀(j:Nat) (pre zeros:List Value),pre.length=j→zeros.length=vs.length→
 ((vs.zipIdx j).foldl (λ(cs:Array Value) (c,i)=>cs.setIfInBounds (0+i) c) (pre++zeros).toArray)=(pre++vs).toArray:=by
 induction vs with
 |nil=>intro j pre zeros _ h;rw[List.eq_nil_of_length_eq_zero h];rfl
 |cons v vs ih=>
  intro j pre zeros hp hz
  match zeros,hz with
  |z::zeros,hz=>
   rw[List.zipIdx_cons,List.foldl_cons]
   have e:(pre++z::zeros).toArray.setIfInBounds (0+j) v=((pre++[v])++zeros).toArray:=by
    rw[bk,List.setIfInBounds_toArray,fZ _ _ (by omega),hp,xG,bV,be];rfl
   simp only[e];rw[ih (j+1) (pre++[v]) zeros (by simp[hp]) (by simpa using hz),be];rfl
theorem Df{zeros:Array Value}{vs:List Value}(h:zeros.size=vs.length):Instr.fill (λi=>some (i*vs.length,vs.length)) zeros [(0, .agg vs.toArray)]=some vs.toArray:=by
 have e:=HB vs 0 [] zeros.toList rfl (by simpa using h);simp only[cb,Array.toArray_toList]at e;simp only[Instr.fill,Value.cells,List.size_toArray,gj,bk,ne_eq,not_true_eq_false,false_or,decide_false,Bool.false_or];rw[if_neg (by simp[h])];rw[←Array.foldl_toList,Array.toList_zipIdx];simp only[bk]at e;rw[e]
theorem mc{zeros:Array Value}{vs:List Value}{size:Nat}(h:vs.length=size)(hz:zeros.size=size):Instr.fill (λi=>some (i*size,size)) zeros [(0, .agg vs.toArray)]=some vs.toArray:=by
 subst h;exact Df hz
theorem ik(p:Int×jK): ∀u∈cR p,u.oneCell'=true:=by
 intro u hu;rcases cn.1 hu with rfl|hu
 · rfl
 · exact eN _ u hu
end Dsk
namespace Leg
open Go
section
variable {P:Program} {w0:World} {F:Hl} {n:Nat} {ops:Array Oper} {Q:QQ} {D:List Deferred} {L:List (Nat×Value)} {H:List HP} {l:List Oper}
end
end Leg
namespace Dsk
open Go Leg Codec Api
def kC(ws:fx)(k:Nat):Int×jK:=ws.getD k (0,zs)
theorem uQ{ws:fx}{k:Nat}(hk:k<ws.length):kC ws k=ws[k]:=by simp[kC,List.getD_eq_getElem?_getD,hk]
theorem dD{ws:fx}(h:Whole ws){k:Nat}(hk:k<ws.length):(kC ws k).2.length=64:=by rw[uQ hk];exact h _ (eY hk)
theorem pY{ws:fx}(h:Whole ws){k:Nat}(hk:k<ws.length):((dy ws).drop (k*65)).take 65=cR (kC ws k):=by rw[uQ hk];exact EH h hk
theorem EJ{ws:fx}(h:Whole ws){k:Nat}(hk:k<ws.length):(dy ws)[k*65]?=some (.int .i64 (kC ws k).1):=by
 have e:=congrArg (λl:List Value=>l[0]?) (pY h hk)
 simpa [cR]using e
theorem EI{ws:fx}(h:Whole ws){k:Nat}(hk:k<ws.length):((dy ws).drop (k*65+1)).take 64=dY (kC ws k).2:=by
 have e:=congrArg (λl:List Value=>l.drop 1) (pY h hk);simp only[n4,jN,cR,gQ,a8]at e;exact e
theorem uK{p:Int×jK}(h:p.2.length=64):((cR p).drop 1).take 64=dY p.2:=by
 simp only[cR,gQ,a8];exact aB (by rw[aX,h];exact aK _)
theorem Ae{p:Int×jK}{c:Nat}(h:p.2.length=64)(hc:c≤64):((cR p).drop 1).take (min c 64)=(dY p.2).take c:=by
 simp only[cR,gQ,a8];congr 1;omega
theorem uW{l:List Value}{n:Nat}(h:l.length=n):(l.drop 0).take n=l:=by rw[a8,aB (by omega)]
def Be(s ws:fx):Nat→fx
 |0=>s
 |k+1=>nG (Be s ws k) (kC ws k).1 (kC ws k).2
theorem Whole.lay{s ws:fx}(h:Whole s)(hw:Whole ws): ∀k,k≤ws.length→Whole (Be s ws k)
 |0,_=>h
 |k+1,hk=>(Whole.lay h hw k (by omega)).put _ (dD hw (by omega))
def rz(old new:jK)(c:Nat):jK:=new.take c++old.drop c
theorem pZ{old new:jK}{c:Nat}(h1:old.length=64)(h2:new.length=64):(rz old new c).length=64:=by simp[rz];omega
def pL(n:Int):Nat:=(min (max n 0) 64).toNat
theorem I2(n:Int):min (max n 0) 64=((pL n:Nat):Int):=by unfold pL;omega
theorem sn(n:Int):pL n≤64:=by unfold pL;omega
def mn(mask torn:Int)(c:Nat)(s:fx)(k:Nat)(p:Int×jK):fx:=
 if(k:Int)=torn then nG s p.1 (rz (it s p.1) p.2 c)else if mask.fdiv (2^ (k%32))%2=1 then nG s p.1 p.2 else s
def mN(mask torn:Int)(c:Nat)(s ws:fx):Nat→fx
 |0=>s
 |k+1=>mn mask torn c (mN mask torn c s ws k) k (kC ws k)
theorem Whole.crash{mask torn:Int}{c:Nat}{s ws:fx}(h:Whole s)(hw:Whole ws): ∀k,k≤ws.length→Whole (mN mask torn c s ws k)
 |0,_=>h
 |k+1,hk=>by
  have ih:=Whole.crash (mask:=mask) (torn:=torn) (c:=c) h hw k (by omega);simp only[mN,mn];split
  · exact ih.put _ (pZ (cr ih _) (dD hw (by omega)))
  · split
    · exact ih.put _ (dD hw (by omega))
    · exact ih
def iQ(s ws:fx)(at':Int):Nat→jK
 |0=>it s at'
 |k+1=>if(kC ws k).1=at' then(kC ws k).2 else iQ s ws at' k
theorem xZ{s ws:fx}(h:Whole s)(hw:Whole ws)(at':Int): ∀k,k≤ws.length→(iQ s ws at' k).length=64
 |0,_=>cr h _
 |k+1,hk=>by
  simp only[iQ];split
  · exact dD hw (by omega)
  · exact xZ h hw at' k (by omega)
theorem Fk{s ws:fx}{at':Int}{k:Nat}(h:(kC ws k).1=at'):iQ s ws at' (k+1)=(kC ws k).2:=by simp[iQ,h]
theorem CC{s ws:fx}{at':Int}{k:Nat}(h:(kC ws k).1≠at'):iQ s ws at' (k+1)=iQ s ws at' k:=by simp[iQ,h]
theorem EP{old new:jK}{c m:Nat}(hc:c≤64)(h1:old.length=64)(h2:new.length=64)(hm:m=c):wr (dY old) 0 (((dY new).take c).take m)=dY (rz old new c):=by
 subst hm;have:((dY new).take m).length=m:=by rw[bG,aX];omega
 rw[aB (by omega),wr,this,List.take_zero,cb,bk];simp[dY,rz,oZ,kF]
structure DS where
 s:fx
 ws:fx
 ar:Bool
 lf:Int
 dn:Bool
structure DS.Ok(D:DS):Prop where
 s:Whole D.s
 ws:Whole D.ws
 lf:0≤D.lf∧D.lf≤9223372036854775807
def DS.new:DS:=⟨[],[],false,0,false⟩
def DS.arm(D:DS)(n:Int):DS:= {D with ar:=true,lf:=max n 0}
def DS.write(D:DS)(at':Int)(bs:List UInt8):Int×DS:=
 if at'<0∨2048≤at'∨64<bs.length then(5,D)
 else if D.dn=true∨(D.ar=true∧D.lf=0)then(4,{D with dn:=true})
 else(0,{D with ws:=D.ws++[(at',eG bs)],lf:=if D.ar=true then D.lf-1 else D.lf,dn:=false})
def DS.sync(D:DS):Int×DS:=if D.dn=true then(4,D)else(0,{D with s:=Be D.s D.ws D.ws.length,ws:=[]})
def DS.crash(D:DS)(mask torn n:Int):DS:=⟨mN mask torn (pL n) D.s D.ws D.ws.length,[],false,0,false⟩
def DS.read(D:DS)(at':Int):jK:=iQ D.s D.ws at' D.ws.length
theorem mi:Whole []:=λ_ h=>absurd h (by simp)
theorem DS.new_ok:DS.new.Ok:=⟨mi,mi,⟨by decide,by decide⟩⟩
theorem DS.write_ok{D:DS}(h:D.Ok)(at':Int)(bs:List UInt8):(D.write at' bs).2.Ok:=by
 unfold DS.write;split
 · exact h
 · split
   · exact⟨h.s,h.ws,h.lf⟩
   · rename_i h1 h2
     refine⟨h.s,h.ws.add _ (du (by omega)),?_⟩;have:=h.lf;show 0≤(if D.ar=true then D.lf-1 else D.lf)∧(if D.ar=true then D.lf-1 else D.lf)≤9223372036854775807;split<;>rename_i h3
     · have:D.lf≠0:=λq=>h2 (.inr ⟨h3,q⟩)
       exact⟨by omega,by omega⟩
     · exact this
theorem DS.sync_ok{D:DS}(h:D.Ok):D.sync.2.Ok:=by
 unfold DS.sync;split
 · exact h
 · exact⟨h.s.lay h.ws _ (aK _),mi,h.lf⟩
theorem DS.crash_ok{D:DS}(h:D.Ok)(mask torn n:Int):(D.crash mask torn n).Ok:=⟨h.s.crash h.ws _ (aK _),mi,⟨by simp[DS.crash],by simp[DS.crash]⟩⟩
theorem DS.read_len{D:DS}(h:D.Ok)(at':Int):(D.read at').length=64:=xZ h.s h.ws _ _ (aK _)
abbrev lI:= @DS.read_len
theorem DS.write_ws{D:DS}{at':Int}{bs:List UInt8}:(D.write at' bs).2.ws.length≤D.ws.length+1:=by
 unfold DS.write;split
 · simp
 · split
   · simp
   · simp
abbrev MF(DT WT:Nat)(d:Nat)(D:DS):HP:=pack λx:Nat×Value=>[ag d [.map (some x.1),x.2, .bool D.ar, .int .i64 D.lf, .bool D.dn] DT,jD x.1 (qN D.s),own x.2 D.ws.length (dy D.ws) WT 65]
end Dsk
end

section
namespace Go.Proofs.YtjblgopghhgflaaGreat
open Go Leg Codec Api Dsk
theorem zD(d m:Nat)(wv:Value)(ar dn:Bool)(lf:Int):
 DT 57 #[(.pointer (some ⟨d,0,none⟩))] T0 [ag d [(.map (some m)),wv,(.bool (ar)),(.int .i64 (lf)),(.bool (dn))] 161] (RI (.bool dn) [ag d [(.map (some m)),wv,(.bool (ar)),(.int .i64 (lf)),(.bool (dn))] 161]):=by
 refine BD 7 Tryz.func57 rfl rfl rfl λw0 F hF=>sr λ_ J1=>PS ?_
 refine nx J1 (sr λ_ J2=>P2 ?_);refine FA 4 gr ka ?_;refine LA 0 Y4 ?_;refine PS ?_;exact nx J2 (ai (WK [0] (au rfl rfl ⟨rfl,rfl⟩)))
theorem Bx(d m:Nat)(wv:Value)(ar dn:Bool)(lf n:Int):
 DT 61 #[(.pointer (some ⟨d,0,none⟩)),(.int .i64 (n))] T0 [ag d [(.map (some m)),wv,(.bool (ar)),(.int .i64 (lf)),(.bool (dn))] 161] (c9 (λ_ H=>H=[ag d [(.map (some m)),wv,(.bool true),(.int .i64 ((max n 0))),(.bool (dn))] 161])):=by
 refine BD 12 Tryz.func61 rfl rfl rfl λw0 F hF=>ad (P3 ?_)
 refine tp (xD rfl rfl rfl) ?_;refine PS ?_;refine FA 2 gr ka ?_;refine S0 0 ka ?_;refine PS ?_;refine FA 3 gr aP ?_;refine S0 0 aP ?_;exact ap (WK [0] (bz rfl rfl))
theorem Bw:
 DT 54 #[] T0 [] (c9 (λv H=>∃d m,v= .pointer (some ⟨d,0,none⟩)∧H=[ag d [(.map (some m)),(.slice none 0 0),(.bool false),(.int .i64 0),(.bool false)] 161,jD m ([])])):=by
 refine BD 4 Tryz.func54 rfl rfl rfl λw0 F hF=>sr λ_ J1=>PS ?_
 refine nx J1 (sr λ_ J2=>TL.makeMap (aa rfl) rfl rfl rfl (λm1=>BV #[(.map (some m1)),(.slice none 0 0),(.bool false),(.int .i64 0),(.bool false)] ?_));refine XB λb3=>?_
 refine PS ?_;exact nx J2 (ai (WK [0,0] (au rfl rfl ⟨b3,m1,rfl,rfl⟩)))
theorem zB(d m:Nat)(wv:Value)(s:fx)(ar dn:Bool)(lf at':Int)(hs:Whole s):
 DT 68 #[(.pointer (some ⟨d,0,none⟩)),(.int .i64 (at'))] T0 [ag d [(.map (some m)),wv,(.bool (ar)),(.int .i64 (lf)),(.bool (dn))] 161,jD m (qN s)] (RI (AP (it s at')) [ag d [(.map (some m)),wv,(.bool (ar)),(.int .i64 (lf)),(.bool (dn))] 161,jD m (qN s)]):=by
 refine BD 11 Tryz.func68 rfl rfl rfl λw0 F hF=>sr λ_ J1=>XA Ca λb4=>?_
 refine nx J1 (sr λ_ J2=>P2 ?_);refine FA 0 gr Aq ?_;refine LA 1 xu ?_;refine PS ?_;refine tp (PV.lookup rfl xu Y3 Ca rfl rfl (RdM.own 2 rfl rfl) (wg _ _)) ?_;exact bF (vs:=dY (it s at')) (i:=0) (aa rfl) rfl rfl rfl rfl rfl (by rw[aX,cr hs];exact jq) (eN _) rfl rfl (by rw[aX,cr hs];exact aK _) (fi (by rw[aX,cr hs];rfl)) rfl (nx J2 (ai (xx (H':=[ag d [(.map (some m)),wv,(.bool (ar)),(.int .i64 (lf)),(.bool (dn))] 161,jD m (qN s)]) rfl rfl oR rfl jq (RO 0) (by rw[aX];exact cr hs _) (λ_ s=>ak [1,1] rfl s) ⟨rfl,rfl⟩)))
theorem df:Tryz.prog.follows .mixedOrders=true:=by kernel_rfl
theorem oz(d m:Nat)(wv:Value)(s:fx)(ar dn:Bool)(lf at':Int)(b:List UInt8)(hb:b.length=64):
 DT 114 #[(.pointer (some ⟨d,0,none⟩)),(.int .i64 (at')),(.agg (dY b).toArray)] T0 [ag d [(.map (some m)),wv,(.bool (ar)),(.int .i64 (lf)),(.bool (dn))] 161,jD m (qN s)] (c9 (λ_ H=>H=[ag d [(.map (some m)),wv,(.bool (ar)),(.int .i64 (lf)),(.bool (dn))] 161,jD m (qN (nG s at' b))])):=by
 refine BD 21 Tryz.func114 rfl rfl rfl λw0 F hF=>sr λ_ J1=>XY (dY b) λb5=>?_
 refine nx J1 (ab λ_ J2=>sr λ_ J3=>P2 ?_);refine FA 0 gr Aq ?_;refine LA 1 xu ?_;refine tp (PV.mapNil rfl xu rfl rfl) ?_;refine nx J3 (CN (qx J2 (D2 1 0 df ?_)));refine PD 0 ?_;refine PD 1 ?_;refine FD 2 0 gr Aq ?_;refine LX 3 xu (.map (some m)) ?_ (hc:=by exact rfl);refine PD 4 ?_;refine ta 5 rfl (aM (vs:=dY b) rfl oR rfl jq rfl (λ_ h=>h.2.2.1) (by rw[aX];exact hb) (by rw[a8,aB (by rw[aX,hb];exact aK _)])) ?_;refine AL 6 ?_;exact TL.mapUpdate (i:=2) (H':=[ag b5 (dY b) 128,ag d [(.map (some m)),wv,(.bool (ar)),(.int .i64 (lf)),(.bool (dn))] 161,jD m (qN (nG s at' b))]) (aa rfl) rfl rfl xu Y3 rfl rfl rfl rfl rfl (congrArg (λq=>List.set _ 2 (jD m q)) (Hu _ _ _)) (EN (DN (WK [1,1] (bz rfl rfl))))
theorem xk(d m:Nat)(wv:Value)(ws:fx)(ar dn:Bool)(lf at':Int)(x:Value)(bs:List UInt8)(hl:0≤lf∧lf≤9223372036854775807)(hw:ws.length≤1000000000):
 DT 70 #[(.pointer (some ⟨d,0,none⟩)),(.int .i64 (at')),x] (IsW x bs) [ag d [(.map (some m)),wv,(.bool (ar)),(.int .i64 (lf)),(.bool (dn))] 161,own wv (ws.length) (dy ws) 187 65] (c9 (λv H=>if at'<0∨2048≤at'∨64<bs.length then v= .int .i64 5∧H=[ag d [(.map (some m)),wv,(.bool (ar)),(.int .i64 (lf)),(.bool (dn))] 161,own wv (ws.length) (dy ws) 187 65]else if dn=true∨(ar=true∧lf=0)then v= .int .i64 4∧H=[ag d [(.map (some m)),wv,(.bool (ar)),(.int .i64 (lf)),(.bool true)] 161,own wv (ws.length) (dy ws) 187 65]else v= .int .i64 0∧∃wv',H=[ag d [(.map (some m)),wv',(.bool (ar)),(.int .i64 ((if ar=true then lf-1 else lf))),(.bool false)] 161,own wv' ((ws++[(at',eG bs)]).length) (dy (ws++[(at',eG bs)])) 187 65])):=by
 refine BD 64 Tryz.func70 rfl rfl rfl λw0 F hF=>sr λ_ J1=>PS ?_
 refine nx J1 (ab λ_ J2=>sr λ_ J3=>P2 ?_);refine an ?_ ?_<;>intro h9;refine PS ?_;refine UT ?_;refine UT ?_;refine P2 ?_
 iterate 3 refine UT ?_
 refine PS ?_;refine nx J3 (CY (sr λ_ J4=>PS ?_));refine nx J4 (ai (ae (WK [0,0] (au rfl rfl ?_))));show(if _ then _ else _)
 first
  | (rw[if_pos (by omega)];exact⟨rfl,rfl⟩)
  | (rw[if_neg (by omega),if_pos (by simp_all)];exact⟨rfl,by simp_all<;>rfl⟩)
  | (rw[if_neg (by omega),if_neg (by simp_all)];exact⟨rfl,v61,by simp_all<;>rfl⟩)
 refine P3 ?_;refine an ?_ ?_<;>intro h12;refine P2 ?_
 iterate 3 refine UT ?_
 refine PS ?_;refine nx J3 (CY (sr λ_ J5=>PS ?_));refine nx J5 (ai (ae (WK [0,0] (au rfl rfl ?_))));show(if _ then _ else _)
 first
  | (rw[if_pos (by omega)];exact⟨rfl,rfl⟩)
  | (rw[if_neg (by omega),if_pos (by simp_all)];exact⟨rfl,by simp_all<;>rfl⟩)
  | (rw[if_neg (by omega),if_neg (by simp_all)];exact⟨rfl,v61,by simp_all<;>rfl⟩)
 refine P3 ?_;refine tq (dX rfl gq rfl hF.len) ?_;refine PS ?_;refine an ?_ ?_<;>intro h17;refine PS ?_;refine nx J3 (CY (sr λ_ J6=>PS ?_));refine nx J6 (ai (ae (WK [0,0] (au rfl rfl ?_))));show(if _ then _ else _)
 first
  | (rw[if_pos (by omega)];exact⟨rfl,rfl⟩)
  | (rw[if_neg (by omega),if_pos (by simp_all)];exact⟨rfl,by simp_all<;>rfl⟩)
  | (rw[if_neg (by omega),if_neg (by simp_all)];exact⟨rfl,v61,by simp_all<;>rfl⟩)
 refine PS ?_;refine nx J3 (CN (qx J2 (ab λ_ J7=>sr λ_ J8=>P2 ?_)));refine FA 2 gr ka ?_;refine LA 0 Y4 ?_;refine aW ?_ ?_<;>intro h22;refine P3 ?_;refine FA 3 gr aP ?_;refine LA 0 Y3 ?_;refine PS ?_;refine an ?_ ?_<;>intro h28;refine PS ?_;refine nx J8 (CY (ad (P2 ?_)));refine FA 4 gr ka ?_;refine S0 0 ka ?_;refine nx J7 (ab λ_ J9=>sr λ_ J10=>P2 ?_);refine FA 4 gr ka ?_;refine LA 0 Y4 ?_;refine nx J10 (CY (sr λ_ J11=>PS ?_));refine nx J11 (ai (ae (WK [0,0] (au rfl rfl ?_))));show(if _ then _ else _)
 first
  | (rw[if_pos (by omega)];exact⟨rfl,rfl⟩)
  | (rw[if_neg (by omega),if_pos (by simp_all)];exact⟨rfl,by simp_all<;>rfl⟩)
  | (rw[if_neg (by omega),if_neg (by simp_all)];exact⟨rfl,v61,by simp_all<;>rfl⟩)
 refine PS ?_;refine nx J8 (CN (qx J7 (ab λ_ J12=>sr λ_ J13=>P2 ?_)));refine FA 4 gr ka ?_;refine LA 0 Y4 ?_;refine aW ?_ ?_<;>intro h36;refine nx J13 (CY (sr λ_ J14=>PS ?_));refine nx J14 (ai (ae (WK [0,0] (au rfl rfl ?_))));show(if _ then _ else _)
 first
  | (rw[if_pos (by omega)];exact⟨rfl,rfl⟩)
  | (rw[if_neg (by omega),if_pos (by simp_all)];exact⟨rfl,by simp_all<;>rfl⟩)
  | (rw[if_neg (by omega),if_neg (by simp_all)];exact⟨rfl,v61,by simp_all<;>rfl⟩)
 refine nx J13 (CN (qx J12 (ab λ_ J15=>sr λ_ J16=>P2 ?_)));refine FA 2 gr ka ?_;refine LA 0 Y4 ?_;refine aW ?_ ?_<;>intro h40;refine nx J16 (CY (ad (P2 ?_)));refine FA 3 gr aP ?_;refine LA 0 Y3 ?_;refine tp (iH rfl rfl rfl (bH (by omega) (by omega))) ?_;refine PS ?_;refine FA 3 gr aP ?_;refine S0 0 aP ?_;refine nx J15 (sr λ_ J17=>PS ?_);refine BV (((.int .i64 (at'))::List.replicate 64 (.int .u8 0)).toArray) ?_;refine XA ED λb7=>?_
 refine bF (vs:=((.int .i64 (at'))::List.replicate 64 (.int .u8 0))) (i:=0) (aa rfl) rfl rfl rfl rfl rfl lX (by simp[Value.oneCell']) rfl rfl (IP rfl) rfl rfl (nx J17 (sr λ_ J18=>FA 1 oD jq ?_));refine tp (nd rfl oR kV rfl) ?_;refine PS ?_;refine KT (i:=0) (m:=bs.length) (news:=(dY bs)) (H':=[ag b7 (cR (at',eG bs)) 187,ag d [(.map (some m)),wv,(.bool (ar)),(.int .i64 (lf-1)),(.bool (dn))] 161,own wv (ws.length) (dy ws) 187 65]) (aa rfl) rfl rfl rfl gq kV rfl rfl rfl rfl (λ_ _=>hF.src (λ_ h=>dT h)) (eN _) (by show 1+min bs.length 64≤65;omega) (yF (by omega)) rfl (nx J18 (ab λ_ J19=>D1 0 df ?_));refine PD 0 ?_;refine PD 1 ?_;refine PD 2 ?_;refine FD 3 1 gr gl ?_;refine ta 5 rfl (aM (vs:=cR (at',eG bs)) rfl oD rfl lX rfl (λ_ h=>h.2.1) (cd (du (by omega))) (by rw[a8,aB (by rw[(cd (du (by omega)))];exact aK _)])) ?_;refine cw [4,6] (by kernel_rfl) rfl (aE rfl ?_ ?_);refine LA 1 iE ?_;refine EN (AL 6 ?_);refine aU (cells:=(cR (at',eG bs)).toArray) (aa rfl) rfl rfl rfl iE lZ rfl rfl rfl (mc (cd (du (by omega))) (by simp)) (λb60=>?_);change TL _ _ _ _ _ _ _ _ _ [ag b60 (cR (at',eG bs)) 187,ag b7 (cR (at',eG bs)) 187,ag d [(.map (some m)),wv,(.bool (ar)),(.int .i64 (lf-1)),(.bool (dn))] 161,own wv (ws.length) (dy ws) 187 65];refine EN (AL 7 ?_)
 refine cE (k:=3) (news:=cR (at',eG bs)) (nn':=(ws++[(at',eG bs)]).length) (xs':=dy (ws++[(at',eG bs)])) (aa rfl) rfl rfl rfl iE lZ rfl rfl rfl rfl rfl rfl (λ_ _=>jl (cd (du (by omega))) (RO 0) (by rw[a8,aB (aK _)])) (ik _) (by simp only[maxLen];omega) (by omega) (by simp) (by simp[dy]) (λv61 ov61=>EN (PD 8 ?_));refine FD 9 1 gr gl ?_;refine AL 10 ?_;refine bv (i:=2) (aa rfl) rfl rfl rfl rfl ov61 gl rfl rfl (lb rfl) rfl rfl (EN (DN (ac J19 (sr λ_ J20=>PS ?_))));refine nx J20 (ai (WK [2,2] (au rfl rfl ?_)));show(if _ then _ else _)
 first
  | (rw[if_pos (by omega)];exact⟨rfl,rfl⟩)
  | (rw[if_neg (by omega),if_pos (by simp_all)];exact⟨rfl,by simp_all<;>rfl⟩)
  | (rw[if_neg (by omega),if_neg (by simp_all)];exact⟨rfl,v61,by simp_all<;>rfl⟩)
 refine aE rfl ?_ ?_;refine aU (cells:=(cR (at',eG bs)).toArray) (aa rfl) rfl rfl rfl iE lZ rfl rfl rfl (mc (cd (du (by omega))) (by simp)) (λb60=>?_);change TL _ _ _ _ _ _ _ _ _ [ag b60 (cR (at',eG bs)) 187,ag b7 (cR (at',eG bs)) 187,ag d [(.map (some m)),wv,(.bool (ar)),(.int .i64 (lf-1)),(.bool (dn))] 161,own wv (ws.length) (dy ws) 187 65];refine EN (AL 4 ?_);refine LA 2 iE ?_;refine EN (AL 7 ?_);refine cE (k:=3) (news:=cR (at',eG bs)) (nn':=(ws++[(at',eG bs)]).length) (xs':=dy (ws++[(at',eG bs)])) (aa rfl) rfl rfl rfl iE lZ rfl rfl rfl rfl rfl rfl (λ_ _=>jl (cd (du (by omega))) (RO 0) (by rw[a8,aB (aK _)])) (ik _) (by simp only[maxLen];omega) (by omega) (by simp) (by simp[dy]) (λv61 ov61=>EN (PD 8 ?_));refine FD 9 1 gr gl ?_;refine AL 10 ?_;refine bv (i:=2) (aa rfl) rfl rfl rfl rfl ov61 gl rfl rfl (lb rfl) rfl rfl (EN (DN (ac J19 (sr λ_ J21=>PS ?_))));refine nx J21 (ai (WK [2,2] (au rfl rfl ?_)));show(if _ then _ else _)
 first
  | (rw[if_pos (by omega)];exact⟨rfl,rfl⟩)
  | (rw[if_neg (by omega),if_pos (by simp_all)];exact⟨rfl,by simp_all<;>rfl⟩)
  | (rw[if_neg (by omega),if_neg (by simp_all)];exact⟨rfl,v61,by simp_all<;>rfl⟩)
 exact bw;refine nx J16 (CN (qx J15 (sr λ_ J22=>PS ?_)));refine BV (((.int .i64 (at'))::List.replicate 64 (.int .u8 0)).toArray) ?_;refine XA ED λb7=>?_
 refine bF (vs:=((.int .i64 (at'))::List.replicate 64 (.int .u8 0))) (i:=0) (aa rfl) rfl rfl rfl rfl rfl lX (by simp[Value.oneCell']) rfl rfl (IP rfl) rfl rfl (nx J22 (sr λ_ J23=>FA 1 oD jq ?_));refine tp (nd rfl oR kV rfl) ?_;refine PS ?_;refine KT (i:=0) (m:=bs.length) (news:=(dY bs)) (H':=[ag b7 (cR (at',eG bs)) 187,ag d [(.map (some m)),wv,(.bool (ar)),(.int .i64 (lf)),(.bool (dn))] 161,own wv (ws.length) (dy ws) 187 65]) (aa rfl) rfl rfl rfl gq kV rfl rfl rfl rfl (λ_ _=>hF.src (λ_ h=>dT h)) (eN _) (by show 1+min bs.length 64≤65;omega) (yF (by omega)) rfl (nx J23 (ab λ_ J24=>D1 0 df ?_));refine PD 0 ?_;refine PD 1 ?_;refine PD 2 ?_;refine FD 3 1 gr gl ?_;refine ta 5 rfl (aM (vs:=cR (at',eG bs)) rfl oD rfl lX rfl (λ_ h=>h.2.1) (cd (du (by omega))) (by rw[a8,aB (by rw[(cd (du (by omega)))];exact aK _)])) ?_;refine cw [4,6] (by kernel_rfl) rfl (aE rfl ?_ ?_);refine LA 1 iE ?_;refine EN (AL 6 ?_);refine aU (cells:=(cR (at',eG bs)).toArray) (aa rfl) rfl rfl rfl iE lZ rfl rfl rfl (mc (cd (du (by omega))) (by simp)) (λb60=>?_);change TL _ _ _ _ _ _ _ _ _ [ag b60 (cR (at',eG bs)) 187,ag b7 (cR (at',eG bs)) 187,ag d [(.map (some m)),wv,(.bool (ar)),(.int .i64 (lf)),(.bool (dn))] 161,own wv (ws.length) (dy ws) 187 65];refine EN (AL 7 ?_)
 refine cE (k:=3) (news:=cR (at',eG bs)) (nn':=(ws++[(at',eG bs)]).length) (xs':=dy (ws++[(at',eG bs)])) (aa rfl) rfl rfl rfl iE lZ rfl rfl rfl rfl rfl rfl (λ_ _=>jl (cd (du (by omega))) (RO 0) (by rw[a8,aB (aK _)])) (ik _) (by simp only[maxLen];omega) (by omega) (by simp) (by simp[dy]) (λv61 ov61=>EN (PD 8 ?_));refine FD 9 1 gr gl ?_;refine AL 10 ?_;refine bv (i:=2) (aa rfl) rfl rfl rfl rfl ov61 gl rfl rfl (lb rfl) rfl rfl (EN (DN (ac J24 (sr λ_ J25=>PS ?_))));refine nx J25 (ai (WK [2,2] (au rfl rfl ?_)));show(if _ then _ else _)
 first
  | (rw[if_pos (by omega)];exact⟨rfl,rfl⟩)
  | (rw[if_neg (by omega),if_pos (by simp_all)];exact⟨rfl,by simp_all<;>rfl⟩)
  | (rw[if_neg (by omega),if_neg (by simp_all)];exact⟨rfl,v61,by simp_all<;>rfl⟩)
 refine aE rfl ?_ ?_;refine aU (cells:=(cR (at',eG bs)).toArray) (aa rfl) rfl rfl rfl iE lZ rfl rfl rfl (mc (cd (du (by omega))) (by simp)) (λb60=>?_);change TL _ _ _ _ _ _ _ _ _ [ag b60 (cR (at',eG bs)) 187,ag b7 (cR (at',eG bs)) 187,ag d [(.map (some m)),wv,(.bool (ar)),(.int .i64 (lf)),(.bool (dn))] 161,own wv (ws.length) (dy ws) 187 65];refine EN (AL 4 ?_);refine LA 2 iE ?_;refine EN (AL 7 ?_);refine cE (k:=3) (news:=cR (at',eG bs)) (nn':=(ws++[(at',eG bs)]).length) (xs':=dy (ws++[(at',eG bs)])) (aa rfl) rfl rfl rfl iE lZ rfl rfl rfl rfl rfl rfl (λ_ _=>jl (cd (du (by omega))) (RO 0) (by rw[a8,aB (aK _)])) (ik _) (by simp only[maxLen];omega) (by omega) (by simp) (by simp[dy]) (λv61 ov61=>EN (PD 8 ?_));refine FD 9 1 gr gl ?_;refine AL 10 ?_;refine bv (i:=2) (aa rfl) rfl rfl rfl rfl ov61 gl rfl rfl (lb rfl) rfl rfl (EN (DN (ac J24 (sr λ_ J26=>PS ?_))));refine nx J26 (ai (WK [2,2] (au rfl rfl ?_)));show(if _ then _ else _)
 first
  | (rw[if_pos (by omega)];exact⟨rfl,rfl⟩)
  | (rw[if_neg (by omega),if_pos (by simp_all)];exact⟨rfl,by simp_all<;>rfl⟩)
  | (rw[if_neg (by omega),if_neg (by simp_all)];exact⟨rfl,v61,by simp_all<;>rfl⟩)
 exact bw;refine PS ?_
 iterate 5 refine UF ?_
 refine PS ?_;refine nx J8 (CN (qx J7 (ab λ_ J27=>sr λ_ J28=>P2 ?_)));refine FA 4 gr ka ?_;refine LA 0 Y4 ?_;refine aW ?_ ?_<;>intro h36;refine nx J28 (CY (sr λ_ J29=>PS ?_));refine nx J29 (ai (ae (WK [0,0] (au rfl rfl ?_))));show(if _ then _ else _)
 first
  | (rw[if_pos (by omega)];exact⟨rfl,rfl⟩)
  | (rw[if_neg (by omega),if_pos (by simp_all)];exact⟨rfl,by simp_all<;>rfl⟩)
  | (rw[if_neg (by omega),if_neg (by simp_all)];exact⟨rfl,v61,by simp_all<;>rfl⟩)
 refine nx J28 (CN (qx J27 (ab λ_ J30=>sr λ_ J31=>P2 ?_)));refine FA 2 gr ka ?_;refine LA 0 Y4 ?_;refine aW ?_ ?_<;>intro h40;refine nx J31 (CY (ad (P2 ?_)));refine FA 3 gr aP ?_;refine LA 0 Y3 ?_;refine tp (iH rfl rfl rfl (bH (by omega) (by omega))) ?_;refine PS ?_;refine FA 3 gr aP ?_;refine S0 0 aP ?_;refine nx J30 (sr λ_ J32=>PS ?_);refine BV (((.int .i64 (at'))::List.replicate 64 (.int .u8 0)).toArray) ?_;refine XA ED λb7=>?_
 refine bF (vs:=((.int .i64 (at'))::List.replicate 64 (.int .u8 0))) (i:=0) (aa rfl) rfl rfl rfl rfl rfl lX (by simp[Value.oneCell']) rfl rfl (IP rfl) rfl rfl (nx J32 (sr λ_ J33=>FA 1 oD jq ?_));refine tp (nd rfl oR kV rfl) ?_;refine PS ?_;refine KT (i:=0) (m:=bs.length) (news:=(dY bs)) (H':=[ag b7 (cR (at',eG bs)) 187,ag d [(.map (some m)),wv,(.bool (ar)),(.int .i64 (lf-1)),(.bool (dn))] 161,own wv (ws.length) (dy ws) 187 65]) (aa rfl) rfl rfl rfl gq kV rfl rfl rfl rfl (λ_ _=>hF.src (λ_ h=>dT h)) (eN _) (by show 1+min bs.length 64≤65;omega) (yF (by omega)) rfl (nx J33 (ab λ_ J34=>D1 0 df ?_));refine PD 0 ?_;refine PD 1 ?_;refine PD 2 ?_;refine FD 3 1 gr gl ?_;refine ta 5 rfl (aM (vs:=cR (at',eG bs)) rfl oD rfl lX rfl (λ_ h=>h.2.1) (cd (du (by omega))) (by rw[a8,aB (by rw[(cd (du (by omega)))];exact aK _)])) ?_;refine cw [4,6] (by kernel_rfl) rfl (aE rfl ?_ ?_);refine LA 1 iE ?_;refine EN (AL 6 ?_);refine aU (cells:=(cR (at',eG bs)).toArray) (aa rfl) rfl rfl rfl iE lZ rfl rfl rfl (mc (cd (du (by omega))) (by simp)) (λb60=>?_);change TL _ _ _ _ _ _ _ _ _ [ag b60 (cR (at',eG bs)) 187,ag b7 (cR (at',eG bs)) 187,ag d [(.map (some m)),wv,(.bool (ar)),(.int .i64 (lf-1)),(.bool (dn))] 161,own wv (ws.length) (dy ws) 187 65];refine EN (AL 7 ?_)
 refine cE (k:=3) (news:=cR (at',eG bs)) (nn':=(ws++[(at',eG bs)]).length) (xs':=dy (ws++[(at',eG bs)])) (aa rfl) rfl rfl rfl iE lZ rfl rfl rfl rfl rfl rfl (λ_ _=>jl (cd (du (by omega))) (RO 0) (by rw[a8,aB (aK _)])) (ik _) (by simp only[maxLen];omega) (by omega) (by simp) (by simp[dy]) (λv61 ov61=>EN (PD 8 ?_));refine FD 9 1 gr gl ?_;refine AL 10 ?_;refine bv (i:=2) (aa rfl) rfl rfl rfl rfl ov61 gl rfl rfl (lb rfl) rfl rfl (EN (DN (ac J34 (sr λ_ J35=>PS ?_))));refine nx J35 (ai (WK [2,2] (au rfl rfl ?_)));show(if _ then _ else _)
 first
  | (rw[if_pos (by omega)];exact⟨rfl,rfl⟩)
  | (rw[if_neg (by omega),if_pos (by simp_all)];exact⟨rfl,by simp_all<;>rfl⟩)
  | (rw[if_neg (by omega),if_neg (by simp_all)];exact⟨rfl,v61,by simp_all<;>rfl⟩)
 refine aE rfl ?_ ?_;refine aU (cells:=(cR (at',eG bs)).toArray) (aa rfl) rfl rfl rfl iE lZ rfl rfl rfl (mc (cd (du (by omega))) (by simp)) (λb60=>?_);change TL _ _ _ _ _ _ _ _ _ [ag b60 (cR (at',eG bs)) 187,ag b7 (cR (at',eG bs)) 187,ag d [(.map (some m)),wv,(.bool (ar)),(.int .i64 (lf-1)),(.bool (dn))] 161,own wv (ws.length) (dy ws) 187 65];refine EN (AL 4 ?_);refine LA 2 iE ?_;refine EN (AL 7 ?_);refine cE (k:=3) (news:=cR (at',eG bs)) (nn':=(ws++[(at',eG bs)]).length) (xs':=dy (ws++[(at',eG bs)])) (aa rfl) rfl rfl rfl iE lZ rfl rfl rfl rfl rfl rfl (λ_ _=>jl (cd (du (by omega))) (RO 0) (by rw[a8,aB (aK _)])) (ik _) (by simp only[maxLen];omega) (by omega) (by simp) (by simp[dy]) (λv61 ov61=>EN (PD 8 ?_));refine FD 9 1 gr gl ?_;refine AL 10 ?_;refine bv (i:=2) (aa rfl) rfl rfl rfl rfl ov61 gl rfl rfl (lb rfl) rfl rfl (EN (DN (ac J34 (sr λ_ J36=>PS ?_))));refine nx J36 (ai (WK [2,2] (au rfl rfl ?_)));show(if _ then _ else _)
 first
  | (rw[if_pos (by omega)];exact⟨rfl,rfl⟩)
  | (rw[if_neg (by omega),if_pos (by simp_all)];exact⟨rfl,by simp_all<;>rfl⟩)
  | (rw[if_neg (by omega),if_neg (by simp_all)];exact⟨rfl,v61,by simp_all<;>rfl⟩)
 exact bw;refine nx J31 (CN (qx J30 (sr λ_ J37=>PS ?_)));refine BV (((.int .i64 (at'))::List.replicate 64 (.int .u8 0)).toArray) ?_;refine XA ED λb7=>?_
 refine bF (vs:=((.int .i64 (at'))::List.replicate 64 (.int .u8 0))) (i:=0) (aa rfl) rfl rfl rfl rfl rfl lX (by simp[Value.oneCell']) rfl rfl (IP rfl) rfl rfl (nx J37 (sr λ_ J38=>FA 1 oD jq ?_));refine tp (nd rfl oR kV rfl) ?_;refine PS ?_;refine KT (i:=0) (m:=bs.length) (news:=(dY bs)) (H':=[ag b7 (cR (at',eG bs)) 187,ag d [(.map (some m)),wv,(.bool (ar)),(.int .i64 (lf)),(.bool (dn))] 161,own wv (ws.length) (dy ws) 187 65]) (aa rfl) rfl rfl rfl gq kV rfl rfl rfl rfl (λ_ _=>hF.src (λ_ h=>dT h)) (eN _) (by show 1+min bs.length 64≤65;omega) (yF (by omega)) rfl (nx J38 (ab λ_ J39=>D1 0 df ?_));refine PD 0 ?_;refine PD 1 ?_;refine PD 2 ?_;refine FD 3 1 gr gl ?_;refine ta 5 rfl (aM (vs:=cR (at',eG bs)) rfl oD rfl lX rfl (λ_ h=>h.2.1) (cd (du (by omega))) (by rw[a8,aB (by rw[(cd (du (by omega)))];exact aK _)])) ?_;refine cw [4,6] (by kernel_rfl) rfl (aE rfl ?_ ?_);refine LA 1 iE ?_;refine EN (AL 6 ?_);refine aU (cells:=(cR (at',eG bs)).toArray) (aa rfl) rfl rfl rfl iE lZ rfl rfl rfl (mc (cd (du (by omega))) (by simp)) (λb60=>?_);change TL _ _ _ _ _ _ _ _ _ [ag b60 (cR (at',eG bs)) 187,ag b7 (cR (at',eG bs)) 187,ag d [(.map (some m)),wv,(.bool (ar)),(.int .i64 (lf)),(.bool (dn))] 161,own wv (ws.length) (dy ws) 187 65];refine EN (AL 7 ?_)
 refine cE (k:=3) (news:=cR (at',eG bs)) (nn':=(ws++[(at',eG bs)]).length) (xs':=dy (ws++[(at',eG bs)])) (aa rfl) rfl rfl rfl iE lZ rfl rfl rfl rfl rfl rfl (λ_ _=>jl (cd (du (by omega))) (RO 0) (by rw[a8,aB (aK _)])) (ik _) (by simp only[maxLen];omega) (by omega) (by simp) (by simp[dy]) (λv61 ov61=>EN (PD 8 ?_));refine FD 9 1 gr gl ?_;refine AL 10 ?_;refine bv (i:=2) (aa rfl) rfl rfl rfl rfl ov61 gl rfl rfl (lb rfl) rfl rfl (EN (DN (ac J39 (sr λ_ J40=>PS ?_))));refine nx J40 (ai (WK [2,2] (au rfl rfl ?_)));show(if _ then _ else _)
 first
  | (rw[if_pos (by omega)];exact⟨rfl,rfl⟩)
  | (rw[if_neg (by omega),if_pos (by simp_all)];exact⟨rfl,by simp_all<;>rfl⟩)
  | (rw[if_neg (by omega),if_neg (by simp_all)];exact⟨rfl,v61,by simp_all<;>rfl⟩)
 refine aE rfl ?_ ?_;refine aU (cells:=(cR (at',eG bs)).toArray) (aa rfl) rfl rfl rfl iE lZ rfl rfl rfl (mc (cd (du (by omega))) (by simp)) (λb60=>?_);change TL _ _ _ _ _ _ _ _ _ [ag b60 (cR (at',eG bs)) 187,ag b7 (cR (at',eG bs)) 187,ag d [(.map (some m)),wv,(.bool (ar)),(.int .i64 (lf)),(.bool (dn))] 161,own wv (ws.length) (dy ws) 187 65];refine EN (AL 4 ?_);refine LA 2 iE ?_;refine EN (AL 7 ?_);refine cE (k:=3) (news:=cR (at',eG bs)) (nn':=(ws++[(at',eG bs)]).length) (xs':=dy (ws++[(at',eG bs)])) (aa rfl) rfl rfl rfl iE lZ rfl rfl rfl rfl rfl rfl (λ_ _=>jl (cd (du (by omega))) (RO 0) (by rw[a8,aB (aK _)])) (ik _) (by simp only[maxLen];omega) (by omega) (by simp) (by simp[dy]) (λv61 ov61=>EN (PD 8 ?_));refine FD 9 1 gr gl ?_;refine AL 10 ?_;refine bv (i:=2) (aa rfl) rfl rfl rfl rfl ov61 gl rfl rfl (lb rfl) rfl rfl (EN (DN (ac J39 (sr λ_ J41=>PS ?_))));refine nx J41 (ai (WK [2,2] (au rfl rfl ?_)));show(if _ then _ else _)
 first
  | (rw[if_pos (by omega)];exact⟨rfl,rfl⟩)
  | (rw[if_neg (by omega),if_pos (by simp_all)];exact⟨rfl,by simp_all<;>rfl⟩)
  | (rw[if_neg (by omega),if_neg (by simp_all)];exact⟨rfl,v61,by simp_all<;>rfl⟩)
 exact bw
theorem tf(d m:Nat)(wv:Value)(ar:Bool)(lf:Int):
 DT 71 #[(.pointer (some ⟨d,0,none⟩))] T0 [ag d [(.map (some m)),wv,(.bool (ar)),(.int .i64 (lf)),(.bool true)] 161] (RI (.int .i64 4) [ag d [(.map (some m)),wv,(.bool (ar)),(.int .i64 (lf)),(.bool true)] 161]):=by
 refine BD 28 Tryz.func71 rfl rfl rfl λw0 F hF=>sr λ_ J1=>PS ?_
 refine nx J1 (ab λ_ J2=>sr λ_ J3=>P2 ?_);refine FA 4 gr ka ?_;refine LA 0 Y4 ?_;refine nx J3 (CY (sr λ_ J4=>PS ?_));exact nx J4 (ai (ae (WK [0] (au rfl rfl ⟨rfl,rfl⟩))))
theorem ww(d m:Nat)(wv:Value)(s ws:fx)(ar:Bool)(lf:Int)(hw:Whole ws):
 DT 71 #[(.pointer (some ⟨d,0,none⟩))] T0 [ag d [(.map (some m)),wv,(.bool (ar)),(.int .i64 (lf)),(.bool false)] 161,jD m (qN s),own wv (ws.length) (dy ws) 187 65] (RI (.int .i64 0) [ag d [(.map (some m)),(.slice none 0 0),(.bool (ar)),(.int .i64 (lf)),(.bool false)] 161,jD m (qN (Be s ws ws.length)),own (.slice none 0 0) 0 [] 187 65]):=by
 refine BD 28 Tryz.func71 rfl rfl rfl λw0 F hF=>sr λ_ J1=>kD 2 rfl rfl (λhwl _=>PS ?_)
 refine nx J1 (ab λ_ J2=>sr λ_ J3=>P2 ?_);refine FA 4 gr ka ?_;refine LA 0 Y4 ?_;refine nx J3 (CN (qx J2 (ab λ_ J4=>sr λ_ J5=>P2 ?_)));refine FA 1 gr gl ?_;refine LA 0 iE ?_;refine tp (dX rfl iE rfl hwl) ?_;refine PS ?_;refine nx J5 (aq ?_)
 refine bn (α:=(Nat)×(fx)) (λ⟨k,s'⟩=>k≤ws.length∧s'=Be s ws k) (λ⟨k,s'⟩=>[(0,(.pointer (some ⟨d,0,none⟩))),(2,(.int .i64 0)),(12,wv),(13,(.int .i64 (((ws.length:Nat):Int)))),(14,(.int .i64 (((k:Nat):Int))))]) (λ⟨k,s'⟩=>[ag d [(.map (some m)),wv,(.bool (ar)),(.int .i64 (lf)),(.bool false)] 161,jD m (qN s'),own wv (ws.length) (dy ws) 187 65]) (λ⟨k,s'⟩=>ws.length-k) (0,s)
  ⟨aN _,rfl⟩ SB
  (λ_ s=>s) (λ⟨k,s'⟩ hinv=>?_)
 obtain⟨hk,hs'⟩:=hinv;refine sr λ_ J6=>PS ?_
 refine an ?_ ?_<;>intro h15;refine jJ 2 rfl rfl (by omega) (λg cap hv hcap=>nx J6 (ab λ_ J7=>CY (qx J7 (ab λ_ J8=>aq (sr λ_ J9=>tp (bS (r:=k*65) hv rfl iE lX rfl rfl (by omega) (by omega) (by omega)) ?_)))));refine tp (N6 (vs:=cR (kC ws k)) rfl oD rfl lX rfl (fU 2 rfl hv rfl) (cd (dD hw (by omega))) (pY hw (by omega))) ?_;refine XA ED λb4=>?_
 refine bF (vs:=cR (kC ws k)) (i:=0) (aa rfl) rfl rfl rfl rfl rfl (by rw[cd (dD hw (by omega))];exact lX) (ik _) rfl rfl (by rw[cd (dD hw (by omega))];exact aK _) (fi (Eq.trans (rfl:_=65) (by rw[cd (dD hw (by omega))]:(cR (kC ws k)).length=65).symm)) rfl (nx J9 (ad (PS ?_)));refine FA 0 oD aP ?_;refine LA 0 Y3 ?_;refine FA 1 oD jq ?_;refine tp (aM (vs:=dY (kC ws k).2) rfl oR rfl jq rfl (RO 0) (by rw[aX];exact dD hw (by omega)) (uK (dD hw (by omega)))) ?_;refine CR Hg (oz d m wv s' ar false lf ((kC ws k).1) (kC ws k).2 (by exact dD hw (by omega))) (SM [1,1]) λvR HR hR=>?_
 subst hR;refine ap (af (ac J8 (ad (AD ?_))));refine PS ?_;refine ap ?_
 exact aI ((k+1,nG s' (kC ws k).1 (kC ws k).2):(Nat)×(fx)) ⟨by omega,by rw[hs'];rfl⟩ (by show ws.length- (k+1)<ws.length-k;omega)
  SB
  (λ_ s=>ak [0,0,1] rfl s)
 refine nx J6 (ab λ_ J10=>CN (aS (ay (ay (bj (ac J4 (sr λ_ J11=>P2 ?_)))))));refine FA 1 gr gl ?_;refine S0 0 gl ?_;refine nx J11 (sr λ_ J12=>PS ?_);refine nx J12 (ai (aF (H':=[ag d [(.map (some m)),(.slice none 0 0),(.bool (ar)),(.int .i64 (lf)),(.bool false)] 161,jD m (qN s'),own (.slice none 0 0) 0 [] 187 65]) (dh _) (λ_ s=>ee (List.Perm.trans (List.Perm.swap _ _ _) (List.Perm.cons _ (List.Perm.swap _ _ _))) (gy 187 65 (ak [0,0] rfl s))) (au rfl rfl ?_)));obtain rfl:k=ws.length:=by omega
 subst hs';exact⟨rfl,rfl⟩
theorem zC(d m:Nat)(wv:Value)(s ws:fx)(ar dn:Bool)(lf at':Int)(hs2:Whole s)(hw:Whole ws)(hb:ws.length≤1000000000):
 DT 130 #[(.pointer (some ⟨d,0,none⟩)),(.int .i64 (at'))] T0 [ag d [(.map (some m)),wv,(.bool (ar)),(.int .i64 (lf)),(.bool (dn))] 161,jD m (qN s),own wv (ws.length) (dy ws) 187 65] (RI (AP (iQ s ws at' ws.length)) [ag d [(.map (some m)),wv,(.bool (ar)),(.int .i64 (lf)),(.bool (dn))] 161,jD m (qN s),own wv (ws.length) (dy ws) 187 65]):=by
 refine BD 40 Tryz.func130 rfl rfl rfl λw0 F hF=>sr λ_ J1=>kD 2 rfl rfl (λhwl _=>XA Ca λb4=>?_)
 refine nx J1 (ab λ_ J2=>sr λ_ J3=>P2 ?_);refine FA 1 gr gl ?_;refine LA 1 iE ?_;refine tp (dX rfl iE rfl hwl) ?_;refine tp (iH rfl rfl rfl (bH (by omega) (by omega))) ?_;refine PS ?_;refine nx J3 (aq ?_)
 refine bn (α:=(Int)) (λp=> -1≤p∧p<ws.length∧iQ s ws at' (p+1).toNat=iQ s ws at' ws.length) (λp=>[(0,(.pointer (some ⟨d,0,none⟩))),(1,(.int .i64 (at'))),(4,(.pointer (some ⟨b4,0,none⟩))),(5,(.int .i64 (p)))]) (λp=>[ag b4 [(.int .u8 0),(.int .u8 0),(.int .u8 0),(.int .u8 0),(.int .u8 0),(.int .u8 0),(.int .u8 0),(.int .u8 0),(.int .u8 0),(.int .u8 0),(.int .u8 0),(.int .u8 0),(.int .u8 0),(.int .u8 0),(.int .u8 0),(.int .u8 0),(.int .u8 0),(.int .u8 0),(.int .u8 0),(.int .u8 0),(.int .u8 0),(.int .u8 0),(.int .u8 0),(.int .u8 0),(.int .u8 0),(.int .u8 0),(.int .u8 0),(.int .u8 0),(.int .u8 0),(.int .u8 0),(.int .u8 0),(.int .u8 0),(.int .u8 0),(.int .u8 0),(.int .u8 0),(.int .u8 0),(.int .u8 0),(.int .u8 0),(.int .u8 0),(.int .u8 0),(.int .u8 0),(.int .u8 0),(.int .u8 0),(.int .u8 0),(.int .u8 0),(.int .u8 0),(.int .u8 0),(.int .u8 0),(.int .u8 0),(.int .u8 0),(.int .u8 0),(.int .u8 0),(.int .u8 0),(.int .u8 0),(.int .u8 0),(.int .u8 0),(.int .u8 0),(.int .u8 0),(.int .u8 0),(.int .u8 0),(.int .u8 0),(.int .u8 0),(.int .u8 0),(.int .u8 0)] 128,ag d [(.map (some m)),wv,(.bool (ar)),(.int .i64 (lf)),(.bool (dn))] 161,jD m (qN s),own wv (ws.length) (dy ws) 187 65]) (λp=>(p+1).toNat) (((ws.length:Nat):Int)-1)
  ⟨by omega,by omega,by congr 1;omega⟩ SB
  (λ_ s=>s) (λp hinv=>?_)
 obtain⟨hp1,hp2,hp3⟩:=hinv;refine ab λ_ J4=>sr λ_ J5=>P2 ?_
 refine an ?_ ?_<;>intro h13;refine jJ 3 rfl rfl (by omega) (λg cap hv hcap=>nx J5 (CY (qx J4 (ab λ_ J6=>aq (sr λ_ J7=>P2 ?_)))));refine FA 1 gr gl ?_;refine LA 1 iE ?_;refine PS ?_;refine tp (bS (r:=p.toNat*65) hv rfl iE lX rfl rfl (by omega) (by omega) (by omega)) ?_;refine tp (aV (r:=p.toNat*65) rfl oD rfl aP rfl rfl) ?_;refine tp (cX (v:=(.int .i64 ((kC ws p.toNat).1))) rfl Y3 rfl rfl (fU 3 rfl hv rfl) (EJ hw (by omega))) ?_;refine P2 ?_;refine an ?_ ?_<;>intro h25;refine nx J7 (CY (sr λ_ J8=>P2 ?_));refine FA 1 gr gl ?_;refine LA 1 iE ?_;refine PS ?_;refine tp (bS (r:=p.toNat*65) hv rfl iE lX rfl rfl (by omega) (by omega) (by omega)) ?_;refine tp (aV (r:=p.toNat*65+1) rfl oD rfl jq rfl rfl) ?_;refine tp (N6 (vs:=dY (kC ws p.toNat).2) rfl oR rfl jq rfl (fU 3 rfl hv rfl) (by rw[aX];exact dD hw (by omega)) (EI hw (by omega))) ?_;refine bF (vs:=dY (kC ws p.toNat).2) (i:=0) (aa rfl) rfl rfl rfl rfl rfl (by rw[aX,dD hw (by omega)];exact jq) (eN _) rfl rfl (by rw[aX,dD hw (by omega)];exact aK _) (fi (Eq.trans (rfl:_=64) (by rw[aX,dD hw (by omega)]:(dY (kC ws p.toNat).2).length=64).symm)) rfl (nx J8 (ai (aH (ae (ae (aH (ae (xx (H':=[ag d [(.map (some m)),wv,(.bool (ar)),(.int .i64 (lf)),(.bool (dn))] 161,jD m (qN s),own wv (ws.length) (dy ws) 187 65]) rfl rfl oR rfl jq (RO 0) (by rw[aX];exact dD hw (by omega)) (λ_ s=>ak [1,1,1] rfl s) ?_))))))));have e:=Fk (s:=s) h25
 rw[show p.toNat+1=(p+1).toNat by omega,hp3]at e;exact⟨by rw[e];rfl,rfl⟩;refine nx J7 (CN (aQ (af (ac J6 (ad (PS ?_))))));refine tp (iH rfl rfl rfl (bH (by omega) (by omega))) ?_;refine PS ?_;refine ap ?_
 exact aI ((p-1):(Int)) ⟨by omega,by omega,by rw[←hp3,show(p+1).toNat=p.toNat+1 by omega,CC h25];congr 1;omega⟩ (by show(p-1+1).toNat< (p+1).toNat;omega)
  SB
  (λ_ s=>s)
 refine nx J5 (CN (aS (ay (ay (bj (ac J2 (sr λ_ J9=>P2 ?_)))))));refine FA 0 gr Aq ?_;refine LA 1 xu ?_;refine PS ?_;refine tp (PV.lookup rfl xu Y3 Ca rfl rfl (RdM.own 2 rfl rfl) (wg _ _)) ?_;refine bF (vs:=dY (it s at')) (i:=0) (aa rfl) rfl rfl rfl rfl rfl (by rw[aX,cr hs2];exact jq) (eN _) rfl rfl (by rw[aX,cr hs2];exact aK _) (fi (Eq.trans (rfl:_=64) (by rw[aX,cr hs2]:(dY (it s at')).length=64).symm)) rfl (nx J9 (ai (xx (H':=[ag d [(.map (some m)),wv,(.bool (ar)),(.int .i64 (lf)),(.bool (dn))] 161,jD m (qN s),own wv (ws.length) (dy ws) 187 65]) rfl rfl oR rfl jq (RO 0) (by rw[aX];exact cr hs2 _) (λ_ s=>ak [1,1,1] rfl s) ?_)));rw[show(p+1).toNat=0 by omega]at hp3;exact⟨by rw[←hp3];rfl,rfl⟩
theorem xl(d m:Nat)(wv:Value)(s ws:fx)(ar dn:Bool)(lf mask torn n:Int)(hs1:Whole s)(hw:Whole ws):
 DT 62 #[(.pointer (some ⟨d,0,none⟩)),(.int .i64 (mask)),(.int .i64 (torn)),(.int .i64 (n))] T0 [ag d [(.map (some m)),wv,(.bool (ar)),(.int .i64 (lf)),(.bool (dn))] 161,jD m (qN s),own wv (ws.length) (dy ws) 187 65] (c9 (λ_ H=>H=[ag d [(.map (some m)),(.slice none 0 0),(.bool false),(.int .i64 0),(.bool false)] 161,jD m (qN (mN mask torn (pL n) s ws ws.length)),own (.slice none 0 0) 0 [] 187 65])):=by
 refine BD 70 Tryz.func62 rfl rfl rfl λw0 F hF=>sr λ_ J1=>kD 2 rfl rfl (λhwl _=>PS ?_)
 refine tp (xD rfl rfl rfl) ?_;refine tp (N4 (v':=(.int .i64 (((pL n:Nat):Int)))) (PV.minI rfl rfl rfl) (congrArg (Value.int .i64) (I2 n))) ?_;refine PS ?_;refine nx J1 (ab λ_ J2=>sr λ_ J3=>P2 ?_);refine FA 1 gr gl ?_;refine LA 0 iE ?_;refine tp (dX rfl iE rfl hwl) ?_;refine PS ?_;refine nx J3 (aq ?_)
 refine bn (α:=(Nat)×(fx)) (λ⟨k,s'⟩=>k≤ws.length∧s'=mN mask torn (pL n) s ws k) (λ⟨k,s'⟩=>[(0,(.pointer (some ⟨d,0,none⟩))),(1,(.int .i64 (mask))),(2,(.int .i64 (torn))),(3,(.int .i64 (((pL n:Nat):Int)))),(17,wv),(18,(.int .i64 (((ws.length:Nat):Int)))),(19,(.int .i64 (((k:Nat):Int))))]) (λ⟨k,s'⟩=>[ag d [(.map (some m)),wv,(.bool (ar)),(.int .i64 (lf)),(.bool (dn))] 161,jD m (qN s'),own wv (ws.length) (dy ws) 187 65]) (λ⟨k,s'⟩=>ws.length-k) (0,s)
  ⟨aN _,rfl⟩ SB
  (λ_ s=>s) (λ⟨k,s'⟩ hinv=>?_)
 obtain⟨hk,hs'⟩:=hinv;have hs2:Whole s':=by rw[hs'];exact hs1.crash hw k hk
 have hcn:=sn n;refine sr λ_ J4=>PS ?_
 refine an ?_ ?_<;>intro h20;refine jJ 2 rfl rfl (by omega) (λg cap hv hcap=>nx J4 (ab λ_ J5=>CY (qx J5 (ab λ_ J6=>aq (sr λ_ J7=>PS ?_)))));refine tp (bS (r:=k*65) hv rfl iE lX rfl rfl (by omega) (by omega) (by omega)) ?_;refine tp (N6 (vs:=cR (kC ws k)) rfl oD rfl lX rfl (fU 2 rfl hv rfl) (cd (dD hw (by omega))) (pY hw (by omega))) ?_;refine XA ED λb9=>?_
 refine PS ?_;refine bF (vs:=cR (kC ws k)) (i:=0) (aa rfl) rfl rfl rfl rfl rfl (by rw[cd (dD hw (by omega))];exact lX) (ik _) rfl rfl (by rw[cd (dD hw (by omega))];exact aK _) (fi (Eq.trans (rfl:_=65) (by rw[cd (dD hw (by omega))]:(cR (kC ws k)).length=65).symm)) rfl (nx J7 (sr λ_ J8=>P3 ?_));refine an ?_ ?_<;>intro h26;refine nx J8 (CY (ab λ_ J9=>lR (λw=>Frm F w∧w.heap[d]?=some (.cells ([(.map (some m)),wv,(.bool (ar)),(.int .i64 (lf)),(.bool (dn))]).toArray 161 (0,0))∧Hm m (qN s') w∧w.heap[b9]?=some (.cells (cR (kC ws k)).toArray 187 (0,0))∧True) df rfl (λ_ s=>⟨dT s,s.block 1 (lb rfl) rfl,s.map 2 rfl rfl,s.block 0 (lb rfl) rfl,trivial⟩) (PD 0 ?_)));refine PD 1 ?_;refine FD 2 0 gr Aq ?_;refine LX 3 xu (.map (some m)) ?_ (hc:=by exact rfl);refine FD 4 0 oD aP ?_;refine LX 5 Y3 (.int .i64 ((kC ws k).1)) ?_ (hc:=by exact rfl);refine ta 6 rfl (PV.lookup rfl xu Y3 Ca rfl rfl (λ_ h=>h.2.2.1) (wg _ _)) ?_;refine AL 7 ?_;refine XA Ca λb10=>?_
 refine ap (mT (λ_ s=>⟨dT s,s.block 2 (lb rfl) rfl,s.map 3 rfl rfl,s.block 1 (lb rfl) rfl,trivial⟩) (AL 8 ?_));refine bF (vs:=dY (it s' ((kC ws k).1))) (i:=0) (aa rfl) rfl rfl rfl rfl rfl (by rw[aX,cr hs2];exact jq) (eN _) rfl rfl (by rw[aX,cr hs2];exact aK _) (fi (Eq.trans (rfl:_=64) (by rw[aX,cr hs2]:(dY (it s' ((kC ws k).1))).length=64).symm)) rfl (ap (mT (λ_ s=>⟨dT s,s.block 2 (lb rfl) rfl,s.map 3 rfl rfl,s.block 1 (lb rfl) rfl,trivial⟩) (DN (ac J9 (ab λ_ J10=>D1 1 df ?_)))));refine PD 0 ?_;refine ta 1 rfl (NZ (k:=pL n) rfl oR kV rfl rfl (by omega) (by omega) rfl) ?_;refine FD 2 1 oD jq ?_;refine PD 3 ?_;refine ta 4 rfl (NZ (k:=pL n) rfl oR kV rfl rfl (by omega) (by omega) rfl) ?_;refine AL 5 ?_;refine KT (i:=0) (m:=pL n) (news:=((dY (kC ws k).2).take (pL n))) (H':=[ag b10 (dY (rz (it s' ((kC ws k).1)) (kC ws k).2 (pL n))) 128,ag b9 (cR (kC ws k)) 187,ag d [(.map (some m)),wv,(.bool (ar)),(.int .i64 (lf)),(.bool (dn))] 161,jD m (qN s'),own wv (ws.length) (dy ws) 187 65]) (aa rfl) rfl rfl rfl gq kV rfl rfl rfl rfl (λ_ _=>jl (by rw[bG,aX,dD hw (by omega)];have:=sn n;omega) (RO 1) (by rw[bG,aX,dD hw (by omega)];exact Ae (dD hw (by omega)) (sn n))) (λu hu=>eN _ u (lG hu)) (by rw[aX,cr hs2];have:=sn n;omega) (EP (sn n) (cr hs2 _) (dD hw (by omega)) (by omega)) rfl (EN (DN (ac J10 (ad (PS ?_)))));refine FA 0 oD aP ?_;refine LA 1 Y3 ?_
 refine tp (aM (vs:=dY (rz (it s' ((kC ws k).1)) (kC ws k).2 (pL n))) rfl oR rfl jq rfl (RO 0) (by rw[aX];exact pZ (cr hs2 _) (dD hw (by omega))) (uW (by rw[aX];exact pZ (cr hs2 _) (dD hw (by omega))))) ?_;refine CR Hg (oz d m wv s' ar (dn) lf ((kC ws k).1) (rz (it s' ((kC ws k).1)) (kC ws k).2 (pL n)) (by exact pZ (cr hs2 _) (dD hw (by omega)))) (SM [2,2]) λvR HR hR=>?_
 subst hR;refine ap (af (ac J6 (ad (AD ?_))));refine PS ?_;refine ap ?_
 exact aI ((k+1,nG s' (kC ws k).1 (rz (it s' (kC ws k).1) (kC ws k).2 (pL n))):(Nat)×(fx)) ⟨by omega,by rw[hs',mN,mn,if_pos h26]⟩ (by show ws.length- (k+1)<ws.length-k;omega)
  SB
  (λ_ s=>ak [0,0,2] rfl s)
 refine nx J8 (CN (sr λ_ J11=>P2 ?_));refine tp (PV.rem (r:=((k%32:Nat):Int)) rfl rfl rfl (by omega) (by rw[show(32:Int)=((32:Nat):Int)from rfl,←Int.ofNat_tmod])) ?_;refine tp (lD (r:=mask.fdiv (2^ (k%32))) rfl rfl rfl (by omega) (by congr 2;show min ((k%32:Nat):Int).toNat 64=k%32;omega)) ?_;refine tp (uu (r:=mask.fdiv (2^ (k%32))%2) rfl rfl rfl (NQ _)) ?_;refine PS ?_;refine an ?_ ?_<;>intro h50;refine nx J11 (CY (ad (PS ?_)));refine FA 0 oD aP ?_;refine LA 0 Y3 ?_;refine FA 1 oD jq ?_;refine tp (aM (vs:=dY (kC ws k).2) rfl oR rfl jq rfl (RO 0) (by rw[aX];exact dD hw (by omega)) (uK (dD hw (by omega)))) ?_;refine CR Hg (oz d m wv s' ar (dn) lf ((kC ws k).1) (kC ws k).2 (by exact dD hw (by omega))) (SM [1,1]) λvR HR hR=>?_
 subst hR;refine ap (af (ac J6 (ad (AD ?_))));refine PS ?_;refine ap ?_
 exact aI ((k+1,nG s' (kC ws k).1 (kC ws k).2):(Nat)×(fx)) ⟨by omega,by rw[hs',mN,mn,if_neg h26,if_pos h50]⟩ (by show ws.length- (k+1)<ws.length-k;omega)
  SB
  (λ_ s=>ak [0,0,1] rfl s)
 refine nx J11 (CN (aQ (af (ac J6 (ad (AD ?_))))));refine PS ?_;refine ap ?_
 exact aI ((k+1,s'):(Nat)×(fx)) ⟨by omega,by rw[mN,mn,if_neg h26,if_neg h50];exact hs'⟩ (by show ws.length- (k+1)<ws.length-k;omega)
  SB
  (λ_ s=>ak [1,1,1] rfl s)
 refine nx J4 (ab λ_ J12=>CN (aS (ay (ay (bj (ac J2 (ad ?_)))))))
 iterate 5 refine PS ?_
 refine FA 1 gr gl ?_;refine S0 0 gl ?_;refine PS ?_;refine FA 2 gr ka ?_;refine S0 0 ka ?_;refine PS ?_;refine FA 3 gr aP ?_;refine S0 0 aP ?_;refine PS ?_;refine FA 4 gr ka ?_;refine S0 0 ka ?_;refine ap (aF (H':=[ag d [(.map (some m)),(.slice none 0 0),(.bool false),(.int .i64 0),(.bool false)] 161,jD m (qN s'),own (.slice none 0 0) 0 [] 187 65]) (dh _) (λ_ s=>ee (List.Perm.trans (List.Perm.swap _ _ _) (List.Perm.cons _ (List.Perm.swap _ _ _))) (gy 187 65 (ak [0,0] rfl s))) (bz rfl ?_));obtain rfl:k=ws.length:=by omega
 subst hs';exact rfl
theorem Jm:Tryz.prog.eqGuardType Tryz.prog.depth 128=false:=by kernel_rfl
theorem Jk:Tryz.prog.keyTypeAt 2 128=true:=by kernel_rfl
theorem Jn:kK Tryz.prog 2 128=some (List.replicate 64 (some .u8)):=by kernel_rfl
theorem Jp:BQ Tryz.prog 128=true:=by kernel_rfl
theorem Jo:Tryz.prog.cellsOf 128=64:=by kernel_rfl
abbrev dk(d:Nat)(D:DS):HP:=MF 161 187 d D
theorem Et(d:Nat)(D:DS):DT 57 #[(.pointer (some ⟨d,0,none⟩))] T0 [dk d D] (RI (.bool D.dn) [dk d (D)]):=Leg.Does.pack (B:=[]) λ⟨m,wv⟩=>
 Leg.Does.withinR (zD d m wv D.ar D.dn D.lf) (B:=[jD m (qN D.s),own wv D.ws.length (dy D.ws) 187 65]) (λ_ _ _ _=>trivial) (λ_ s=>s) (λv H h=>by
  obtain⟨rfl,rfl⟩:=h
  exact⟨_,λ_ s=>bi (H:=[]) (m,wv) (s),rfl,rfl⟩)
theorem KF(d:Nat)(D:DS)(n:Int):DT 61 #[(.pointer (some ⟨d,0,none⟩)), .int .i64 n] T0 [dk d D] (c9 (λv H=>True∧H=[dk d (D.arm n)])):=Leg.Does.pack (B:=[]) λ⟨m,wv⟩=>
 Leg.Does.withinR (Bx d m wv D.ar D.dn D.lf n) (B:=[jD m (qN D.s),own wv D.ws.length (dy D.ws) 187 65]) (λ_ _ _ _=>trivial) (λ_ s=>s) (λv H h=>by
  subst h
  exact⟨_,λ_ s=>bi (H:=[]) (m,wv) s,trivial,rfl⟩)
theorem IW(d:Nat)(D:DS)(at':Int)(hD:D.Ok):DT 68 #[(.pointer (some ⟨d,0,none⟩)), .int .i64 at'] T0 [dk d D] (RI (AP (it D.s at')) [dk d (D)]):=Leg.Does.pack (B:=[]) λ⟨m,wv⟩=>
 Leg.Does.withinR (zB d m wv D.s D.ar D.dn D.lf at' hD.s) (B:=[own wv D.ws.length (dy D.ws) 187 65]) (λ_ _ _ _=>trivial) (λ_ s=>s) (λv H h=>by
  obtain⟨rfl,rfl⟩:=h
  exact⟨_,λ_ s=>bi (H:=[]) (m,wv) (s),rfl,rfl⟩)
theorem zF(d:Nat)(D:DS)(at':Int)(hD:D.Ok)(hb:D.ws.length≤1000000000):DT 130 #[(.pointer (some ⟨d,0,none⟩)), .int .i64 at'] T0 [dk d D] (RI (AP (D.read at')) [dk d (D)]):=Leg.Does.pack (B:=[]) λ⟨m,wv⟩=>
 Leg.Does.withinR (zC d m wv D.s D.ws D.ar D.dn D.lf at' hD.s hD.ws hb) (B:=[]) (λ_ _ _ _=>trivial) (λ_ s=>s) (λv H h=>by
  obtain⟨rfl,rfl⟩:=h
  exact⟨_,λ_ s=>bi (H:=[]) (m,wv) (s),rfl,rfl⟩)
theorem BB(d:Nat)(D:DS)(mask torn n:Int)(hD:D.Ok):DT 62 #[(.pointer (some ⟨d,0,none⟩)), .int .i64 mask, .int .i64 torn, .int .i64 n] T0 [dk d D] (c9 (λv H=>True∧H=[dk d (D.crash mask torn n)])):=Leg.Does.pack (B:=[]) λ⟨m,wv⟩=>
 Leg.Does.withinR (xl d m wv D.s D.ws D.ar D.dn D.lf mask torn n hD.s hD.ws) (B:=[]) (λ_ _ _ _=>trivial) (λ_ s=>s) (λv H h=>by
  subst h
  exact⟨_,λ_ s=>bi (H:=[]) (m,(.slice none 0 0:Value)) s,trivial,rfl⟩)
theorem wx(d:Nat)(D:DS)(at':Int)(x:Value)(bs:List UInt8)(hD:D.Ok)(hb:D.ws.length≤1000000000):DT 70 #[(.pointer (some ⟨d,0,none⟩)), .int .i64 at',x] (IsW x bs) [dk d D] (RI (.int .i64 (D.write at' bs).1) [dk d ((D.write at' bs).2)]):=Leg.Does.pack (B:=[]) λ⟨m,wv⟩=>
 Leg.Does.withinR (xk d m wv D.ws D.ar D.dn D.lf at' x bs hD.lf hb) (B:=[jD m (qN D.s)]) (λ_ _ h d=>h.more d) (λ_ s=>az [0,1] rfl s) (λv H h=>by
  unfold DS.write;replace h:(if at'<0∨2048≤at'∨64<bs.length then _ else _):=h;split at h<;>rename_i h1
  · rw[if_pos h1]
    obtain⟨rfl,rfl⟩:=h;exact⟨_,λ_ s=>bi (H:=[]) (m,wv) (az [0,1] rfl s),rfl,rfl⟩
  · rw[if_neg h1]
    split at h<;>rename_i h2
    · rw[if_pos h2]
      obtain⟨rfl,rfl⟩:=h;exact⟨_,λ_ s=>bi (H:=[]) (m,wv) (az [0,1] rfl s),rfl,rfl⟩
    · rw[if_neg h2]
      obtain⟨rfl,wv',rfl⟩:=h
      exact⟨_,λ_ s=>bi (H:=[]) (m,wv') (az [0,1] rfl s),rfl,rfl⟩)
theorem zE(d:Nat)(D:DS)(hD:D.Ok):DT 71 #[(.pointer (some ⟨d,0,none⟩))] T0 [dk d D] (RI (.int .i64 D.sync.1) [dk d D.sync.2]):=by
 obtain⟨s,ws,ar,lf,dn⟩:=D;cases dn
 · exact Leg.Does.pack (B:=[]) λ⟨m,wv⟩=>Leg.Does.withinR (ww d m wv s ws ar lf hD.ws) (B:=[]) (λ_ _ _ _=>trivial) (λ_ s=>s) (λv H h=>by
    obtain⟨rfl,rfl⟩:=h
    exact⟨_,λ_ s=>bi (H:=[]) (m,(.slice none 0 0:Value)) s,rfl,rfl⟩)
 · exact Leg.Does.pack (B:=[]) λ⟨m,wv⟩=>Leg.Does.withinR (tf d m wv ar lf) (B:=[jD m (qN s),own wv ws.length (dy ws) 187 65]) (λ_ _ _ _=>trivial) (λ_ s=>s) (λv H h=>by
    obtain⟨rfl,rfl⟩:=h
    exact⟨_,λ_ s=>bi (H:=[]) (m,wv) s,rfl,rfl⟩)
theorem Ds:DT 54 #[] T0 [] (c9 (λv H=>∃d,v= .pointer (some ⟨d,0,none⟩)∧H=[dk d DS.new])):=
 Leg.Does.withinR Bw (B:=[]) (λ_ _ _ _=>trivial) (λ_ s=>s) (λv H h=>by
  obtain⟨d,m,rfl,rfl⟩:=h
  exact⟨_,λ_ s=>bi (H:=[]) (m,(.slice none 0 0:Value)) (ee (List.Perm.trans (List.Perm.swap _ _ _) (List.Perm.cons _ (List.Perm.swap _ _ _))) (gy 187 65 s)),d,rfl,rfl⟩)
end Go.Proofs.YtjblgopghhgflaaGreat
end

section
namespace Wal
open Go Leg Codec Api Dsk
theorem s5{x y:Int}(k:Nat)(hx:0≤x)(hx2:x<2^k)(hy:0≤y)(h:x+y*2^k<4294967296):iu .u32 x (y*2^k)=x+y*2^k:=by
 obtain⟨a,rfl⟩:=Int.eq_ofNat_of_zero_le hx;obtain⟨b,rfl⟩:=Int.eq_ofNat_of_zero_le hy;have e2:((b:Nat):Int)*2^k=((b*2^k:Nat):Int):=by simp
 rw[e2]at h ⊢
 have ha:a<2^k:=by
  have:(((2:Nat)^k:Nat):Int)=(2:Int)^k:=by simp
  omega
 have hs:a+b*2^k<4294967296:=by omega
 have h1:(BitVec.ofInt 32 (a:Int)).toNat=a:=by rw[BitVec.toNat_ofInt];omega
 have h2:(BitVec.ofInt 32 ((b*2^k:Nat):Int)).toNat=b*2^k:=by
  rw[BitVec.toNat_ofInt];generalize b*2^k=q at*;omega
 have h3:a|||b*2^k=a+b*2^k:=by
  rw[Nat.or_comm,←Nat.shiftLeft_eq,←Nat.shiftLeft_add_eq_or_of_lt ha,lU]
 show IntKind.u32.wrap (((BitVec.ofInt 32 (a:Int))||| (BitVec.ofInt 32 ((b*2^k:Nat):Int))).toNat:Nat)=_;rw[BitVec.toNat_or,h1,h2,h3];generalize b*2^k=q at*;rw[ke (by omega) (by omega)];omega
theorem FC{x y:Int}(k:Nat)(hx:0≤x)(hx2:x<2^k)(hy:0≤y)(h:x+y*2^k<9223372036854775808):iu .i64 (y*2^k) x=x+y*2^k:=by
 obtain⟨a,rfl⟩:=Int.eq_ofNat_of_zero_le hx;obtain⟨b,rfl⟩:=Int.eq_ofNat_of_zero_le hy;have e2:((b:Nat):Int)*2^k=((b*2^k:Nat):Int):=by simp
 rw[e2]at h ⊢
 have ha:a<2^k:=by
  have:(((2:Nat)^k:Nat):Int)=(2:Int)^k:=by simp
  omega
 have h1:(BitVec.ofInt 64 (a:Int)).toNat=a:=by rw[BitVec.toNat_ofInt];omega
 have h2:(BitVec.ofInt 64 ((b*2^k:Nat):Int)).toNat=b*2^k:=by
  rw[BitVec.toNat_ofInt];generalize b*2^k=q at*;omega
 have h3:b*2^k|||a=a+b*2^k:=by
  rw[←Nat.shiftLeft_eq,←Nat.shiftLeft_add_eq_or_of_lt ha,lU]
 show IntKind.i64.wrap (((BitVec.ofInt 64 ((b*2^k:Nat):Int))||| (BitVec.ofInt 64 (a:Int))).toNat:Nat)=_;rw[BitVec.toNat_or,h1,h2,h3];generalize b*2^k=q at*;rw[bH (by omega) (by omega)];omega
theorem EL(x:Int):0≤IntKind.u32.wrap x∧IntKind.u32.wrap x<4294967296:=by
 simp only[IntKind.wrap,IntKind.signed,IntKind.bits];simp;omega
theorem zX(a b:Int):0≤o5 .u32 a b∧o5 .u32 a b<4294967296:=EL _
def r8(x:Int):UInt8:=UInt8.ofNat (x%256).toNat
theorem lL(x:Int):(((r8 x).toNat:Nat):Int)=x%256:=by
 have:(x%256).toNat<256:=by omega
 simp only[r8,UInt8.toNat_ofNat'];omega
theorem r8_wrap(x:Int):IntKind.u8.wrap x=(((r8 x).toNat:Nat):Int):=by
 rw[lL];simp only[IntKind.wrap,IntKind.signed,IntKind.bits];simp
def Dv(r:Int):Int:=if sw .u32 r 1=1 then o5 .u32 (r.fdiv 2) 3988292384 else r.fdiv 2
def mf(r:Int):Nat→Int
 |0=>r
 |k+1=>Dv (mf r k)
def Ew(r:Int)(c:UInt8):Int:=mf (o5 .u32 r ((c.toNat:Nat):Int)) 8
def fg(r:Int)(bs:List UInt8):Int:=bs.foldl Ew r
def fO(bs:List UInt8):Int:=o5 .u32 4294967295 (fg 4294967295 bs)
theorem BE{r:Int}{bs:List UInt8}{k:Nat}(h:k<bs.length):fg r (bs.take (k+1))=Ew (fg r (bs.take k)) (bs.getD k 0):=by
 rw[fg,fg,co h,eM,List.getD_eq_getElem?_getD,List.getElem?_eq_getElem h];rfl
theorem xm(r:Int)(a b:List UInt8):fg r (a++b)=fg (fg r a) b:=by simp[fg]
theorem BF{r:Int}{ps:List (List UInt8)}{k:Nat}(h:k<ps.length):fg r (ps.take (k+1)).flatten=fg (fg r (ps.take k).flatten) ps[k]:=by
 rw[co h,List.flatten_append,xm];simp
theorem BG(bs:List UInt8):0≤fO bs∧fO bs<4294967296:=zX _ _
def NN(r:Int):List UInt8:=[r8 r,r8 (r.fdiv 256),r8 (r.fdiv 65536),r8 (r.fdiv 16777216)]
def Ht(a b c d:UInt8):Int:=
 iu .u32 (iu .u32 (iu .u32 ((a.toNat:Nat):Int) (IntKind.u32.wrap (((b.toNat:Nat):Int)*2^8))) (IntKind.u32.wrap (((c.toNat:Nat):Int)*2^16))) (IntKind.u32.wrap (((d.toNat:Nat):Int)*2^24))
theorem IN(a b c d:UInt8):Ht a b c d=((a.toNat:Nat):Int)+((b.toNat:Nat):Int)*256+((c.toNat:Nat):Int)*65536+((d.toNat:Nat):Int)*16777216:=by
 have ha:=a.toNat_lt;have hb:=b.toNat_lt;have hc:=c.toNat_lt;have hd:=d.toNat_lt;unfold Ht;generalize a.toNat=a at*;generalize b.toNat=b at*;generalize c.toNat=c at*;generalize d.toNat=d at*;rw[ke (x:=(b:Int)*2^8) (by omega) (by omega),ke (x:=(c:Int)*2^16) (by omega) (by omega),ke (x:=(d:Int)*2^24) (by omega) (by omega)];rw[s5 8 (by omega) (by omega) (by omega) (by omega),s5 16 (by omega) (by omega) (by omega) (by omega),s5 24 (by omega) (by omega) (by omega) (by omega)];omega
def pA(bs:List UInt8):List UInt8:=bs++NN (fO bs)
def mA(bs:List UInt8):Option (List UInt8):=
 if bs.length<4 then none
 else if fO (bs.take (bs.length-4))=Ht ((bs.drop (bs.length-4)).getD 0 0) ((bs.drop (bs.length-4)).getD 1 0) ((bs.drop (bs.length-4)).getD 2 0) ((bs.drop (bs.length-4)).getD 3 0)then some (bs.take (bs.length-4))else none
theorem kq(bs:List UInt8):(pA bs).length=bs.length+4:=by simp[pA,NN]
theorem Hs{r:Int}(h:0≤r∧r<4294967296):Ht (r8 r) (r8 (r.fdiv 256)) (r8 (r.fdiv 65536)) (r8 (r.fdiv 16777216))=r:=by
 rw[IN,lL,lL,lL,lL,Int.fdiv_eq_ediv_of_nonneg _ (by decide),Int.fdiv_eq_ediv_of_nonneg _ (by decide),Int.fdiv_eq_ediv_of_nonneg _ (by decide)];omega
theorem qw(bs:List UInt8):mA (pA bs)=some bs:=by
 have hl:=kq bs;have e1:(pA bs).take (bs.length+4-4)=bs:=by rw[Gk,pA];exact sB
 have e2:(pA bs).drop (bs.length+4-4)=NN (fO bs):=by rw[Gk,pA];exact B2
 unfold mA;rw[hl,if_neg (by omega),e1,e2];exact if_pos (Hs (BG bs)).symm
theorem xR{bs t:List UInt8}(h:mA bs=some t):t.length+4=bs.length:=by
 unfold mA at h;split at h
 · cases h
 · split at h
   · injection h with h;subst h;rw[bG];omega
   · cases h
def bq(n:Nat):Nat:=if n=0 then 1 else(n-1) / 52+1
theorem pB(n:Nat):0<bq n:=by unfold bq;split<;>omega
theorem vG{n:Nat}(h:n≤3000):bq n≤58:=by unfold bq;split<;>omega
theorem xc(n:Nat):n≤bq n*52:=by unfold bq;split<;>omega
def Ig(n:Int):List UInt8:=[r8 (n.fdiv 16777216),r8 (n.fdiv 65536),r8 (n.fdiv 256),r8 n]
def Gg(bs:List UInt8):Int:=bs.foldl (λh c=>iu .i64 (IntKind.i64.wrap (h*2^8)) ((c.toNat:Nat):Int)) 0
theorem HU{bs:List UInt8}{k:Nat}(h:k<bs.length):Gg (bs.take (k+1))=iu .i64 (IntKind.i64.wrap (Gg (bs.take k)*2^8)) (((bs.getD k 0).toNat:Nat):Int):=by
 rw[Gg,Gg,co h,eM,List.getD_eq_getElem?_getD,List.getElem?_eq_getElem h];rfl
theorem uE{h:Int}(c:UInt8)(h0:0≤h)(h1:h<4294967296):iu .i64 (IntKind.i64.wrap (h*2^8)) ((c.toNat:Nat):Int)=h*256+((c.toNat:Nat):Int):=by
 have hc:=c.toNat_lt;generalize c.toNat=c at*;rw[bH (by omega) (by omega),FC 8 (by omega) (by omega) (by omega) (by omega)];omega
theorem HV(a b c d:UInt8):Gg [a,b,c,d]=((a.toNat:Nat):Int)*16777216+((b.toNat:Nat):Int)*65536+((c.toNat:Nat):Int)*256+((d.toNat:Nat):Int):=by
 have ha:=a.toNat_lt;have hb:=b.toNat_lt;have hc:=c.toNat_lt;have hd:=d.toNat_lt;simp only[Gg,List.foldl_cons,List.foldl_nil];rw[uE a (by omega) (by omega),uE b (by omega) (by omega),uE c (by omega) (by omega),uE d (by omega) (by omega)];omega
theorem Ja{n:Int}(h0:0≤n)(h1:n<4294967296):Gg (Ig n)=n:=by
 rw[Ig,HV,lL,lL,lL,lL,Int.fdiv_eq_ediv_of_nonneg _ (by decide),Int.fdiv_eq_ediv_of_nonneg _ (by decide),Int.fdiv_eq_ediv_of_nonneg _ (by decide)];omega
def gg(b:List UInt8)(i:Nat):List UInt8:=(b.drop (i*52)).take 52
theorem sX(b:List UInt8)(i:Nat):(gg b i).length≤52:=by rw[gg,bG];omega
theorem IA{n k:Nat}(h:k<bq n):k*52≤n:=by unfold bq at h;split at h<;>omega
theorem IB(b:List UInt8)(k:Nat):((b.take (min ((k+1)*52) b.length)).drop (k*52))=gg b k:=by
 rw[gg,n4,fD,Nat.one_mul]
 by_cases q:k*52+52≤b.length
 · rw[Nat.min_eq_left q,ci]
 · rw[Nat.min_eq_right (by omega),aB (by rw[dS];omega),aB (by rw[dS];omega)]
theorem Fy(b:List UInt8): ∀k,b.length≤k*52→((List.range k).map (gg b)).flatten=b:=by
 have key: ∀k,((List.range k).map (gg b)).flatten=b.take (k*52):=by
  intro k
  induction k with
  |zero=>simp
  |succ k ih=>
   rw[cO,cQ,List.flatten_append,ih,fD,Nat.one_mul,List.take_add];simp[gg]
 intro k hk;rw[key,aB hk]
def jp(number:Int)(place all:Nat)(p:List UInt8):List UInt8:=Ig number++([r8 (place:Int),r8 (all:Int),r8 (p.length:Int)]++(p++List.replicate (52-p.length) 0))
theorem jd{number:Int}{place all:Nat}{p:List UInt8}(h:p.length≤52):(jp number place all p).length=59:=by simp[jp,Ig];omega
def pv(number:Int)(place all:Nat)(p:List UInt8):jK:=pA (jp number place all p)++[1]
theorem E6{number:Int}{place all:Nat}{p:List UInt8}(h:p.length≤52):(pv number place all p).length=64:=by simp[pv,kq,jd h]
def cf(number:Int)(b:List UInt8):List jK:=(List.range (bq b.length)).map λi=>pv number i (bq b.length) (gg b i)
def mD(number:Int)(b:List UInt8)(k:Nat):List jK:=(List.range k).map λi=>pv number i (bq b.length) (gg b i)
theorem Ct(number:Int)(b:List UInt8)(k:Nat):mD number b (k+1)=mD number b k++[pv number k (bq b.length) (gg b k)]:=by simp[mD,cO]
theorem xS(number:Int)(b:List UInt8)(k:Nat):(mD number b k).length=k:=by simp[mD]
theorem ER{number:Int}{place all:Nat}{p:List UInt8}(h:p.length≤52):
 wr (dY (Ig number++([r8 (place:Int),r8 (all:Int),r8 (p.length:Int)]++List.replicate 52 0))) 7 ((dY p).take (min p.length 52))=dY (jp number place all p):=by
 have e:(dY p).take (min p.length 52)=dY p:=aB (by rw[aX];omega);rw[e,wr,aX];have e2:(dY (Ig number++([r8 (place:Int),r8 (all:Int),r8 (p.length:Int)]++List.replicate 52 0))).take 7=dY (Ig number++[r8 (place:Int),r8 (all:Int),r8 (p.length:Int)]):=rfl
 have e3:(dY (Ig number++([r8 (place:Int),r8 (all:Int),r8 (p.length:Int)]++List.replicate 52 0))).drop (7+p.length)=dY (List.replicate (52-p.length) 0):=by
  rw[←jN];have:(dY (Ig number++([r8 (place:Int),r8 (all:Int),r8 (p.length:Int)]++List.replicate 52 0))).drop 7=dY (List.replicate 52 0):=rfl;rw[this,dY,dY,←kF,List.drop_replicate]
 rw[e2,e3,jp];simp[dY]
theorem eu(number:Int)(b:List UInt8):(cf number b).length=bq b.length:=by simp[cf]
def fe(s:jK)(number place:Int):Option (List UInt8×Int):=
 match mA (s.take 63)with
 |none=>none
 |some t=>if s.getD 63 0≠1 then none
  else if Gg (t.take 4)≠number∨(((t.getD 4 0).toNat:Nat):Int)≠place∨place≥(((t.getD 5 0).toNat:Nat):Int)∨(((t.getD 6 0).toNat:Nat):Int)>52 then none
  else some ((t.drop 7).take (t.getD 6 0).toNat,(((t.getD 5 0).toNat:Nat):Int))
theorem A2{number:Int}{place all:Nat}{p:List UInt8}(h:p.length≤52)(h0:0≤number)(h1:number<4294967296)(hp:place<all)(ha:all≤255):fe (pv number place all p) number place=some (p,(all:Int)):=by
 have e1:(pv number place all p).take 63=pA (jp number place all p):=by
  rw[pv,ck (by rw[kq,jd h];omega),aB (by rw[kq,jd h];omega)]
 have e2:(pv number place all p).getD 63 0=1:=by
  rw[pv,List.getD_eq_getElem?_getD,List.getElem?_append_right (by rw[kq,jd h];omega),kq,jd h];rfl
 have n1:(((r8 (place:Int)).toNat:Nat):Int)=place:=by rw[lL];omega
 have n2:(((r8 (all:Int)).toNat:Nat):Int)=all:=by rw[lL];omega
 have n3:(((r8 (p.length:Int)).toNat:Nat):Int)=p.length:=by rw[lL];omega
 unfold fe;rw[e1,qw];simp only[e2,ne_eq,not_true_eq_false,if_false];have t4:(jp number place all p).take 4=Ig number:=rfl;have g4:(jp number place all p).getD 4 0=r8 (place:Int):=rfl;have g5:(jp number place all p).getD 5 0=r8 (all:Int):=rfl;have g6:(jp number place all p).getD 6 0=r8 (p.length:Int):=rfl;have g7:(jp number place all p).drop 7=p++List.replicate (52-p.length) 0:=rfl;rw[t4,Ja h0 h1,g4,g5,g6,g7,n1,n2,n3];rw[if_neg (by omega)];have n3':(r8 (p.length:Int)).toNat=p.length:=by omega
 rw[n3'];simp
theorem qH{s:jK}{number place:Int}(h:s.getD 63 0≠1):fe s number place=none:=by
 unfold fe;split
 · rfl
 · rw[if_pos h]
theorem oj{s b:jK}{number place all:Int}(hs:s.length=64)(h:fe s number place=some (b,all)):place<all∧all≤255∧b.length≤52:=by
 unfold fe at h;split at h
 · cases h
 · rename_i t ht
   have hl:=xR ht;split at h
   · cases h
   · split at h
     · cases h
     · rename_i h2
       injection h with h
       simp only[Prod.mk.injEq]at h;obtain⟨rfl,rfl⟩:=h;have:=(t.getD 5 0).toNat_lt;rw[bG];omega
theorem zf{s:jK}{number place:Int}(h:mA (s.take 63)=none):fe s number place=none:=by simp only[fe,h]
theorem l9{s t:jK}{number place:Int}(h:mA (s.take 63)=some t)(h2:Gg (t.take 4)≠number∨(((t.getD 4 0).toNat:Nat):Int)≠place∨place≥(((t.getD 5 0).toNat:Nat):Int)∨(((t.getD 6 0).toNat:Nat):Int)>52):fe s number place=none:=by
 simp only[fe,h];split
 · rfl
 · first|rfl|rw[if_pos h2]
theorem A1{s t:jK}{number place:Int}(h:mA (s.take 63)=some t)(h1:s.getD 63 0=1)(h2: ¬(Gg (t.take 4)≠number∨(((t.getD 4 0).toNat:Nat):Int)≠place∨place≥(((t.getD 5 0).toNat:Nat):Int)∨(((t.getD 6 0).toNat:Nat):Int)>52)):
 fe s number place=some ((t.drop 7).take (t.getD 6 0).toNat,(((t.getD 5 0).toNat:Nat):Int)):=by
 simp only[fe,h,h1,ne_eq,not_true_eq_false,if_false];rw[if_neg h2]
def kw(rd:Int→jK)(number at' all:Int):Nat→Option (List UInt8)
 |0=>some []
 |k+1=>match kw rd number at' all k with
  |none=>none
  |some b=>match fe (rd (at'+k)) number k with
   |none=>none
   |some (m,same)=>if same=all then some (b++m)else none
def fG(rd:Int→jK)(number at':Int):Option (List UInt8×Int):=
 match fe (rd at') number 0 with
 |none=>none
 |some (_,all)=>(kw rd number at' all all.toNat).map λb=>(b,all)
theorem CU{rd:Int→jK}{number at' all:Int}{k:Nat}(h:kw rd number at' all k=none): ∀m,k≤m→kw rd number at' all m=none:=by
 intro m hm
 induction hm with
 |refl=>exact h
 |step _ ih=>simp only[kw,ih]
theorem vO{rd:Int→jK}{number at' all:Int}{k:Nat}(h:fe (rd (at'+k)) number k=none∨∃m same,fe (rd (at'+k)) number k=some (m,same)∧same≠all): ∀m,k<m→kw rd number at' all m=none:=by
 refine λm hm=>CU (k:=k+1) ?_ m hm
 simp only[kw];cases kw rd number at' all k with
 |none=>rfl
 |some b=>
  rcases h with h| ⟨x,same,h,h2⟩
  · simp only[h]
  · simp only[h,if_neg h2]
theorem vS{rd:Int→jK}{number at' all:Int}{k:Nat}{b x:List UInt8}(h:kw rd number at' all k=some b)(h2:fe (rd (at'+k)) number k=some (x,all)):kw rd number at' all (k+1)=some (b++x):=by
 simp only[kw,h,h2,if_true]
theorem FN{rd:Int→jK}{number at' all:Int}{b:List UInt8}(h:fe (rd at') number 0=some (b,all)):kw rd number at' all 1=some b:=by
 have h0:kw rd number at' all 0=some []:=rfl;have:=vS (rd:=rd) (number:=number) (at':=at') (all:=all) (k:=0) h0 (x:=b) (by simpa using h)
 simpa using this
theorem qf{rd:Int→jK}{number at':Int}(h:fe (rd at') number 0=none):fG rd number at'=none:=by simp only[fG,h]
theorem qe{rd:Int→jK}{number at' all:Int}{b:List UInt8}(h:fe (rd at') number 0=some (b,all))(h2:kw rd number at' all all.toNat=none):fG rd number at'=none:=by simp only[fG,h,h2,Option.map_none]
theorem rD{rd:Int→jK}{number at' all:Int}{b c:List UInt8}(h:fe (rd at') number 0=some (b,all))(h2:kw rd number at' all all.toNat=some c):fG rd number at'=some (c,all):=by simp only[fG,h,h2,Option.map_some]
def fN(rd:Int→jK):Nat→Int→Int→List (List UInt8)×Int
 |0,_,used=>([],used)
 |f+1,cnt,used=>match fG rd (cnt+1) used with
  |none=>([],used)
  |some (b,all)=>let r:=fN rd f (cnt+1) (used+all);(b::r.1,r.2)
def jo:Nat→Int→DS→Int×DS
 |0,_,D=>(0,D)
 |n+1,at',D=>if D.read at'=zs then jo n (at'+1) D else if(D.write at' []).1=0 then jo n (at'+1) (D.write at' []).2 else D.write at' []
structure OpenR where
 err:Int
 recs:List (List UInt8)
 used:Int
 D:DS
def iX:Nat:=2049
theorem r9:iX=2049:=rfl
def bJ(D:DS):OpenR:=
 let r:=fN D.read iX 0 0;let w:=jo (2048-r.2).toNat r.2 D
 if w.1≠0 then⟨w.1,[],0,w.2⟩else if w.2.sync.1≠0 then⟨w.2.sync.1,[],0,w.2.sync.2⟩else⟨0,r.1,r.2,w.2.sync.2⟩
def In(s:fx):Prop:=∀p∈s,0≤p.1∧p.1<2048
def DS.In(D:DS):Prop:=Wal.In D.s∧Wal.In D.ws
end Wal
end

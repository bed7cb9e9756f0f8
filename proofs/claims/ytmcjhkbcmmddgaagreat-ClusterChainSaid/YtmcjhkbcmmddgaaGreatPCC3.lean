/-
  Joined texts:what a statement's proof reaches.
-/
import Derived.Laws.MakeOwn
import Derived.OwnWalk
import Derived.OpenShut
import Derived.Deep.Slices
import Derived.ChangeArms
import Derived.WalkSpells
import Derived.Test.YtmcjhkbcmmddgaaGreatPCC2
set_option maxHeartbeats 8000000
set_option maxRecDepth 100000
set_option linter.unusedSimpArgs false
set_option linter.unusedVariables false
section
namespace Leg
open Go Codec Api
theorem yh(v:Value)(n:Nat):madeCells #[v] n=(List.replicate n v).toArray:=by
 unfold madeCells;apply Array.ext
 · simp
 · intro i h1 h2
   simp at h1;simp[Nat.mod_one]
theorem Ke(n:Nat):eS (List.replicate n 0)=List.replicate n (.int .u8 0):=by simp[eS]
section
variable {P:Program} {w0:World} {F:Hl} {n:Nat} {ops:Array Oper} {Q:QQ} {D:List Deferred} {L:List (Nat×Value)} {H:List HP} {o:Oper} {l:List Oper} {d:Nat} {S:World→Prop}
theorem TL.mono{H':List HP}(m: ∀h,bN H h→bN H' h)(h:TL P w0 F n ops Q l D L H'):TL P w0 F n ops Q l D L H:=TL.weak (dP _) m h
abbrev cB:= @TL.mono
theorem TL.makeB{t e:TypeId}{x y:Operand}{k k':IntKind}{a b:Int}(m c:Nat)(hw:Want n D ops o L)(ho:o.op= .makeSlice t x y)(hd:o.dst=some d)(hn:Nat.blt d n=true)(ht:P.underlying t=some (.slice e))
 (hi:(P.info? e).map (λi=>(i.zero,i.size,i.bytes))=some (some (.int .u8 0),1,1)) (hx:cI L x=some (.int k a)) (hy:cI L y=some (.int k' b)) (ha:a=(m:Int)) (hb:b=(c:Int)) (h1:m≤c) (h2:c≤281474976710656)
 (h: ∀b,TL P w0 F n ops Q l D ((d, .slice (some ⟨b,0,none⟩) m c)::L) (an b (eS (List.replicate c 0)) e::H)):TL P w0 F n ops Q (o::l) D L H:=
 kO hw λa w f sm q=>by
  subst ha;subst hb;obtain⟨i,hie,hz0,hs,hb⟩:=info_parts hi;have hr:=run_make (P:=P) w t e i (.int .u8 0) ht hie hz0 k k' (m:Int) (c:Int) (by omega) (by omega) (by rw[hb];omega) (by omega)
  have e1:madeCells (Value.cells (.int .u8 0)) ((c:Int).toNat*i.size)=(eS (List.replicate c 0)).toArray:=by
   rw[hs,fZ,JQ,Ke];exact yh _ _
  rw[e1]at hr;simp only[JQ]at hr
  have r:(execOp a.eval o).run P w= .ok (.value (.slice (some ⟨w.heap.size,0,none⟩) m c)) (w.alloc (.cells (eS (List.replicate c 0)).toArray e)):=by
   simp only[execOp,ho,f.eval hx,f.eval hy,Sem.run_bind,hr,Result.andThen_ok,Sem.run_pure]
  unfold Oper.wp;rw[r,Oper.upon_value,hd];exact h _ _ _ (f.put (lb hn) _) (sm.trans ⟨rfl,rfl,rfl,by simp⟩) (q.alloc _)
def kh:Value→Nat→Nat→Value
 | .slice a m c,lo,hi=> .slice (if c=lo then a else a.map (·.add lo)) (hi-lo) (c-lo)
 |v,_,_=>v
theorem PV.sliceLH{t e:TypeId}{x y z:Operand}{a:Option Addr}{len cap lo hi:Nat}{k k':IntKind}{i j:Int}(ho:o.op= .slice t x (some y) (some z) none)(ht:P.underlying t=some (.slice e))(hs:(P.info? e).map (·.size)=some 1)
 (hx:cI L x=some (.slice a len cap)) (hy:cI L y=some (.int k i)) (hz:cI L z=some (.int k' j)) (hi':i=(lo:Int)) (hj:j=(hi:Int)) (h1:lo≤hi) (h2:hi≤cap):PV P n D L S o (kh (.slice a len cap) lo hi):=
 λb w g _=>by
  subst hi';subst hj;simp only[execOp,ho,g.eval hx,Option.map_some,Option.map_none,g.eval hy,g.eval hz,kh]
  by_cases q:cap=lo
  · have e2:hi=lo:=by omega
    subst e2;simp[Instr.sliceAt,Instr.slice,run_underlying ht,Instr.sliceBounds,Instr.sliceBound,asIntOf,eu hs,q]
  · simp[Instr.sliceAt,Instr.slice,run_underlying ht,Instr.sliceBounds,Instr.sliceBound,asIntOf,h1,h2,eu hs,q]
theorem PV.sliceH{t e:TypeId}{x z:Operand}{a:Option Addr}{len cap hi:Nat}{k':IntKind}{j:Int}(ho:o.op= .slice t x none (some z) none)(ht:P.underlying t=some (.slice e))(hs:(P.info? e).map (·.size)=some 1)
 (hx:cI L x=some (.slice a len cap)) (hz:cI L z=some (.int k' j)) (hj:j=(hi:Int)) (h2:hi≤cap):PV P n D L S o (kh (.slice a len cap) 0 hi):=
 λb w g _=>by
  subst hj;simp only[execOp,ho,g.eval hx,Option.map_some,Option.map_none,g.eval hz,kh]
  by_cases q:cap=0
  · have e2:hi=0:=by omega
    subst e2;simp[Instr.sliceAt,Instr.slice,run_underlying ht,Instr.sliceBounds,Instr.sliceBound,asIntOf,eu hs,q]
  · simp[Instr.sliceAt,Instr.slice,run_underlying ht,Instr.sliceBounds,Instr.sliceBound,asIntOf,h2,eu hs,q]
theorem PV.sliceL{t e:TypeId}{x y:Operand}{a:Option Addr}{len cap lo:Nat}{k:IntKind}{i:Int}(ho:o.op= .slice t x (some y) none none)(ht:P.underlying t=some (.slice e))(hs:(P.info? e).map (·.size)=some 1)
 (hx:cI L x=some (.slice a len cap)) (hy:cI L y=some (.int k i)) (hi:i=(lo:Int)) (h1:lo≤len):PV P n D L S o (kh (.slice a len cap) lo len):=
 λb w g _=>by
  subst hi;simp only[execOp,ho,g.eval hx,Option.map_some,Option.map_none,g.eval hy,kh]
  by_cases q:cap=lo
  · simp[Instr.sliceAt,Instr.slice,run_underlying ht,Instr.sliceBounds,Instr.sliceBound,asIntOf,h1,eu hs,q]
  · simp[Instr.sliceAt,Instr.slice,run_underlying ht,Instr.sliceBounds,Instr.sliceBound,asIntOf,h1,eu hs,q]
end
theorem IsW.form{v:Value}{bs:List UInt8}{F:Hl}(h:IsW v bs F): ∃a c,v= .slice a bs.length c∧bs.length≤c∧(bs.length=0∨c≤9223372036854775807):=by
 rcases h with(⟨rfl,rfl⟩| ⟨b,off,cap,cs,T,z,rfl,h1,h2,_⟩)| ⟨a,c,rfl,rfl⟩
 · exact⟨_,_,rfl,aM _, .inl rfl⟩
 · exact⟨_,_,rfl,h1, .inr h2⟩
 · exact⟨_,_,rfl,aP _, .inl rfl⟩
theorem IsW.lt{v:Value}{bs:List UInt8}{F:Hl}(h:IsW v bs F):bs.length≤9223372036854775807:=by
 obtain⟨a,c,_,h1,h2⟩:=h.form;omega
theorem IsW.cut{v:Value}{bs:List UInt8}{F:Hl}(h:IsW v bs F){lo hi:Nat}(h1:lo≤hi)(h2:hi≤bs.length):IsW (kh v lo hi) ((bs.take hi).drop lo) F:=by
 have hl:((bs.take hi).drop lo).length=hi-lo:=by simp;omega
 by_cases e:hi-lo=0
 · obtain⟨a,c,rfl,hc,_⟩:=h.form
   have e0:(bs.take hi).drop lo=[]:=List.eq_nil_of_length_eq_zero (by omega);rw[e0];simp only[kh,e];split
   · cases a with
     |some a=>exact .inr ⟨_,_,rfl,rfl⟩
     |none=>
      rcases h with(⟨h,rfl⟩| ⟨b,off,cap,cs,T,z,h,_⟩)| ⟨a,c,h,_⟩
      · injection h with _ _ h;subst h;exact .inl (.inl ⟨by simp,rfl⟩)
      · simp at h
      · simp at h
   · cases a with
     |some a=>exact .inr ⟨_,_,rfl,rfl⟩
     |none=>
      rcases h with(⟨h,rfl⟩| ⟨b,off,cap,cs,T,z,h,_⟩)| ⟨a,c,h,_⟩
      · injection h with _ _ h;subst h;exact .inl (.inl ⟨by simp,rfl⟩)
      · simp at h
      · simp at h
 · obtain⟨b,off,cap,cs,T,z,rfl,hb,hcs,hc⟩:=h.at (j:=0) (by omega)
   rcases h.form with⟨a,c,hv,_,hm⟩
   injection hv with _ _ hv
   subst hv;refine .inl (.inr ⟨b,off+lo,cap-lo,cs,T,z,?_,by omega,by omega,hb,λj hj=>?_⟩)
   · simp only[kh,hl,if_neg (show ¬cap=lo by omega),Option.map_some,qy]
   · rw[hl]at hj
     rw[pS,hcs (lo+j) (by omega)];congr 2;simp[List.getD_eq_getElem?_getD,List.getElem?_take,show lo+j<hi by omega]
def ic(v:Value)(bs:List UInt8)(e:Nat):HP:=λh=>
 (v= .slice none 0 0∧bs=[]∧h=em)∨∃g off cap cur,v= .slice (some ⟨g,off,none⟩) bs.length cap∧h=sg g (.cells cur e (0,0))∧bs.length≤cap∧cap≤maxLen∧off+cap≤cur.size∧(cur.toList.drop off).take bs.length=eS bs
theorem p9{v:Value}{bs:List UInt8}{e:Nat}{h:Hl}(x:dV v bs e h):ic v bs e h:=by
 rcases x with⟨_,⟨h1,h2,h3⟩| ⟨g,cap,cur,h1,h2,h3,h4,h5,h6⟩⟩
 · exact .inl ⟨h1,List.eq_nil_of_length_eq_zero h2,h3⟩
 · exact .inr ⟨g,0,cap,cur,h1,h2,h3,h4,by omega,by simpa using h6⟩
section
variable {H:List HP} {F:Hl} {v:Value} {bs:List UInt8} {e:Nat}
theorem An(i:Nat)(hi:Nat.blt i H.length=true)(hH:H.getD i (λ_=>True)=dV v bs e){h:Hl}(s:bN H h):bN (H.set i (ic v bs e)) h:=
 ku i (lb hi) (cE (e6 i (lb hi) s) (λ_ x=>p9 (by rwa [hH]at x)) λ_ x=>x)
theorem wz{lo hi nn:Nat}{bs':List UInt8}(i:Nat)(hi':Nat.blt i H.length=true)(hH:H.getD i (λ_=>True)=dV v bs e){g cap:Nat}(hv:v= .slice (some ⟨g,0,none⟩) nn cap)(h1:lo≤hi)(h2:hi≤bs.length)(h3:lo<bs.length)(hb:(bs.take hi).drop lo=bs'){h:Hl}(s:bN H h):
 bN (H.set i (ic (kh v lo hi) bs' e)) h:=by
 subst hb;have hl:((bs.take hi).drop lo).length=hi-lo:=by simp;omega
 refine ku i (lb hi') (cE (e6 i (lb hi') s) (λ_ x=>?_) λ_ x=>x);rw[hH]at x;rcases x with⟨_,⟨h1,h2,_⟩| ⟨g',cap',cur,h4,h5,h6,h7,h8,h9⟩⟩
 · rw[hv]at h1;simp at h1
 · rw[hv]at h4 ⊢
   simp only[Value.slice.injEq,Option.some.injEq,Addr.mk.injEq,and_true,true_and]at h4;obtain⟨rfl,rfl,rfl⟩:=h4;refine .inr ⟨g,lo,cap-lo,cur,?_,h5,by omega,by omega,by omega,?_⟩
   · simp only[kh,hl,if_neg (show ¬cap=lo by omega),Option.map_some,qy,bm]
   · rw[hl]
     rw[fZ]at h9;have e1:=congrArg (λl:List Value=>(l.take hi).drop lo) h9;simp only[DL,Nat.min_eq_left h2]at e1;rw[←oK,e1];simp[eS,pT,ll]
theorem Sat.sub_form{w:World}(i:Nat)(s:Sat H F w)(hi:Nat.blt i H.length=true)(hH:H.getD i (λ_=>True)=ic v bs e):(v= .slice none 0 0∧bs=[])∨∃g off cap cur,v= .slice (some ⟨g,off,none⟩) bs.length cap∧w.heap[g]?=some (.cells cur e (0,0))∧bs.length≤cap∧cap≤maxLen∧off+cap≤cur.size∧(cur.toList.drop off).take bs.length=eS bs:=by
 obtain⟨h,d,e',x⟩:=s;obtain⟨h1,h2,d',rfl,a,_⟩:=e6 i (lb hi) x;rw[hH]at a;rcases a with⟨x1,x2,_⟩| ⟨g,off,cap,cur,x1,x2,x3⟩
 · exact .inl ⟨x1,x2⟩
 · refine .inr ⟨g,off,cap,cur,x1,?_,x3⟩
   have:hp w g=some (.cells cur e (0,0)):=by
    rw[e',jB];exact iB (by rw[x2];simp[sg])
   exact this
theorem Sat.sub_len{w:World}(i:Nat)(s:Sat H F w)(hi:Nat.blt i H.length=true)(hH:H.getD i (λ_=>True)=ic v bs e):pB v bs.length∧v.oneCell'=true:=by
 rcases s.sub_form i hi hH with⟨rfl,rfl⟩| ⟨g,off,cap,cur,rfl,_⟩
 · exact⟨⟨_,_,rfl⟩,rfl⟩
 · exact⟨⟨_,_,rfl⟩,rfl⟩
theorem Src.sub(i:Nat)(hi:Nat.blt i H.length=true)(hH:H.getD i (λ_=>True)=ic v bs e){w:World}(s:Sat H F w):Src (Sat H F) v bs.length (eS bs) 1:=by
 refine⟨by simp[eS],?_⟩;rcases s.sub_form i hi hH with⟨rfl,rfl⟩| ⟨g,off,cap,cur,rfl,_⟩
 · exact .inl ⟨rfl,rfl⟩
 · refine .inr ⟨⟨g,off,none⟩,cap,rfl,λw s j u hj=>?_⟩
   rcases s.sub_form i hi hH with⟨h1,_⟩| ⟨g',off',cap',cur',h1,h2,h3,h4,h5,h6⟩
   · simp at h1
   · simp only[Value.slice.injEq,Option.some.injEq,Addr.mk.injEq,and_true,true_and]at h1
     obtain⟨⟨rfl,rfl⟩,rfl⟩:=h1;rw[qy];rw[←h6,List.getElem?_take]at hj;split at hj
     · simp only[World.cell?,h2,Option.isSome_none,Bool.false_eq_true,if_false]
       simpa using hj
     · cases hj
theorem AU(i:Nat){B:List HP}(hi:Nat.blt i B.length=true)(hH:B.getD i (λ_=>True)=ic v bs e): ∀g,Dj g F→bN B g→IsB v bs (jn g F):=λg _ s=>by
 obtain⟨h1,h2,d',rfl,a,_⟩:=e6 i (lb hi) s;rw[hH]at a;rcases a with⟨x1,x2,_⟩| ⟨g,off,cap,cur,x1,x2,x3,x4,x5,x6⟩
 · exact .inl ⟨x1,x2⟩
 · refine .inr ⟨g,off,cap,cur.toList,e,(0,0),x1,x3,by simpa [maxLen]using x4,iB (iB (by rw[x2];simp[sg])),λj hj=>?_⟩
   have e1:=congrArg (λl:List Value=>l[j]?) x6;simp only[List.getElem?_take,if_pos hj,List.getElem?_drop]at e1;rw[e1];simp[eS,List.getD_eq_getElem?_getD,hj]
end
theorem tY{P:Program}(w:World)(t ty e:TypeId)(i:TypeInfo)(ht:P.underlying t=some (.slice e))(hi:P.info? e=some i)(g off sLen sCap:Nat)(cur:Array Value)(hg:w.heap[g]?=some (.cells cur e (0,0)))
 (a:Addr) (m c:Nat) (news:List Value) (hl:news.length=m*i.size) (hnews: ∀j u,news[j]?=some u→w.cell? (a.add j)=some u) (h1: ∀u∈news,u.oneCell'=true)
 (hroom:sLen+m≤sCap) (hfit:off+sLen*i.size+news.length≤cur.size):
 (Builtin.append_ #[t,t] ty #[.slice (some ⟨g,off,none⟩) sLen sCap, .slice (some a) m c]).run P w=
  .ok (.slice (some ⟨g,off,none⟩) (sLen+m) sCap) (w.setRow g (cur.toList.take (off+sLen*i.size)++news++cur.toList.drop (off+sLen*i.size+news.length)).toArray):=by
 have hf:=run_firstCells_some (P:=P) w i.size m a m c news hl hnews;have hst:=run_storeCells_at P g (off+sLen*i.size) e news 0 cur w hg (by simpa using hfit) h1;simp only[JN]at hst;simp[Builtin.append_,run_underlying ht,Go.sizeOf,typeInfo,hi,Builtin.lenOf,hroom,hf,Addr.add_lit,hst]
section
variable {P:Program} {w0:World} {F:Hl} {n:Nat} {ops:Array Oper} {Q:QQ} {D:List Deferred} {L:List (Nat×Value)} {H:List HP} {o:Oper} {l:List Oper} {d:Nat} {S:World→Prop}
theorem Sat.sub_open{w:World}{k:Nat}{v:Value}{bs:List UInt8}{e:TypeId}(s:Sat H F w)(hk:Nat.blt k H.length=true)(hH:H.getD k (λ_=>True)=ic v bs e):
 (v= .slice none 0 0∧bs=[]∧Sat (H.set k (dV (.slice none 0 0) [] e)) F w)∨∃g off cap cur,v= .slice (some ⟨g,off,none⟩) bs.length cap∧Sat (H.set k (obj g (.cells cur e (0,0)))) F w∧bs.length≤cap∧cap≤maxLen∧off+cap≤cur.size∧(cur.toList.drop off).take bs.length=eS bs:=by
 obtain⟨h,d,e',x⟩:=s;obtain⟨h1,h2,d',rfl,a,y⟩:=e6 k (lb hk) x;rw[hH]at a;rcases a with⟨x1,x2,x3⟩| ⟨g,off,cap,cur,x1,x2,x3⟩
 · exact .inl ⟨x1,x2,_,d,e',ku k (lb hk) ⟨h1,h2,d',rfl,⟨rfl, .inl ⟨rfl,rfl,x3⟩⟩,y⟩⟩
 · exact .inr ⟨g,off,cap,cur,x1,⟨_,d,e',ku k (lb hk) ⟨h1,h2,d',rfl,x2,y⟩⟩,x3⟩
theorem Src.of_eq{S':World→Prop}{x:Value}{m size:Nat}{news:List Value}(h:Src S x m news size)(hS: ∀w,S' w→S w):Src S' x m news size:=⟨h.1,h.2.imp id λ⟨a,c,q3,q4⟩=>⟨a,c,q3,λw' s'=>q4 w' (hS w' s')⟩⟩
theorem B5{k:Nat}{q:HP}(hk:Nat.blt k H.length=true)(hH:H.getD k (λ_=>True)=q):H.set k q=H:=by
 rw[←hH,List.getD_eq_getElem?_getD,List.getElem?_eq_getElem (lb hk)];exact List.set_getElem_self _
theorem Cc{w:World}{k:Nat}{v x:Value}{bs news:List UInt8}{t ty e:TypeId}(s:Sat H F w)(ht:P.underlying t=some (.slice e))(hi:(P.info? e).map (λi=>(i.zero,i.size,i.bytes))=some (some (.int .u8 0),1,1))
 (hk:Nat.blt k H.length=true) (hH:H.getD k (λ_=>True)=ic v bs e) (hx:Src (Sat H F) x news.length (eS news) 1) (hb:bs.length+news.length≤140737488355328):
 ∃v' w',(Builtin.append_ #[t,t] ty #[v,x]).run P w= .ok v' w'∧Same w w'∧Sat (H.set k (ic v' (bs++news) e)) F w':=by
 rcases s.sub_open hk hH with⟨rfl,rfl,s1⟩| ⟨g,off,cap,cur,rfl,s1,h3,h4,h5,h6⟩
 · have hx':Src (Sat (H.set k (dV (.slice none 0 0) [] e)) F) x news.length (eS news) 1:=hx.of_eq λw' s'=>by
    have:=s'.turn (q:=ic (.slice none 0 0) [] e) k (by simpa using lb hk) λh hh=>by
     rw[iZ (lb hk)]at hh;exact p9 hh
    rwa [mp,B5 hk hH]at this
   obtain⟨v',w',r1,r2,r3⟩:=uM (k:=k) (nn:=0) (m:=news.length) (v:= .slice none 0 0) (xs:=eS []) (news:=eS news) (ty:=ty) s1 ht hi rfl (by decide) (by simpa using lb hk) (iZ (lb hk) _) hx' (fy _) (by simp only[maxLen];simp at hb;omega) (by simp at hb;omega);refine⟨v',w',r1,r2,?_⟩;rw[mp]at r3
   have:=r3.turn (q:=ic v' ([]++news) e) k (by simpa using lb hk) λh hh=>by
    rw[iZ (lb hk)]at hh;refine p9 ?_;rw[←js,bm,bu]at hh;exact hh
   rwa [mp]at this
 · obtain⟨i,hie,hz0,hsz,hby⟩:=info_parts hi
   obtain⟨hxl,hxx⟩:=hx;have hg:w.heap[g]?=some (.cells cur e (0,0)):=s1.block k (by simpa using lb hk) (iZ (lb hk) _)
   by_cases hroom:bs.length+news.length≤cap
   · rcases hxx with⟨rfl,hm⟩| ⟨a0,c,rfl,hc⟩
     · have hn:news=[]:=List.eq_nil_of_length_eq_zero hm
       subst hn;refine⟨_,w,?_,si w,by rw[aU,B5 hk hH];exact s⟩;simp[Builtin.append_,run_underlying ht,Go.sizeOf,typeInfo,hie,Builtin.lenOf,Builtin.firstCells,loadCells,loadCellsFrom,storeCells,h3]
     · have hfit:off+bs.length*i.size+(eS news).length≤cur.size:=by rw[hsz,fZ,bz];omega
       refine⟨_,_,tY (P:=P) w t ty e i ht hie g off bs.length cap cur hg a0 news.length c (eS news) (by rw[hsz,bz,fZ]) (λj v hj=>hc w s j v hj) (fy _) hroom hfit,⟨rfl,rfl,rfl,by simp⟩,?_⟩;have h2:=s1.write k (by simpa using lb hk) (iZ (lb hk) _) (setRow_heap w g cur (cur.toList.take (off+bs.length*i.size)++eS news++cur.toList.drop (off+bs.length*i.size+(eS news).length)).toArray e _ hg) (λj hj=>setRow_other w g j _ hj);rw[mp]at h2
       have h7:=h2.turn (q:=ic (.slice (some ⟨g,off,none⟩) (bs.length+news.length) cap) (bs++news) e) k (by simpa using lb hk) (λh hh=>by
        rw[iZ (lb hk)]at hh;rw[hsz,fZ,bz]at hh;refine .inr ⟨g,off,cap,_,by rw[aj],hh,by rw[aj];exact hroom,h4,?_,?_⟩
        · simp only[List.size_toArray,aj,bp,ef,Array.length_toList,bz]
          rw[hsz,fZ,bz]at hfit;omega
        · simp only[aV]
          rw[ij (by simp only[bp,Array.length_toList];rw[hsz,fZ,bz]at hfit;omega),oK,cv,h6,←aV,←js]
          rw[cf (by rw[bz];exact aM _),aD (by rw[bz];exact aM _)])
       rwa [mp]at h7
   · rcases hxx with⟨rfl,hm⟩| ⟨a0,c,rfl,hc⟩
     · omega
     · have holds: ∀j u,(eS bs)[j]?=some u→w.cell? ((⟨g,off,none⟩:Addr).add j)=some u:=λj u hj=>by
        rw[qy];rw[←h6,List.getElem?_take]at hj;split at hj
        · simpa [World.cell?,hg]using hj
        · cases hj
       have hr:=run_append_grow (P:=P) w t ty e i _ ht hie hz0 ⟨g,off,none⟩ bs.length cap (eS bs) (by rw[hsz,bz,fZ]) holds a0 news.length c (eS news) (by rw[hsz,bz,fZ]) (λj v hj=>hc w s j v hj) (by omega) (by omega) (growslice_fits (by omega) (by rw[hby];omega));refine⟨_,_,hr,⟨rfl,rfl,rfl,by simp⟩,Sat.swap k (lb hk) (s.drew.alloc _) λh hh=>?_⟩;have hge:=grownCap_ge w (bs.length+news.length) cap e;refine .inr ⟨w.heap.size,0,_,_,by rw[aj],hh,by rw[aj];exact hge,grownCap_le_maxLen w (bs.length+news.length) cap e (by simp only[maxLen];omega),?_,?_⟩
       · simp only[Array.size_append,List.size_toArray,size_zeroCells,bz,bm]
         have:(Value.cells (.int .u8 0)).size=1:=rfl;rw[this,fZ];omega
       · simp only[Array.toList_append,aV,bq]
         rw[←aV,←js,←bz (bs++news)];exact tF
theorem TL.appendS{s x:Operand}{k:Nat}{v vx:Value}{bs news bs':List UInt8}{t e:TypeId}(hw:Want n D ops o L)
 (ho:o.op= .call {callee:= .builtin .append,args:=#[s,x],argTypes:=#[t,t]}) (hd:o.dst=some d) (hn:Nat.blt d n=true) (ht:P.underlying t=some (.slice e))
 (hi:(P.info? e).map (λi=>(i.zero,i.size,i.bytes))=some (some (.int .u8 0),1,1)) (hs:cI L s=some v) (hx:cI L x=some vx)
 (hk:Nat.blt k H.length=true) (hH:H.getD k (λ_=>True)=ic v bs e) (hsrc: ∀w,Sat H F w→Src (Sat H F) vx news.length (eS news) 1) (hb:bs.length+news.length≤140737488355328)
 (hxs:bs++news=bs') (h: ∀v',v'.oneCell'=true→TL P w0 F n ops Q l D ((d,v')::L) (H.set k (ic v' bs' e))):TL P w0 F n ops Q (o::l) D L H:=
 kO hw λa w f sm q=>by
  obtain⟨v',w',hr,s',q'⟩:=Cc (ty:=o.type) q ht hi hk hH (hsrc w q) hb;unfold Oper.wp execOp;simp only[ho,resolve,invoke,builtin,Sem.run_bind,Sem.run_pure,Result.andThen_ok,Lj,e5,mq,f.eval hs,f.eval hx,hr];rw[Oper.upon_value,hd];subst hxs;have one:v'.oneCell'=true:=(q'.sub_len k (by simpa using hk) (iZ (lb hk) _)).2;exact h v' one _ w' (f.put (lb hn) v') (sm.trans s') q'
theorem TL.subLen{v:Value}{bs:List UInt8}{e:Nat}(k:Nat)(hk:Nat.blt k H.length=true)(hH:H.getD k (λ_=>True)=ic v bs e)
 (h:pB v bs.length→v.oneCell'=true→TL P w0 F n ops Q l D L H):TL P w0 F n ops Q l D L H:=yu (λw m=>m.sub_len k hk hH) λ⟨h1,h2⟩=>h h1 h2
end
theorem s9{v:Value}{z:Array Value}(h:v.oneCell'=true)(hz:z.size=1):Instr.fill (λi=>some (i*1,1)) z [(0,v)]=some #[v]:=by
 rw[Instr.fill,zL h];simp only[hX,List.size_toArray,az,aB,bm,hz,ne_eq,not_true_eq_false,decide_false,Bool.false_or];rw[if_neg (by simp)]
 have:(#[v].zipIdx.foldl (λcs (c,j)=>cs.setIfInBounds (0+j) c) z)=#[v]:=by
  match z,hz with
  | ⟨[x]⟩,_=>rfl
 simp only[bm]at this;simp only[Instr.fill];rw[this]
theorem CO{x:Value}{bs:List UInt8}{F:Hl}(hx:IsW x bs F)(i:Nat){g T:Nat}{B:List HP}(hi:Nat.blt i B.length=true)(e:B.getD i (λ_=>True)=an g [x] T): ∀h,Dj h F→bN B h→OA (.slice (some ⟨g,0,none⟩) 1 1) [bs] (jn h F):=λh d s=>
 .inr (.inr ⟨g,0,1,[x],T,(0,0),rfl,aM _,by decide,sP i hi e h d s,λj hj=>by
  obtain rfl:j=0:=by simpa using hj
  exact⟨[x],rfl,rfl,x,rfl,hx.more d⟩⟩)
theorem Je(i n:Nat){g T:Nat}{bs:List UInt8}{B:List HP}{F:Hl}(hn:bs.length=n)(hl:n≤9223372036854775807)(hi:Nat.blt i B.length=true)(e:B.getD i (λ_=>True)=an g (eS bs) T): ∀h,Dj h F→bN B h→IsB (.slice (some ⟨g,0,none⟩) n n) bs (jn h F):=by
 subst hn;exact KK i hl hi e
def eR(us:List Value)(ls:List (List UInt8))(e:Nat):HP:=λh=>us.length=ls.length∧bN (List.zipWith (λu l=>ic u l e) us ls) h
abbrev mx(te e:Nat)(v:Value)(ls:List (List UInt8)):HP:=pack λus:List Value=>[own v ls.length us te 1,eR us ls e]
theorem vQ{α β γ:Type}(f:α→β→γ): ∀(us:List α) (ls:List β) (u:α) (l:β),us.length=ls.length→List.zipWith f (us++[u]) (ls++[l])=List.zipWith f us ls++[f u l]
 | [],[],_,_,_=>rfl
 | [],_::_,_,_,h=>by simp at h
 |_::_,[],_,_,h=>by simp at h
 |x::us,y::ls,u,l,h=>by simp[vQ f us ls u l (by simpa using h)]
theorem uz{us:List Value}{ls:List (List UInt8)}{e:Nat}{u:Value}{l:List UInt8}{H:List HP}{h:Hl}(s:bN (eR us ls e::ic u l e::H) h):bN (eR (us++[u]) (ls++[l]) e::H) h:=by
 have t:=m9.2 s;refine cE t (λh' x=>?_) λ_ x=>x
 obtain⟨h1,h2,d,rfl,⟨hl,a⟩,b⟩:=x;refine⟨by simp[hl],?_⟩;rw[vQ _ _ _ _ _ hl];exact(cj _ _).2 ⟨h1,h2,d,rfl,a,rD b⟩
theorem zN{e:Nat}{H:List HP}{h:Hl}(s:bN H h):bN (eR [] [] e::H) h:=⟨em,h,DO h,(ra h).symm,⟨rfl,trivial⟩,s⟩
theorem xB: ∀(us:List Value) (ls:List (List UInt8)) (e:Nat) (h:Hl),us.length=ls.length→bN (List.zipWith (λu l=>ic u l e) us ls) h→∀(j:Nat) (hj:j<ls.length),∃u,us[j]?=some u∧∃h1 h2,Dj h1 h2∧h=jn h1 h2∧ic u ls[j] e h1
 | [],[],_,_,_,_,j,hj=>by simp at hj
 | [],_::_,_,_,h,_,_,_=>by simp at h
 |_::_,[],_,_,h,_,_,_=>by simp at h
 |u::us,l::ls,e,h,hl,s,0,_=>by
  obtain⟨h1,h2,d,rfl,a,_⟩:=s;exact⟨u,rfl,h1,h2,d,rfl,a⟩
 |u::us,l::ls,e,h,hl,s,j+1,hj=>by
  obtain⟨h1,h2,d,rfl,_,b⟩:=s;obtain⟨u',e1,g1,g2,d',rfl,a⟩:=xB us ls e h2 (by simpa using hl) b j (by simpa using hj);refine⟨u',by simpa using e1,g1,jn h1 g2,?_,?_,a⟩
  · obtain⟨q1,q2⟩:=nY.1 d
    exact nY.2 ⟨q1.symm,d'⟩
  · rw[nP d,jB,nP (nY.1 d).2]
theorem BP{v:Value}{bs:List UInt8}{e:Nat}{h1 G:Hl}(a:ic v bs e h1)(hG:Le h1 G):IsB v bs G:=by
 rcases a with⟨x1,x2,_⟩| ⟨g,off,cap,cur,x1,x2,x3,x4,x5,x6⟩
 · exact .inl ⟨x1,x2⟩
 · refine .inr ⟨g,off,cap,cur.toList,e,(0,0),x1,x3,by simpa [maxLen]using x4,hG _ _ (by rw[x2];simp[sg]),λj hj=>?_⟩
   have e1:=congrArg (λl:List Value=>l[j]?) x6;simp only[List.getElem?_take,if_pos hj,List.getElem?_drop]at e1;rw[e1];simp[eS,List.getD_eq_getElem?_getD,hj]
theorem uI(te e:Nat){H:List HP}{h:Hl}(s:bN H h):bN (mx te e (.slice none 0 0) []::H) h:=br (p:=λus:List Value=>[own (.slice none 0 0) 0 us te 1,eR us [] e]) [] (im te 1 (zN s))
theorem uK{te e:Nat}{v' u:Value}{us:List Value}{ls:List (List UInt8)}{l:List UInt8}{H:List HP}{h:Hl}(s:bN (own v' (ls.length+1) (us++[u]) te 1::eR us ls e::ic u l e::H) h):bN (mx te e v' (ls++[l])::H) h:=
 br (p:=λus:List Value=>[own v' (ls++[l]).length us te 1,eR us (ls++[l]) e]) (us++[u]) (cE s (λ_ x=>by simpa using x) λ_ x=>uz x)
section
variable {P:Program} {w0:World} {F:Hl} {n:Nat} {ops:Array Oper} {Q:QQ} {D:List Deferred} {L:List (Nat×Value)} {H:List HP} {l:List Oper}
theorem TL.recsOpen{te e:Nat}{v:Value}{ls:List (List UInt8)}(h: ∀us,TL P w0 F n ops Q l D L (own v ls.length us te 1::eR us ls e::H)):TL P w0 F n ops Q l D L (mx te e v ls::H):=
 L3 (λ_ s=>fL s) h
abbrev L2:= @TL.recsOpen
theorem uJ{te e:Nat}{v:Value}{ls:List (List UInt8)}{h:Hl}(s:mx te e v ls h):pB v ls.length∧v.oneCell'=true:=by
 obtain⟨us,g1,g2,d2,rfl,a1,_⟩:=s;rcases a1 with⟨q0,⟨q1,q2,_⟩| ⟨g,cap,cur,q1,_⟩⟩
 · subst q1
   have:ls=[]:=List.eq_nil_of_length_eq_zero q2;subst this;exact⟨⟨_,_,rfl⟩,rfl⟩
 · subst q1;exact⟨⟨_,_,rfl⟩,rfl⟩
theorem TL.recsLen{te e:Nat}{v:Value}{ls:List (List UInt8)}(k:Nat)(hk:Nat.blt k H.length=true)(hH:H.getD k (λ_=>True)=mx te e v ls)(h:pB v ls.length→v.oneCell'=true→TL P w0 F n ops Q l D L H):TL P w0 F n ops Q l D L H:=
 yu (p:=pB v ls.length∧v.oneCell'=true) (λw ⟨h,d,e',x⟩=>by
  obtain⟨h1,h2,d',rfl,a,_⟩:=e6 k (lb hk) x;rw[hH]at a
  exact uJ a) λ⟨h1,h2⟩=>h h1 h2
end
end Leg
namespace Leg
open Go Codec Api
section
variable {P:Program} {w0:World} {F:Hl} {n:Nat} {L:List (Nat×Value)} {H:List HP}
theorem TE.ret3{fn:Func}{post:Ending→List HP→Prop}{t t' t'':Nat}{v v' v'':Value}(hr:fn.results=#[.tmp t, .tmp t', .tmp t''])(e:lk L t=some v)(e':lk L t'=some v')(e'':lk L t''=some v'')(h:post (.returned (.tuple #[v,v',v''])) H):
 TE w0 F n (bodyPost P fn (j5 post w0 F)) .ret [] L H:=λa w f s m=>by
 refine bodyPost_ret (results_tmp3 hr _ _ _) f.2.1 ⟨s,H,m,?_⟩;have h1:=f.eval (x:= .tmp t) e;have h2:=f.eval (x:= .tmp t') e';have h3:=f.eval (x:= .tmp t'') e'';rw[show a.tmps.getD t undef=v from h1,show a.tmps.getD t' undef=v' from h2,show a.tmps.getD t'' undef=v'' from h3];exact h
abbrev nz:= @TE.ret3
end
theorem rk{l:List UInt8}{j:Nat}(h:j<l.length):(eS l)[j]?=some (.int .u8 (((l.getD j 0).toNat:Nat):Int)):=by simp[eS,List.getD_eq_getElem?_getD,h]
theorem KW{a:Addr}{m c k:Nat}(hc:0<c):kh (.slice (some a) m c) 0 k= .slice (some a) k c:=by
 simp only[kh,if_neg (show ¬c=0 by omega),Option.map_some,Qw];rfl
end Leg
namespace Leg
open Go Codec Api
section
variable {P:Program} {w0:World} {F:Hl} {n:Nat} {ops:Array Oper} {Q:QQ} {D:List Deferred} {L:List (Nat×Value)} {H:List HP} {o:Oper} {l:List Oper} {d:Nat} {S:World→Prop}
end
end Leg
end

section
namespace Go.Proofs.YtmcjhkbcmmddgaaGreat
open Go Leg Codec Api
theorem tT:(Tryz.prog.info? 52).map (·.size)=some 870:=by kernel_rfl
theorem wl:(Tryz.prog.info? 85).map (·.size)=some 875:=by kernel_rfl
theorem BI:(Tryz.prog.info? 92).map (·.size)=some 870:=by kernel_rfl
theorem Lu:NM 134:=nk Tryz.func134
theorem NQ:NM 154:=nk Tryz.func154
theorem kw(w:Int):
 DT 129 #[(.int .i64 (w))] T0 [] (RI (.bool (cw w)) []):=by
 refine BD 9 Tryz.func129 rfl rfl rfl λw0 F hF=>sr λ_ J1=>PS ?_
 refine nx J1 (sr λ_ J2=>P2 ?_);refine aq ?_ ?_<;>intro h4
 iterate 5 refine PS ?_
 refine nx J2 (ak (aw rfl rfl ?_));exact⟨congrArg Value.bool (by unfold cw;first| (rw[decide_eq_decide];omega)| (symm;rw[decide_eq_false_iff_not];omega)| (symm;rw[decide_eq_true_iff];omega)),rfl⟩;refine PS ?_;refine UF ?_;refine UF ?_;refine P2 ?_;refine nx J2 (ak (aw rfl rfl ?_));exact⟨congrArg Value.bool (by unfold cw;first| (rw[decide_eq_decide];omega)| (symm;rw[decide_eq_false_iff_not];omega)| (symm;rw[decide_eq_true_iff];omega)),rfl⟩
theorem lH(w:Int):
 DT 77 #[(.int .i64 (w))] T0 [] (RI (.bool (cw w)) []):=by
 refine BD 9 Tryz.func77 rfl rfl rfl λw0 F hF=>sr λ_ J1=>PS ?_
 refine nx J1 (sr λ_ J2=>P2 ?_);refine aq ?_ ?_<;>intro h4
 iterate 5 refine PS ?_
 refine nx J2 (ak (aw rfl rfl ?_));exact⟨congrArg Value.bool (by unfold cw;first| (rw[decide_eq_decide];omega)| (symm;rw[decide_eq_false_iff_not];omega)| (symm;rw[decide_eq_true_iff];omega)),rfl⟩;refine PS ?_;refine UF ?_;refine UF ?_;refine P2 ?_;refine nx J2 (ak (aw rfl rfl ?_));exact⟨congrArg Value.bool (by unfold cw;first| (rw[decide_eq_decide];omega)| (symm;rw[decide_eq_false_iff_not];omega)| (symm;rw[decide_eq_true_iff];omega)),rfl⟩
theorem iP(w:Int):
 DT 113 #[(.int .i64 (w))] T0 [] (RI (.bool (cw w)) []):=by
 refine BD 9 Tryz.func113 rfl rfl rfl λw0 F hF=>sr λ_ J1=>PS ?_
 refine nx J1 (sr λ_ J2=>P2 ?_);refine aq ?_ ?_<;>intro h4
 iterate 5 refine PS ?_
 refine nx J2 (ak (aw rfl rfl ?_));exact⟨congrArg Value.bool (by unfold cw;first| (rw[decide_eq_decide];omega)| (symm;rw[decide_eq_false_iff_not];omega)| (symm;rw[decide_eq_true_iff];omega)),rfl⟩;refine PS ?_;refine UF ?_;refine UF ?_;refine P2 ?_;refine nx J2 (ak (aw rfl rfl ?_));exact⟨congrArg Value.bool (by unfold cw;first| (rw[decide_eq_decide];omega)| (symm;rw[decide_eq_false_iff_not];omega)| (symm;rw[decide_eq_true_iff];omega)),rfl⟩
theorem rX(key n:Int):
 DT 125 #[(.int .i64 (key)),(.int .i64 (n))] T0 [] (RI (.bool (xJ key n)) []):=by
 refine BD 19 Tryz.func125 rfl rfl rfl λw0 F hF=>sr λ_ J1=>PS ?_
 refine nx J1 (sr λ_ J2=>P2 ?_);refine aq ?_ ?_<;>intro h6;refine P3 ?_;refine aq ?_ ?_<;>intro h9;refine P4 ?_;refine aq ?_ ?_<;>intro h13;refine P3 ?_;refine CE FU (lJ n) ID ?_;refine P2 ?_;refine nx J2 (ak (WK [] (aw rfl rfl ?_)));exact⟨congrArg Value.bool (by simp[xJ,nl, *]),rfl⟩;refine P2 ?_;refine UF ?_;refine UF ?_;refine P2 ?_;refine nx J2 (ak (WK [] (aw rfl rfl ?_)));exact⟨congrArg Value.bool (by simp[xJ,nl, *]),rfl⟩;refine P2 ?_;refine UF ?_;refine UF ?_;refine P2 ?_;refine UF ?_;refine UF ?_;refine P2 ?_;refine nx J2 (ak (WK [] (aw rfl rfl ?_)));exact⟨congrArg Value.bool (by simp[xJ,nl, *]),rfl⟩;refine PS ?_;refine UF ?_;refine UF ?_;refine P2 ?_;refine UF ?_;refine UF ?_;refine P2 ?_;refine UF ?_;refine UF ?_;refine P2 ?_;refine nx J2 (ak (WK [] (aw rfl rfl ?_)));exact⟨congrArg Value.bool (by simp[xJ,nl, *]),rfl⟩
theorem Hs(b off T:Nat)(cs:List Value)(n:Int)(h:cs[off]?=some (.int .i64 n)):
 DT 127 #[(.pointer (some ⟨b,off,none⟩))] T0 [an b (cs) T] (RI (.tuple #[.int .i64 n, .pointer (some ⟨b,off,none⟩)]) [an b cs T]):=by
 refine BD 11 Tryz.func127 rfl rfl rfl λw0 F hF=>sr λ_ J1=>P2 ?_
 refine nx J1 (aa λ_ J2=>D1 0 bo ?_);refine PD 0 ?_;refine PD 1 ?_;refine ta 2 rfl (bl (r:=off) rfl nV rfl aQ rfl rfl) ?_;refine LX 3 Y3 (.int .i64 (n)) ?_ (hc:=by exact h);refine PD 4 ?_;refine PD 5 ?_;refine ta 6 rfl (bl (r:=off) rfl nV rfl aQ rfl rfl) ?_;refine PD 7 ?_;refine PD 8 ?_;exact DN (af J2 (ak (WK [0] (jg rfl rfl rfl ⟨rfl,rfl⟩))))
theorem HE(b off T:Nat)(cs:List Value)(n:Int)(h:cs[off+1]?=some (.int .i64 n)):
 DT 128 #[(.pointer (some ⟨b,off,none⟩))] T0 [an b (cs) T] (RI (.tuple #[.int .i64 n, .pointer (some ⟨b,off+1,none⟩)]) [an b cs T]):=by
 refine BD 11 Tryz.func128 rfl rfl rfl λw0 F hF=>sr λ_ J1=>P2 ?_
 refine nx J1 (aa λ_ J2=>D1 0 bo ?_);refine PD 0 ?_;refine PD 1 ?_;refine ta 2 rfl (bl (r:=off+1) rfl nV rfl aQ rfl rfl) ?_;refine LX 3 Y3 (.int .i64 (n)) ?_ (hc:=by exact h);refine PD 4 ?_;refine PD 5 ?_;refine ta 6 rfl (bl (r:=off+1) rfl nV rfl aQ rfl rfl) ?_;refine PD 7 ?_;refine PD 8 ?_;exact DN (af J2 (ak (WK [0] (jg rfl rfl rfl ⟨rfl,rfl⟩))))
theorem E3(b off T tb:Nat)(cs:List Value)(g:Vector Int 5)(to':Int)(ht:0≤to'∧to'<5)(h:(cs.drop (off+2)).take 5=ints g.toList):
 DT 130 #[(.pointer (some ⟨b,off,none⟩)),(.pointer (some ⟨tb,0,none⟩))] T0 [an b (cs) T,an tb [(.int .i64 (to'))] 3] (RI (.tuple #[.int .i64 (g.toList.foldl (λs g=>gX (s+g)) 0), .pointer (some ⟨b,off+2+to'.toNat,none⟩)]) [an b cs T,an tb [.int .i64 to'] 3]):=by
 refine BD 25 Tryz.func130 rfl rfl rfl λw0 F hF=>sr λ_ J1=>P2 ?_
 refine nx J1 (sr λ_ J2=>PS ?_);refine nx J2 (aa λ_ J3=>sr λ_ J4=>P2 ?_);refine tp (bl (r:=off+2) rfl nV rfl gK rfl rfl) ?_;refine tp (aL (vs:=ints g.toList) rfl mX rfl gK rfl (RO 0) (jL g) h) ?_;refine PS ?_;refine nx J4 (av ?_)
 refine bG (α:=(Nat)×(Int)) (λ⟨k,s⟩=>k≤5∧s=(g.toList.take k).foldl (λs g=>gX (s+g)) 0) (λ⟨k,s⟩=>[(0,(.pointer (some ⟨b,off,none⟩))),(1,(.pointer (some ⟨tb,0,none⟩))),(3,(.int .i64 0)),(4,(.pointer none)),(5,(.int .i64 (s))),(11,(.agg (ints g.toList).toArray)),(12,(.int .i64 (((k:Nat):Int))))]) (λ⟨k,s⟩=>[an b (cs) T,an tb [(.int .i64 (to'))] 3]) (λ⟨k,s⟩=>5-k) (0,0)
  ⟨aP _,rfl⟩ SB
  (λ_ s=>s) (λ⟨k,s⟩ hinv=>?_)
 obtain⟨hk,hs⟩:=hinv;refine sr λ_ J5=>PS ?_
 refine aq ?_ ?_<;>intro h13;refine nx J5 (aa λ_ J6=>CY (qx J6 (aa λ_ J7=>av (sr λ_ J8=>tp (sj (cs:=ints g.toList) (v:=Value.int .i64 (g[k]'(by omega))) (r:=k) rfl mX Y3 rfl aQ rfl rfl (by omega) (by omega) (by omega) (kG g (by omega))) ?_))));refine PS ?_;refine nx J8 (ag (P2 ?_));refine tp (cG (r:=(gX (s+(g[k]'(by omega))))) rfl rfl rfl rfl) ?_;refine PS ?_;refine ax (ah (af J7 (ag (AD ?_))));refine PS ?_;refine ax ?_
 exact aN ((k+1,(gX (s+(g[k]'(by omega))))):(Nat)×(Int)) ⟨by omega,by rw[cx (by simp;omega),fb,←hs];simp⟩ (by show 5- (k+1)<5-k;omega)
  SB
  (λ_ s=>s)
 refine nx J5 (aa λ_ J9=>CN (bg (aC (aC (bD (af J3 (aa λ_ J10=>D1 1 bo ?_)))))));refine PD 0 ?_;refine PD 1 ?_;refine LX 2 Y3 (.int .i64 (to')) ?_ (hc:=by exact rfl);refine PD 3 ?_;refine ta 4 rfl (bl (r:=off+2) rfl nV rfl gK rfl rfl) ?_;refine IY 5 (off+2+(to').toNat) mX aQ ?_;refine PD 6 ?_;refine PD 7 ?_;refine DN (af J10 (ak (WK [0,0] (jg rfl rfl rfl ?_))));exact⟨by rw[hs,aD (by simp;omega)],rfl⟩
theorem AO(x:RowT)(key n:Int)(hk:0≤key∧key<4)(hn:1≤n∧n≤1099511627776):
 DT 126 #[(.agg (ints x.flat).toArray),(.int .i64 (key)),(.int .i64 (n)),(.func (.func 127) #[] #[])] T0 [] (RI (.tuple #[.agg (ints (lV x key n (dO x key).inn {dO x key with inn:=gX ((dO x key).inn+n)}).1.flat).toArray, .int .i64 (lV x key n (dO x key).inn {dO x key with inn:=gX ((dO x key).inn+n)}).2]) []):=by
 refine BD 36 Tryz.func126 rfl rfl rfl λw0 F hF=>?_
 have hkb:nl key=true:=decide_eq_true hk;have hcell:dO x key=x.cells[key.toNat]'(by omega):=by rw[dO,dif_pos hkb]
 refine sr λ_ J1=>XY (ints x.flat) λb4=>?_
 refine XZ vS (ints RowT.zero.flat) λb8=>?_
 refine PS ?_;refine nx J1 (sr λ_ J2=>P2 ?_);refine FA 1 ez lP ?_;refine IX (1+key.toNat*7) Bm gF ?_;refine TL.callRv (ab rfl) rfl rfl rfl rfl N5 rfl (Hs b4 (1+key.toNat*7) 51 (ints x.flat) x.cells[key.toNat].inn (vu x (key.toNat*7) (by omega) (by omega) (pq bQ x.cells (i:=key.toNat) 0 (by omega) (by omega) (by decide) (yI _ rfl)))) (λ_ s=>aE [1] rfl s) (λ_ _ _=>trivial) (λvR HR hR=>?_);obtain⟨rfl,rfl⟩:=hR;refine P4 ?_;refine PS ?_;refine nx J2 (aa λ_ J3=>sr λ_ J4=>P2 ?_);refine tp (jV (r:=(1099511627776-n)) rfl rfl rfl (bO (by omega) (by omega))) ?_;refine PS ?_;refine aq ?_ ?_<;>intro h23;refine nx J4 (CY (sr λ_ J5=>BV ((ints RowT.zero.flat).toArray) ?_));refine SW 1 bj am ?_;refine PS ?_;refine nx J5 (ak (ae (RT 1 [] ez bj (am _) ?_)));exact⟨by rw[lV,hcell,if_pos h23],rfl⟩;refine nx J4 (CN (qx J3 (sr λ_ J6=>P2 ?_)));refine LT 0 Y3 (.int .i64 ((x.cells[key.toNat]'(by omega)).inn)) ?_ (hc:=by exact vu x (key.toNat*7) (by omega) (by omega) (pq bQ x.cells (i:=key.toNat) 0 (by omega) (by omega) (by decide) (yI (x.cells[key.toNat]'(by omega)) rfl)));refine PS ?_;refine tp (cG (r:=(gX (((x.cells[key.toNat]'(by omega)).inn)+n))) rfl rfl rfl rfl) ?_;refine PS ?_
 refine cd (i:=0) (ab rfl) rfl rfl rfl rfl rfl aQ rfl rfl (LB (am _)) (PW x (key.toNat*7) (by omega) (by omega) (Ib bQ x.cells (i:=key.toNat) 0 (by omega) (by omega) (by decide) (CellT.set_inn _ rfl _))) rfl (nx J6 (sr λ_ J7=>FA 0 ez aQ ?_));refine LT 0 Y3 (.int .i64 (x.version)) ?_ (hc:=by exact cJ _ rfl);refine tp (cG (r:=(gX (x.version+1))) rfl rfl rfl rfl) ?_;refine FA 0 ez aQ ?_;refine cd (i:=0) (ab rfl) rfl rfl rfl rfl rfl aQ rfl rfl (LB (am _)) (xO _ rfl _) rfl (nx J7 (sr λ_ J8=>LW 0 ez bj am ?_));refine SW 1 bj am ?_;refine PS ?_;refine nx J8 (ak (RT 1 [] ez bj (am _) ?_));refine⟨?_,rfl⟩;rw[lV,hcell,if_neg h23,lI,dif_pos hkb]
theorem AP(x:RowT)(key n:Int)(hk:0≤key∧key<4)(hn:1≤n∧n≤1099511627776):
 DT 126 #[(.agg (ints x.flat).toArray),(.int .i64 (key)),(.int .i64 (n)),(.func (.func 128) #[] #[])] T0 [] (RI (.tuple #[.agg (ints (lV x key n (dO x key).out {dO x key with out:=gX ((dO x key).out+n)}).1.flat).toArray, .int .i64 (lV x key n (dO x key).out {dO x key with out:=gX ((dO x key).out+n)}).2]) []):=by
 refine BD 36 Tryz.func126 rfl rfl rfl λw0 F hF=>?_
 have hkb:nl key=true:=decide_eq_true hk;have hcell:dO x key=x.cells[key.toNat]'(by omega):=by rw[dO,dif_pos hkb]
 refine sr λ_ J1=>XY (ints x.flat) λb4=>?_
 refine XZ vS (ints RowT.zero.flat) λb8=>?_
 refine PS ?_;refine nx J1 (sr λ_ J2=>P2 ?_);refine FA 1 ez lP ?_;refine IX (1+key.toNat*7) Bm gF ?_;refine TL.callRv (ab rfl) rfl rfl rfl rfl N4 rfl (HE b4 (1+key.toNat*7) 51 (ints x.flat) x.cells[key.toNat].out (vu x (key.toNat*7+1) (by omega) (by omega) (pq bQ x.cells (i:=key.toNat) 1 (by omega) (by omega) (by decide) (yH _ rfl)))) (λ_ s=>aE [1] rfl s) (λ_ _ _=>trivial) (λvR HR hR=>?_);obtain⟨rfl,rfl⟩:=hR;refine P4 ?_;refine PS ?_;refine nx J2 (aa λ_ J3=>sr λ_ J4=>P2 ?_);refine tp (jV (r:=(1099511627776-n)) rfl rfl rfl (bO (by omega) (by omega))) ?_;refine PS ?_;refine aq ?_ ?_<;>intro h23;refine nx J4 (CY (sr λ_ J5=>BV ((ints RowT.zero.flat).toArray) ?_));refine SW 1 bj am ?_;refine PS ?_;refine nx J5 (ak (ae (RT 1 [] ez bj (am _) ?_)));exact⟨by rw[lV,hcell,if_pos h23],rfl⟩;refine nx J4 (CN (qx J3 (sr λ_ J6=>P2 ?_)));refine LT 0 Y3 (.int .i64 ((x.cells[key.toNat]'(by omega)).out)) ?_ (hc:=by exact vu x (key.toNat*7+1) (by omega) (by omega) (pq bQ x.cells (i:=key.toNat) 1 (by omega) (by omega) (by decide) (yH (x.cells[key.toNat]'(by omega)) rfl)));refine PS ?_;refine tp (cG (r:=(gX (((x.cells[key.toNat]'(by omega)).out)+n))) rfl rfl rfl rfl) ?_;refine PS ?_
 refine cd (i:=0) (ab rfl) rfl rfl rfl rfl rfl aQ rfl rfl (LB (am _)) (PW x (key.toNat*7+1) (by omega) (by omega) (Ib bQ x.cells (i:=key.toNat) 1 (by omega) (by omega) (by decide) (CellT.set_out _ rfl _))) rfl (nx J6 (sr λ_ J7=>FA 0 ez aQ ?_));refine LT 0 Y3 (.int .i64 (x.version)) ?_ (hc:=by exact cJ _ rfl);refine tp (cG (r:=(gX (x.version+1))) rfl rfl rfl rfl) ?_;refine FA 0 ez aQ ?_;refine cd (i:=0) (ab rfl) rfl rfl rfl rfl rfl aQ rfl rfl (LB (am _)) (xO _ rfl _) rfl (nx J7 (sr λ_ J8=>LW 0 ez bj am ?_));refine SW 1 bj am ?_;refine PS ?_;refine nx J8 (ak (RT 1 [] ez bj (am _) ?_));refine⟨?_,rfl⟩;rw[lV,hcell,if_neg h23,lI,dif_pos hkb]
theorem yg(x:RowT)(key n:Int)(hk:0≤key∧key<4)(hn:1≤n∧n≤1099511627776)(tb:Nat)(to':Int)(ht:0≤to'∧to'<5):
 DT 126 #[(.agg (ints x.flat).toArray),(.int .i64 (key)),(.int .i64 (n)),(.func (.func 130) #[] #[(.pointer (some ⟨tb,0,none⟩))])] T0 [an tb [(.int .i64 (to'))] 3] (RI (.tuple #[.agg (ints (lV x key n (Iq (dO x key)) (xo (dO x key) to' (gX (lK (dO x key) to'+n)))).1.flat).toArray, .int .i64 (lV x key n (Iq (dO x key)) (xo (dO x key) to' (gX (lK (dO x key) to'+n)))).2]) [an tb [.int .i64 to'] 3]):=by
 refine Leg.Does.body (vs:=[(.agg (ints x.flat).toArray),(.int .i64 (key)),(.int .i64 (n)),(.func (.func 130) #[] #[(.pointer (some ⟨tb,0,none⟩))])]) (n:=36) Tryz.func126 rfl rfl rfl (λw0 F hF=>?_);have hkb:nl key=true:=decide_eq_true hk;have hcell:dO x key=x.cells[key.toNat]'(by omega):=by rw[dO,dif_pos hkb]
 have htb:cw to'=true:=decide_eq_true ht;refine sr λ_ J1=>?_
 refine TL.box (ab rfl) rfl rfl rfl rfl (λb4=>?_);change TL _ _ _ _ _ _ _ _ _ [an b4 (ints x.flat) 51,an tb [(.int .i64 (to'))] 3];refine qC (ab rfl) rfl rfl rfl vS (λb8=>?_);change TL _ _ _ _ _ _ _ _ _ [an b8 (ints RowT.zero.flat) 51,an b4 (ints x.flat) 51,an tb [(.int .i64 (to'))] 3];refine pN ?_;refine nx J1 ?_;refine sr λ_ J2=>?_
 refine mv ?_;refine mv ?_;refine tp (bl (r:=1) rfl ez rfl lP rfl rfl) ?_;refine tp (nX (r:=1+key.toNat*7) rfl Bm gF rfl rfl (by omega) (by omega) (by omega)) ?_;refine TL.callRv (ab rfl) rfl rfl rfl rfl N3 rfl (E3 b4 (1+key.toNat*7) 51 tb (ints x.flat) x.cells[key.toNat].given to' ht (DK x (key.toNat*7+2) (by omega) (by omega) (kT bQ x.cells (i:=key.toNat) 2 (by omega) (by omega) (by decide) (CellT.sub_given (x.cells[key.toNat]'(by omega)) 0 rfl (by decide) (bn (jL ((x.cells[key.toNat]'(by omega)).given))))))) (λ_ s=>aE [1,1] rfl s) (λ_ _ _=>trivial) (λvR HR hR=>?_);obtain⟨rfl,rfl⟩:=hR;refine mv ?_;refine tp (c9 (vs:=[(.int .i64 ((Iq (x.cells[key.toNat]'(by omega))))),(.pointer (some ⟨b4,1+key.toNat*7+2+to'.toNat,none⟩))]) rfl rfl rfl) ?_;refine tp (c9 (vs:=[(.int .i64 ((Iq (x.cells[key.toNat]'(by omega))))),(.pointer (some ⟨b4,1+key.toNat*7+2+to'.toNat,none⟩))]) rfl rfl rfl) ?_;refine pN ?_;refine pN ?_;refine nx J2 ?_;refine aa λ_ J3=>?_
 refine sr λ_ J4=>?_
 refine mv ?_;refine mv ?_;refine tp (jV (r:=(1099511627776-n)) rfl rfl rfl (bO (by omega) (by omega))) ?_;refine tp (PV.gtr rfl rfl rfl) ?_;refine aq (λh23=>?_) (λh23=>?_);refine nx J4 ?_;refine nE rfl ?_;refine sr λ_ J5=>?_
 refine tp (kn (cells:=(ints RowT.zero.flat).toArray) rfl rfl (by as_aux_lemma=>kernel_rfl)) ?_;refine bR (vs:=ints RowT.zero.flat) (i:=2) (ab rfl) rfl rfl rfl rfl rfl (by rw[(am RowT.zero)];exact bj) (bB _) rfl rfl (by have h0:=(am RowT.zero);have h1:=(am RowT.zero);omega) (cr ((am RowT.zero).trans (am RowT.zero).symm)) rfl ?_;refine pN ?_;refine nx J5 ?_;refine ak ?_;refine ae ?_;refine l5 (H':=[an tb [(.int .i64 (to'))] 3]) rfl rfl rfl ez rfl bj (fu 2 rfl rfl) (am RowT.zero) (λ_ s=>ao [1] rfl s) ?_;exact⟨by rw[lV,hcell,if_pos h23],rfl⟩;refine nx J4 ?_;refine Gk rfl ?_;refine aT ?_;refine af J3 ?_;refine sr λ_ J6=>?_
 refine mv ?_;refine tp (gJ rfl rfl) ?_;refine tp (fY (v:=(.int .i64 ((((x.cells[key.toNat]'(by omega)).given)[to'.toNat]'(by omega))))) rfl Y3 rfl rfl (fu 0 rfl rfl) (vu x (key.toNat*7+2+to'.toNat) (by omega) (by omega) (pq bQ x.cells (i:=key.toNat) (2+to'.toNat) (by omega) (by omega) (by omega) (OE (x.cells[key.toNat]'(by omega)) (to'.toNat) (by omega) (by omega) (kG ((x.cells[key.toNat]'(by omega)).given) (by omega)))))) ?_;refine mv ?_;refine tp (cG (r:=(gX ((((x.cells[key.toNat]'(by omega)).given)[to'.toNat]'(by omega))+n))) rfl rfl rfl rfl) ?_;refine tp (gJ rfl rfl) ?_;refine cd (i:=0) (ab rfl) rfl rfl rfl rfl rfl aQ rfl rfl (by have h0:=(am x);omega) (PW x (key.toNat*7+2+to'.toNat) (by omega) (by omega) (Ib bQ x.cells (i:=key.toNat) (2+to'.toNat) (by omega) (by omega) (by omega) (CellT.st_given (x.cells[key.toNat]'(by omega)) (to'.toNat) (by omega) (by omega) (yO ((x.cells[key.toNat]'(by omega)).given) (by omega) _)))) rfl ?_;refine nx J6 ?_;refine sr λ_ J7=>?_
 refine tp (bl (r:=0) rfl ez rfl aQ rfl rfl) ?_;refine tp (fY (v:=(.int .i64 (x.version))) rfl Y3 rfl rfl (fu 0 rfl rfl) (cJ (RowT.mk x.version (x.cells.set key.toNat (CellT.mk ((x.cells[key.toNat]'(by omega)).inn) ((x.cells[key.toNat]'(by omega)).out) (((x.cells[key.toNat]'(by omega)).given).set to'.toNat (gX ((((x.cells[key.toNat]'(by omega)).given)[to'.toNat]'(by omega))+n)) (by omega))) (by omega)) x.heir x.left) rfl)) ?_;refine tp (cG (r:=(gX (x.version+1))) rfl rfl rfl rfl) ?_;refine tp (bl (r:=0) rfl ez rfl aQ rfl rfl) ?_;refine cd (i:=0) (ab rfl) rfl rfl rfl rfl rfl aQ rfl rfl (by have h0:=(am (RowT.mk x.version (x.cells.set key.toNat (CellT.mk ((x.cells[key.toNat]'(by omega)).inn) ((x.cells[key.toNat]'(by omega)).out) (((x.cells[key.toNat]'(by omega)).given).set to'.toNat (gX ((((x.cells[key.toNat]'(by omega)).given)[to'.toNat]'(by omega))+n)) (by omega))) (by omega)) x.heir x.left));omega) (xO (RowT.mk x.version (x.cells.set key.toNat (CellT.mk ((x.cells[key.toNat]'(by omega)).inn) ((x.cells[key.toNat]'(by omega)).out) (((x.cells[key.toNat]'(by omega)).given).set to'.toNat (gX ((((x.cells[key.toNat]'(by omega)).given)[to'.toNat]'(by omega))+n)) (by omega))) (by omega)) x.heir x.left) rfl _) rfl ?_;refine nx J7 ?_;refine sr λ_ J8=>?_
 refine tp (aL (vs:=ints (RowT.mk (gX (x.version+1)) (x.cells.set key.toNat (CellT.mk ((x.cells[key.toNat]'(by omega)).inn) ((x.cells[key.toNat]'(by omega)).out) (((x.cells[key.toNat]'(by omega)).given).set to'.toNat (gX ((((x.cells[key.toNat]'(by omega)).given)[to'.toNat]'(by omega))+n)) (by omega))) (by omega)) x.heir x.left).flat) rfl ez rfl bj rfl (fu 0 rfl rfl) (am (RowT.mk (gX (x.version+1)) (x.cells.set key.toNat (CellT.mk ((x.cells[key.toNat]'(by omega)).inn) ((x.cells[key.toNat]'(by omega)).out) (((x.cells[key.toNat]'(by omega)).given).set to'.toNat (gX ((((x.cells[key.toNat]'(by omega)).given)[to'.toNat]'(by omega))+n)) (by omega))) (by omega)) x.heir x.left)) (bn (am (RowT.mk (gX (x.version+1)) (x.cells.set key.toNat (CellT.mk ((x.cells[key.toNat]'(by omega)).inn) ((x.cells[key.toNat]'(by omega)).out) (((x.cells[key.toNat]'(by omega)).given).set to'.toNat (gX ((((x.cells[key.toNat]'(by omega)).given)[to'.toNat]'(by omega))+n)) (by omega))) (by omega)) x.heir x.left)))) ?_
 refine bR (vs:=ints (RowT.mk (gX (x.version+1)) (x.cells.set key.toNat (CellT.mk ((x.cells[key.toNat]'(by omega)).inn) ((x.cells[key.toNat]'(by omega)).out) (((x.cells[key.toNat]'(by omega)).given).set to'.toNat (gX ((((x.cells[key.toNat]'(by omega)).given)[to'.toNat]'(by omega))+n)) (by omega))) (by omega)) x.heir x.left).flat) (i:=2) (ab rfl) rfl rfl rfl rfl rfl (by rw[(am (RowT.mk (gX (x.version+1)) (x.cells.set key.toNat (CellT.mk ((x.cells[key.toNat]'(by omega)).inn) ((x.cells[key.toNat]'(by omega)).out) (((x.cells[key.toNat]'(by omega)).given).set to'.toNat (gX ((((x.cells[key.toNat]'(by omega)).given)[to'.toNat]'(by omega))+n)) (by omega))) (by omega)) x.heir x.left))];exact bj) (bB _) rfl rfl (by have h0:=(am RowT.zero);have h1:=(am (RowT.mk (gX (x.version+1)) (x.cells.set key.toNat (CellT.mk ((x.cells[key.toNat]'(by omega)).inn) ((x.cells[key.toNat]'(by omega)).out) (((x.cells[key.toNat]'(by omega)).given).set to'.toNat (gX ((((x.cells[key.toNat]'(by omega)).given)[to'.toNat]'(by omega))+n)) (by omega))) (by omega)) x.heir x.left));omega) (cr ((am RowT.zero).trans (am (RowT.mk (gX (x.version+1)) (x.cells.set key.toNat (CellT.mk ((x.cells[key.toNat]'(by omega)).inn) ((x.cells[key.toNat]'(by omega)).out) (((x.cells[key.toNat]'(by omega)).given).set to'.toNat (gX ((((x.cells[key.toNat]'(by omega)).given)[to'.toNat]'(by omega))+n)) (by omega))) (by omega)) x.heir x.left)).symm)) rfl ?_;refine pN ?_;refine nx J8 ?_;refine ak ?_
 refine l5 (H':=[an tb [(.int .i64 (to'))] 3]) rfl rfl rfl ez rfl bj (fu 2 rfl rfl) (am (RowT.mk (gX (x.version+1)) (x.cells.set key.toNat (CellT.mk ((x.cells[key.toNat]'(by omega)).inn) ((x.cells[key.toNat]'(by omega)).out) (((x.cells[key.toNat]'(by omega)).given).set to'.toNat (gX ((((x.cells[key.toNat]'(by omega)).given)[to'.toNat]'(by omega))+n)) (by omega))) (by omega)) x.heir x.left)) (λ_ s=>ao [1] rfl s) ?_;refine⟨?_,rfl⟩;rw[lV,hcell,if_neg h23,lI,dif_pos hkb];simp[xo,lK,htb]
theorem Ce(x:RowT)(key n:Int):
 DT 88 #[(.agg (ints x.flat).toArray),(.int .i64 (key)),(.int .i64 (n))] T0 [] (RI (.tuple #[.agg (ints (qd x key n).1.flat).toArray, .int .i64 (qd x key n).2]) []):=by
 refine BD 19 Tryz.func88 rfl rfl rfl λw0 F hF=>sr λ_ J1=>XY (ints x.flat) λb3=>?_
 refine XZ vS (ints RowT.zero.flat) λb6=>?_
 refine PS ?_;refine nx J1 (aa λ_ J2=>sr λ_ J3=>P2 ?_);refine CE IV (rX key n) ID ?_;refine bh ?_ ?_<;>intro h10;have hq:=h10;unfold xJ nl IL at hq;simp only[au,decide_eq_true_iff]at hq;have hk:0≤key∧key<4:=hq.1.1;have hn:1≤n∧n≤1099511627776:=⟨hq.1.2,hq.2.2⟩;refine PS ?_;refine nx J3 (CN (qx J2 (sr λ_ J4=>LW 1 ez bj am ?_)));refine P2 ?_;refine CE IU (AO x key n hk hn) ID ?_;refine P2 ?_;refine SW 0 bj am ?_;refine PS ?_;refine nx J4 (ak (RT 0 [] ez bj (am _) ?_));exact⟨by simp[qd, *],rfl⟩;refine PS ?_;refine nx J3 (CY (sr λ_ J5=>BV ((ints RowT.zero.flat).toArray) ?_));refine SW 0 bj am ?_;refine PS ?_;refine nx J5 (ak (ae (RT 0 [] ez bj (am _) ?_)));exact⟨by simp[qd, *],rfl⟩
theorem Cf(x:RowT)(key n:Int):
 DT 89 #[(.agg (ints x.flat).toArray),(.int .i64 (key)),(.int .i64 (n))] T0 [] (RI (.tuple #[.agg (ints (qe x key n).1.flat).toArray, .int .i64 (qe x key n).2]) []):=by
 refine BD 19 Tryz.func89 rfl rfl rfl λw0 F hF=>sr λ_ J1=>XY (ints x.flat) λb3=>?_
 refine XZ vS (ints RowT.zero.flat) λb6=>?_
 refine PS ?_;refine nx J1 (aa λ_ J2=>sr λ_ J3=>P2 ?_);refine CE IV (rX key n) ID ?_;refine bh ?_ ?_<;>intro h10;have hq:=h10;unfold xJ nl IL at hq;simp only[au,decide_eq_true_iff]at hq;have hk:0≤key∧key<4:=hq.1.1;have hn:1≤n∧n≤1099511627776:=⟨hq.1.2,hq.2.2⟩;refine PS ?_;refine nx J3 (CN (qx J2 (sr λ_ J4=>LW 1 ez bj am ?_)));refine P2 ?_;refine CE IU (AP x key n hk hn) ID ?_;refine P2 ?_;refine SW 0 bj am ?_;refine PS ?_;refine nx J4 (ak (RT 0 [] ez bj (am _) ?_));exact⟨by simp[qe, *],rfl⟩;refine PS ?_;refine nx J3 (CY (sr λ_ J5=>BV ((ints RowT.zero.flat).toArray) ?_));refine SW 0 bj am ?_;refine PS ?_;refine nx J5 (ak (ae (RT 0 [] ez bj (am _) ?_)));exact⟨by simp[qe, *],rfl⟩
theorem At(x:RowT)(key n to':Int):
 DT 90 #[(.agg (ints x.flat).toArray),(.int .i64 (key)),(.int .i64 (n)),(.int .i64 (to'))] T0 [] (RI (.tuple #[.agg (ints (mF x key n to').1.flat).toArray, .int .i64 (mF x key n to').2]) []):=by
 refine BD 27 Tryz.func90 rfl rfl rfl λw0 F hF=>sr λ_ J1=>XY (ints x.flat) λb4=>?_
 refine XB λb7=>?_
 refine XZ vS (ints RowT.zero.flat) λb8=>?_
 refine PS ?_;refine nx J1 (aa λ_ J2=>sr λ_ J3=>LA 1 Y3 ?_);refine CE FV (kw to') ID ?_;refine bh ?_ ?_<;>intro h11;refine PS ?_;refine P3 ?_;refine CE IV (rX key n) ID ?_;refine bh ?_ ?_<;>intro h16;have hq:=h16;unfold xJ nl IL at hq;simp only[au,decide_eq_true_iff]at hq;have hk:0≤key∧key<4:=hq.1.1;have hn:1≤n∧n≤1099511627776:=⟨hq.1.2,hq.2.2⟩;have ht:0≤to'∧to'<5:=of_decide_eq_true h11;refine PS ?_;refine PS ?_;refine nx J3 (CN (qx J2 (sr λ_ J4=>LW 2 ez bj am ?_)));refine P2 ?_;refine tp (Qe rfl rfl) ?_;refine CE IU (yg x key n hk hn b7 to' ht) (SM [1]) ?_;refine P2 ?_;refine SW 1 bj am ?_;refine PS ?_;refine nx J4 (ak (RT 1 [] ez bj (am _) ?_));exact⟨by simp[mF, *],rfl⟩;refine PS ?_;refine PS ?_;refine nx J3 (CY (sr λ_ J5=>BV ((ints RowT.zero.flat).toArray) ?_));refine SW 0 bj am ?_;refine PS ?_;refine nx J5 (ak (ae (RT 0 [] ez bj (am _) ?_)));exact⟨by simp[mF, *],rfl⟩;refine PS ?_;refine PS ?_
 iterate 4 refine UT ?_
 refine PS ?_;refine nx J3 (CY (sr λ_ J6=>BV ((ints RowT.zero.flat).toArray) ?_));refine SW 0 bj am ?_;refine PS ?_;refine nx J6 (ak (ae (RT 0 [] ez bj (am _) ?_)));exact⟨by simp[mF, *],rfl⟩
theorem Cd(x:RowT)(who:Int):
 DT 79 #[(.agg (ints x.flat).toArray),(.int .i64 (who))] T0 [] (dL (λr' H=>∃u,r'=u∧H=[own u (gR x who).length (ints (gR x who)) 3 1])):=by
 refine BD 27 Tryz.func79 rfl rfl rfl λw0 F hF=>sr λ_ J1=>XY (ints x.flat) λb2=>?_
 refine PS ?_;refine nx J1 (sr λ_ J2=>PS ?_);refine nx J2 (aa λ_ J3=>sr λ_ J4=>FA 29 ez gK ?_);refine tp (aL (vs:=ints x.heir.toList) rfl mX rfl gK rfl (RO 0) (jL x.heir) (PT x 0 rfl (by decide) (bn (jL x.heir)))) ?_;refine PS ?_;refine nx J4 (av ?_)
 refine bG (α:=(Nat)×(Value)) (λ⟨k,u⟩=>k≤5∧u.oneCell'=true) (λ⟨k,u⟩=>[(1,(.int .i64 (who))),(4,(.slice none 0 0)),(5,u),(9,(.agg (ints x.heir.toList).toArray)),(10,(.int .i64 (((k:Nat):Int))))]) (λ⟨k,u⟩=>[own u ((iW x who k).length) (ints (iW x who k)) 3 1]) (λ⟨k,u⟩=>5-k) (0,(.slice none 0 0))
  ⟨aP _,rfl⟩ SB
  (λ_ s=>im 3 1 (ao [] rfl s)) (λ⟨k,u⟩ hinv=>?_)
 obtain⟨hk,hu⟩:=hinv;have hol:=G7 x who k;refine sr λ_ J5=>PS ?_
 refine aq ?_ ?_<;>intro h11;refine nx J5 (aa λ_ J6=>CY (qx J6 (aa λ_ J7=>av (sr λ_ J8=>PS ?_))));refine tp (sj (cs:=ints x.heir.toList) (v:=Value.int .i64 (x.heir[k]'(by omega))) (r:=k) rfl mX Y3 rfl aQ rfl rfl (by omega) (by omega) (by omega) (kG x.heir (by omega))) ?_;refine P2 ?_;refine nx J8 (sr λ_ J9=>P3 ?_);refine aq ?_ ?_<;>intro h16;refine PS ?_;refine UT ?_;refine UT ?_;refine PS ?_;refine nx J9 (CY (ag (P2 ?_)));refine aZ (cells:=#[(.int .i64 (((k:Nat):Int)))]) (ab rfl) rfl rfl rfl kE rO rfl rfl rfl (by as_aux_lemma=>kernel_rfl) (λb23=>cM (k:=1) (news:=[(.int .i64 (((k:Nat):Int)))]) (nn':=(iW x who k).length+1) (xs':=ints (iW x who k)++[(.int .i64 (((k:Nat):Int)))]) (ab rfl) rfl rfl rfl kE rO rfl rfl rfl rfl rfl rfl (λ_ _=>jU rfl (RO 0) rfl) (by simp[Value.oneCell']) (by simp only[maxLen];omega) (by omega) (by simp) (by simp) (λv24 ov24=>PS ?_));refine ax (ah (af J7 (ag (AD ?_))));refine PS ?_;refine ax ?_
 exact aN ((k+1,v24):(Nat)×(Value)) ⟨by omega,ov24⟩ (by show 5- (k+1)<5-k;omega)
  SB
  (λ_ s=>by
   show bN [own v24 (iW x who (k+1)).length (ints (iW x who (k+1))) 3 1] _;rw[show iW x who (k+1)=iW x who k++[((k:Nat):Int)]by rw[rI,if_pos (by rw[wY x who (by omega)];simp;omega)],aj,eJ]
   exact ao [1] rfl s)
 refine P3 ?_;refine aq ?_ ?_<;>intro h19;refine PS ?_;refine nx J9 (CY (ag (P2 ?_)));refine aZ (cells:=#[(.int .i64 (((k:Nat):Int)))]) (ab rfl) rfl rfl rfl kE rO rfl rfl rfl (by as_aux_lemma=>kernel_rfl) (λb23=>cM (k:=1) (news:=[(.int .i64 (((k:Nat):Int)))]) (nn':=(iW x who k).length+1) (xs':=ints (iW x who k)++[(.int .i64 (((k:Nat):Int)))]) (ab rfl) rfl rfl rfl kE rO rfl rfl rfl rfl rfl rfl (λ_ _=>jU rfl (RO 0) rfl) (by simp[Value.oneCell']) (by simp only[maxLen];omega) (by omega) (by simp) (by simp) (λv24 ov24=>PS ?_));refine ax (ah (af J7 (ag (AD ?_))));refine PS ?_;refine ax ?_
 exact aN ((k+1,v24):(Nat)×(Value)) ⟨by omega,ov24⟩ (by show 5- (k+1)<5-k;omega)
  SB
  (λ_ s=>by
   show bN [own v24 (iW x who (k+1)).length (ints (iW x who (k+1))) 3 1] _;rw[show iW x who (k+1)=iW x who k++[((k:Nat):Int)]by rw[rI,if_pos (by rw[wY x who (by omega)];simp;omega)],aj,eJ]
   exact ao [1] rfl s)
 refine PS ?_;refine nx J9 (CN (aT (ah (af J7 (ag (AD ?_))))));refine PS ?_;refine ax ?_
 exact aN ((k+1,u):(Nat)×(Value)) ⟨by omega,hu⟩ (by show 5- (k+1)<5-k;omega)
  SB
  (λ_ s=>by
   show bN [own u (iW x who (k+1)).length (ints (iW x who (k+1))) 3 1] _;rw[show iW x who (k+1)=iW x who k by rw[rI,if_neg (by rw[wY x who (by omega)];simp;omega),aU]]
   exact ao [0] rfl s)
 refine nx J5 (aa λ_ J10=>CN (bg (aC (aC (bD (af J3 (sr λ_ J11=>P2 ?_)))))));refine nx J11 (ak (WK [0] (aw rfl rfl ?_)));obtain rfl:k=5:=by omega
 exact⟨u,rfl,rfl⟩
theorem Au(x:RowT)(who of' key:Int):
 DT 114 #[(.agg (ints x.flat).toArray),(.int .i64 (who)),(.int .i64 (of')),(.int .i64 (key))] T0 [] (RI (.tuple #[.agg (ints (kx x who of' key).1.flat).toArray, .int .i64 (kx x who of' key).2]) []):=by
 refine BD 53 Tryz.func114 rfl rfl rfl λw0 F hF=>sr λ_ J1=>XY (ints x.flat) λb4=>?_
 refine XZ JT (ints CellT.zero.flat) λb8=>?_
 refine PS ?_;refine nx J1 (aa λ_ J2=>sr λ_ J3=>PS ?_);refine CE FV (kw who) ID ?_;refine bh ?_ ?_<;>intro h11;refine PS ?_;refine P2 ?_;refine CE FV (kw of') ID ?_;refine bh ?_ ?_<;>intro h15;refine PS ?_;refine P4 ?_;refine aq ?_ ?_<;>intro h20;have hkb:nl key=false:=decide_eq_false (by omega);refine P2 ?_;refine UT ?_;refine UT ?_;refine PS ?_;refine nx J3 (CY (sr λ_ J4=>BV ((ints CellT.zero.flat).toArray) ?_));refine SW 0 gF bH ?_;refine PS ?_;refine nx J4 (ak (ae (RT 0 [] nV gF (bH _) ?_)));exact⟨by simp[kx, *],rfl⟩;refine P4 ?_;refine aq ?_ ?_<;>intro h24;have hkb:nl key=false:=decide_eq_false (by omega);refine PS ?_;refine nx J3 (CY (sr λ_ J5=>BV ((ints CellT.zero.flat).toArray) ?_));refine SW 0 gF bH ?_;refine PS ?_;refine nx J5 (ak (ae (RT 0 [] nV gF (bH _) ?_)));exact⟨by simp[kx, *],rfl⟩;have hw:cw who=true:=by simpa using h11
 have ho:cw of'=true:=by simpa using h15
 have hw2:0≤who∧who<5:=of_decide_eq_true hw;have ho2:0≤of'∧of'<5:=of_decide_eq_true ho;have hkb:nl key=true:=decide_eq_true ⟨by omega,by omega⟩;have e1:gp x of'=x.heir[of'.toNat]'(by omega):=by rw[gp,dif_pos ho]
 have e2:ET x of' key=(x.left[of'.toNat]'(by omega))[key.toNat]'(by omega):=by rw[ET,dif_pos ⟨ho,hkb⟩]
 have e3:dO x key=x.cells[key.toNat]'(by omega):=by rw[dO,dif_pos hkb]
 refine PS ?_;refine nx J3 (CN (qx J2 (aa λ_ J6=>sr λ_ J7=>P3 ?_)));refine aq ?_ ?_<;>intro h29;refine nx J7 (CY (aa λ_ J8=>D1 1 bo ?_));refine PD 0 ?_;refine FD 1 1 ez lP ?_;refine IY 2 (1+key.toNat*7) Bm gF ?_;refine ta 3 rfl (aL (vs:=ints (x.cells[key.toNat]'(by omega)).flat) rfl nV rfl gF rfl (λ_ h=>h.2.1) (bH (x.cells[key.toNat]'(by omega))) (DK x (key.toNat*7) (by omega) (by omega) (kT bQ x.cells (i:=key.toNat) 0 (by omega) (by omega) (by decide) (bn (bH (x.cells[key.toNat]'(by omega))))))) ?_;refine FD 4 0 ez aQ ?_;refine LR 5 Y3 (cJ x rfl) ?_;refine AL 6 ?_;refine SW 0 gF bH ?_;refine EN (PD 7 ?_);refine DN (af J8 (ak (ae (RT 0 [] nV gF (bH _) ?_))));exact⟨by simp[kx, *],rfl⟩;refine nx J7 (CN (qx J6 (aa λ_ J9=>sr λ_ J10=>PS ?_)));refine FA 29 ez gK ?_;refine IX (29+(of').toNat) mX aQ ?_;refine LT 1 Y3 (.int .i64 ((x.heir[(of').toNat]'(by omega)))) ?_ (hc:=by exact sa x ((of').toNat) (by omega) (by omega) (kG x.heir (by omega)));refine PS ?_;refine aq ?_ ?_<;>intro h40;refine nx J10 (CY (aa λ_ J11=>D1 1 bo ?_));refine PD 0 ?_;refine PD 1 ?_;refine FD 2 34 ez BK ?_;refine IY 3 (34+((of').toNat)*28) L1 lP ?_;refine IY 4 (34+((of').toNat)*28+key.toNat*7) Bm gF ?_
 refine ta 5 rfl (aL (vs:=ints ((x.left[(of').toNat]'(by omega))[key.toNat]'(by omega)).flat) rfl nV rfl gF rfl (λ_ h=>h.2.1) (bH ((x.left[(of').toNat]'(by omega))[key.toNat]'(by omega))) (Gl x (((of').toNat)*28+key.toNat*7) (by omega) (by omega) (kT tP x.left (i:=(of').toNat) (key.toNat*7) (by omega) (by omega) (by omega) (kT bQ (x.left[(of').toNat]'(by omega)) (i:=key.toNat) 0 (by omega) (by omega) (by decide) (bn (bH ((x.left[(of').toNat]'(by omega))[key.toNat]'(by omega)))))))) ?_;refine PD 6 ?_;refine FD 7 29 ez gK ?_;refine IY 8 (29+(of').toNat) mX aQ ?_;refine LX 9 Y3 (.int .i64 ((x.heir[(of').toNat]'(by omega)))) ?_ (hc:=by exact sa x ((of').toNat) (by omega) (by omega) (kG x.heir (by omega)));refine ta 10 rfl (jV (r:=(gX ((x.heir[(of').toNat]'(by omega))-1))) rfl rfl rfl rfl) ?_;refine AL 11 ?_;refine SW 0 gF bH ?_;refine EN (PD 12 ?_);refine DN (af J11 (ak (ae (RT 0 [] nV gF (bH _) ?_))));exact⟨by simp[kx, *],rfl⟩;refine nx J10 (CN (qx J9 (sr λ_ J12=>BV ((ints CellT.zero.flat).toArray) ?_)));refine SW 0 gF bH ?_;refine PS ?_;refine nx J12 (ak (RT 0 [] nV gF (bH _) ?_));exact⟨by simp[kx, *],rfl⟩;refine PS ?_;refine P2 ?_;refine UT ?_;refine UT ?_;refine P2 ?_;refine UT ?_;refine UT ?_;refine PS ?_;refine nx J3 (CY (sr λ_ J13=>BV ((ints CellT.zero.flat).toArray) ?_));refine SW 0 gF bH ?_;refine PS ?_;refine nx J13 (ak (ae (RT 0 [] nV gF (bH _) ?_)));exact⟨by simp[kx, *],rfl⟩;refine PS ?_;refine PS ?_
 iterate 3 refine UT ?_
 refine P2 ?_;refine UT ?_;refine UT ?_;refine P2 ?_;refine UT ?_;refine UT ?_;refine PS ?_;refine nx J3 (CY (sr λ_ J14=>BV ((ints CellT.zero.flat).toArray) ?_));refine SW 0 gF bH ?_;refine PS ?_;refine nx J14 (ak (ae (RT 0 [] nV gF (bH _) ?_)));exact⟨by simp[kx, *],rfl⟩
theorem pW(who:Int):
 DT 15 #[(.int .i64 (who))] T0 [] (dL (λr' H=>∃u,r'=u∧H=[own u (iy who).length (ints (iy who)) 3 1])):=by
 refine BD 20 Tryz.func15 rfl rfl rfl λw0 F hF=>sr λ_ J1=>PS ?_
 refine nx J1 (aa λ_ J2=>sr λ_ J3=>PS ?_);refine CE IP (j9 who) ID ?_;refine bh ?_ ?_<;>intro h6;have hm:0≤who∧who<5:=of_decide_eq_true h6;refine PS ?_;refine nx J3 (CN (qx J2 (sr λ_ J4=>Oo 3 1 (λon=>?_))));clear on;refine PS ?_;refine nx J4 (aa λ_ J5=>sr λ_ J6=>PS ?_);refine nx J6 (av (sh 3 (aa λ_ J7=>sr λ_ J8=>P2 ?_)));refine nx J8 (CY (qx J7 (aa λ_ J9=>av (ag (P3 ?_)))));refine tp (cG (r:=(who+1)) rfl rfl rfl (bO (by omega) (by omega))) ?_;refine tp (PV.rem (r:=((who+1)%5)) rfl rfl rfl (by omega) (FP (by omega))) ?_;refine aZ (cells:=#[(.int .i64 (((who+1)%5)))]) (ab rfl) rfl rfl rfl kE rO rfl rfl rfl (by as_aux_lemma=>kernel_rfl) (λb17=>cM (k:=1) (news:=[(.int .i64 (((who+1)%5)))]) (nn':=1) (xs':=[(.int .i64 (((who+1)%5)))]) (ab rfl) rfl rfl rfl kE rO rfl rfl rfl rfl rfl rfl (λ_ _=>jU rfl (RO 0) rfl) (by simp[Value.oneCell']) (by simp only[maxLen];omega) (by omega) (by simp) (by simp) (λv18 ov18=>PS ?_));refine ax (ah (af J9 (ag (PS ?_))));refine tp (cG (r:=2) rfl rfl rfl (by decide)) ?_;refine PS ?_;refine ax (eM (aa λ_ J10=>sr λ_ J11=>P2 ?_));refine nx J11 (CY (qx J10 (aa λ_ J12=>av (ag (P3 ?_)))));refine tp (cG (r:=(who+2)) rfl rfl rfl (bO (by omega) (by omega))) ?_;refine tp (PV.rem (r:=((who+2)%5)) rfl rfl rfl (by omega) (FP (by omega))) ?_
 refine cB (H':=[own v18 (1) ([(.int .i64 (((who+1)%5)))]) 3 1]) (λ_ s=>ao [1] rfl s) (aZ (cells:=#[(.int .i64 (((who+2)%5)))]) (ab rfl) rfl rfl rfl kE rO rfl rfl rfl (by as_aux_lemma=>kernel_rfl) (λb17=>cM (k:=1) (news:=[(.int .i64 (((who+2)%5)))]) (nn':=1+1) (xs':=[(.int .i64 (((who+1)%5)))]++[(.int .i64 (((who+2)%5)))]) (ab rfl) rfl rfl rfl kE rO rfl rfl rfl rfl rfl rfl (λ_ _=>jU rfl (RO 0) rfl) (by simp[Value.oneCell']) (by simp only[maxLen];omega) (by omega) (by simp) (by simp) (λv18 ov18=>PS ?_)));refine ax (ah (af J12 (ag (PS ?_))));refine tp (cG (r:=3) rfl rfl rfl (by decide)) ?_;refine PS ?_;refine ax (eM (aa λ_ J13=>sr λ_ J14=>P2 ?_));refine nx J14 (CN (bg (aC (aC (bD (af J5 (sr λ_ J15=>P2 ?_)))))));refine nx J15 (ak (WK [1] (aw rfl rfl ?_)));exact⟨_,rfl,by rw[iy,if_pos h6];rfl⟩;refine PS ?_;refine nx J3 (CY (sr λ_ J16=>PS ?_));refine nx J16 (ak (ae (aG (H':=[own (.slice none 0 0) 0 [] 3 1]) (dP _) (λ_ s=>im 3 1 s) (aw rfl rfl ?_))));exact⟨_,rfl,by rw[iy,if_neg (by simp[h6])];rfl⟩
theorem mQ(b off T:Nat)(cs:BookT→List Value)(hA:Arnd cs (λx=>ints x.flat) off)(B:BookT)(who:Int):
 DT 67 #[(.pointer (some ⟨b,off,none⟩)),(.int .i64 (who))] T0 [an b (cs B) T] (RI (.agg (ints (cC B who).flat).toArray) [an b (cs B) T]):=by
 refine BD 15 Tryz.func67 rfl rfl rfl λw0 F hF=>sr λ_ J1=>XZ vS (ints RowT.zero.flat) λb4=>?_
 refine nx J1 (aa λ_ J2=>sr λ_ J3=>PS ?_);refine CE Mm (lH who) ID ?_;refine bh ?_ ?_<;>intro h6;have hm:0≤who∧who<5:=of_decide_eq_true h6;refine PS ?_;refine nx J3 (CN (qx J2 (sr λ_ J4=>P3 ?_)));refine tp (bl (r:=off) rfl Om rfl tT rfl rfl) ?_;refine IX (off+who.toNat*174) HT bj ?_;refine tp (aL (vs:=ints (B.rows[who.toNat]'(by omega)).flat) rfl ez rfl bj rfl (RO 1) (am (B.rows[who.toNat]'(by omega))) (OK hA (j:=who.toNat*174) (by omega) (LB (xR _)) (OH B (who.toNat*174) (by omega) (by omega) (kT dD B.rows (i:=who.toNat) 0 (by omega) (by omega) (by decide) (bn (am (B.rows[who.toNat]'(by omega)))))))) ?_;refine SW 0 bj am ?_;refine nx J4 (ak (RC 0 [1] ez bj (am _) ?_));exact⟨by rw[cC,dif_pos h6],rfl⟩;refine PS ?_;refine nx J3 (CY (sr λ_ J5=>BV ((ints RowT.zero.flat).toArray) ?_));refine SW 0 bj am ?_;refine nx J5 (ak (ae (RC 0 [1] ez bj (am _) ?_)));exact⟨by rw[cC,dif_neg (by simp[h6])],rfl⟩
theorem nr(b off T:Nat)(cs:BookT→List Value)(hA:Arnd cs (λx=>ints x.flat) off)(B:BookT)(who:Int)(x:RowT)(hx:WF x.flat):
 DT 100 #[(.pointer (some ⟨b,off,none⟩)),(.int .i64 (who)),(.agg (ints x.flat).toArray)] T0 [an b (cs B) T] (RI (.bool (gk B who x).2) [an b (cs (gk B who x).1) T]):=by
 refine BD 33 Tryz.func100 rfl rfl rfl λw0 F hF=>sr λ_ J1=>XY (ints x.flat) λb5=>?_
 refine PS ?_;refine nx J1 (aa λ_ J2=>aa λ_ J3=>D2 0 1 bo ?_);refine PD 0 ?_;refine AL 1 ?_;refine CE Mm (lH who) ID ?_;refine bh ?_ ?_<;>intro h8;have hm:0≤who∧who<5:=of_decide_eq_true h8;have hrow:cC B who=B.rows[who.toNat]'(by omega):=by rw[cC,dif_pos h8]
 refine ax (E2 0 1 (PD 2 ?_));refine PD 3 ?_;refine LY 4 ez bj am ?_;refine AL 5 ?_;refine CE Cx (kd x hx) ID ?_;refine bh ?_ ?_<;>intro h12;refine ax (E2 0 1 (PD 6 ?_));refine PD 7 ?_;refine PD 8 ?_;refine FD 9 0 ez aQ ?_;refine LR 10 Y3 (cJ x rfl) ?_;refine PD 11 ?_;refine PD 12 ?_;refine PD 13 ?_;refine tb 14 rfl (bl (r:=off) rfl Om rfl tT rfl rfl) ?_;refine IY 15 (off+who.toNat*174) HT bj ?_;refine tb 16 rfl (bl (r:=off+who.toNat*174) rfl ez rfl aQ rfl rfl) ?_;refine LX 17 Y3 (.int .i64 ((B.rows[who.toNat]'(by omega)).version)) ?_ (hc:=by exact Arnd.at hA (j:=who.toNat*174) (by omega) (LB (xR _)) (BookT.pt_rows B (who.toNat*174) (by omega) (by omega) (pq dD B.rows (i:=who.toNat) 0 (by omega) (by omega) (by decide) (cJ _ rfl))));refine PD 18 ?_;refine jT ?_ ?_<;>intro h25;refine PD 19 ?_;refine DN (af J3 (CY (sr λ_ J4=>PS ?_)));refine nx J4 (ak (ae (WK [1] (aw rfl rfl ?_))));have e:gk B who x=(B,false):=by rw[gk,if_neg (λh=>by simp only[au,decide_eq_true_iff]at h;rw[hrow]at h;omega)]
 exact⟨by rw[e],by rw[e];rfl⟩;refine PD 19 ?_;refine DN (af J3 (CN (qx J2 (aa λ_ J5=>D1 0 bo ?_))));refine PD 0 ?_;refine PD 1 ?_;refine LY 2 ez bj am ?_;refine PD 3 ?_;refine ta 4 rfl (bl (r:=off) rfl Om rfl tT rfl rfl) ?_;refine IY 5 (off+who.toNat*174) HT bj ?_;refine AL 6 ?_;refine bR (vs:=ints x.flat) (i:=1) (ab rfl) rfl rfl rfl rfl rfl (by rw[(am x)];exact bj) (bB _) rfl rfl (by have h0:=(xR B);have h2:=Arnd.le hA B;have h1:=(am x);omega) (Arnd.wr hA (x:=B) (x':=(BookT.mk (B.rows.set who.toNat x (by omega)))) (j:=who.toNat*174) (by omega) (LC (xR _) (am _)) (BookT.wr_rows_ B (who.toNat*174) (by omega) (by have h1:=(am x);omega) (wc dD B.rows (i:=who.toNat) 0 (by omega) (by omega) (by have h1:=(am x);omega) (cr ((am (B.rows[who.toNat]'(by omega))).trans (am x).symm))))) rfl (ax (E1 0 (DN (af J5 (sr λ_ J6=>PS ?_)))));refine nx J6 (ak (WK [1] (aw rfl rfl ?_)));have e:gk B who x=(Az B who x,true):=by rw[gk,if_pos (by simp only[au,decide_eq_true_iff,hrow];exact⟨⟨h8,h12⟩,by omega⟩)]
 exact⟨by rw[e],by rw[e,Az,dif_pos h8];rfl⟩;refine ax (E2 0 1 (PD 6 ?_));refine PD 7 ?_;refine PD 8 ?_;refine NT 9 ?_;refine NT 10 ?_;refine NT 11 ?_;refine NT 12 ?_;refine NT 13 ?_;refine NT 14 ?_;refine NT 15 ?_;refine NT 16 ?_;refine NT 17 ?_;refine NT 18 ?_;refine PD 19 ?_;refine DN (af J3 (CY (sr λ_ J7=>PS ?_)));refine nx J7 (ak (ae (WK [1] (aw rfl rfl ?_))));have e:gk B who x=(B,false):=by rw[gk,if_neg (λh=>by simp only[au,decide_eq_true_iff]at h;rw[h12]at h;exact absurd h.1.2 (by decide))]
 exact⟨by rw[e],by rw[e];rfl⟩;refine ax (E2 0 1 (PD 2 ?_));refine PD 3 ?_;refine NT 4 ?_;refine NT 5 ?_;refine NT 6 ?_;refine PD 7 ?_;refine PD 8 ?_;refine NT 9 ?_;refine NT 10 ?_;refine NT 11 ?_;refine NT 12 ?_;refine NT 13 ?_;refine NT 14 ?_;refine NT 15 ?_;refine NT 16 ?_;refine NT 17 ?_;refine NT 18 ?_;refine PD 19 ?_;refine DN (af J3 (CY (sr λ_ J8=>PS ?_)));refine nx J8 (ak (ae (WK [1] (aw rfl rfl ?_))));have e:gk B who x=(B,false):=by rw[gk,if_neg (λh=>by simp only[au,decide_eq_true_iff]at h;rw[h8]at h;exact absurd h.1.1 (by decide))]
 exact⟨by rw[e],by rw[e];rfl⟩
theorem rh(b off T:Nat)(cs:BookT→List Value)(hA:Arnd cs (λx=>ints x.flat) off)(B:BookT)(of' key:Int):
 DT 78 #[(.pointer (some ⟨b,off,none⟩)),(.int .i64 (of')),(.int .i64 (key))] T0 [an b (cs B) T] (RI (.agg (ints (da B of' key).flat).toArray) [an b (cs B) T]):=by
 refine BD 35 Tryz.func78 rfl rfl rfl λw0 F hF=>sr λ_ J1=>XZ JT (ints CellT.zero.flat) λb6=>?_
 refine nx J1 (sr λ_ J2=>XZ JT (ints CellT.zero.flat) λb7=>?_);refine nx J2 (sr λ_ J3=>PS ?_);refine nx J3 (aa λ_ J4=>sr λ_ J5=>PS ?_);refine nx J5 (av ?_)
 refine bG (α:=(Nat)×(CellT)×(Int)) (λ⟨k,c,n⟩=>k≤5∧(c,n)=xE B of' key k) (λ⟨k,c,n⟩=>[(0,(.pointer (some ⟨b,off,none⟩))),(1,(.int .i64 (of'))),(2,(.int .i64 (key))),(6,(.pointer (some ⟨b6,0,none⟩))),(7,(.pointer (some ⟨b7,0,none⟩))),(8,(.int .i64 (n))),(12,(.int .i64 (((k:Nat):Int))))]) (λ⟨k,c,n⟩=>[an b7 (ints c.flat) 47,an b6 (ints CellT.zero.flat) 47,an b (cs B) T]) (λ⟨k,c,n⟩=>5-k) (0,CellT.zero, -1)
  ⟨aP _,rfl⟩ SB
  (λ_ s=>s) (λ⟨k,c,n⟩ hinv=>?_)
 obtain⟨hk,hc⟩:=hinv;refine sr λ_ J6=>PS ?_
 refine aq ?_ ?_<;>intro h13;refine nx J6 (aa λ_ J7=>CY (qx J7 (aa λ_ J8=>av (sr λ_ J9=>P2 ?_))));refine nx J9 (sr λ_ J10=>P3 ?_);refine tp (bl (r:=off) rfl Om rfl tT rfl rfl) ?_;refine IX (off+k*174) HT bj ?_;refine tp (aL (vs:=ints (B.rows[k]'(by omega)).flat) rfl ez rfl bj rfl (RO 2) (am (B.rows[k]'(by omega))) (OK hA (j:=k*174) (by omega) (LB (xR _)) (OH B (k*174) (by omega) (by omega) (kT dD B.rows (i:=k) 0 (by omega) (by omega) (by decide) (bn (am (B.rows[k]'(by omega)))))))) ?_;refine P3 ?_;refine CE N6 (Au (B.rows[k]'(by omega)) ((k:Nat):Int) of' key) ID ?_;refine P3 ?_;refine XZ JT (ints CellT.zero.flat) λb10=>?_
 refine SW 0 gF bH ?_;refine PS ?_;refine nx J10 (sr λ_ J11=>P3 ?_);refine aq ?_ ?_<;>intro h30;refine nx J11 (CY (ag (LW 0 nV gF bH ?_)));refine PS ?_;refine SW 1 gF bH ?_;refine PS ?_;refine ax (ah (af J8 (ag (AD ?_))));refine PS ?_;refine ax ?_
 exact aN ((k+1,(kx (B.rows[k]'(by omega)) ((k:Nat):Int) of' key).1,(kx (B.rows[k]'(by omega)) ((k:Nat):Int) of' key).2):(Nat)×(CellT)×(Int)) ⟨by omega,by rw[ve,←hc,tv,xF B (by omega)];simp[h30]⟩ (by show 5- (k+1)<5-k;omega)
  SB
  (λ_ s=>ao [1,1,1] rfl s)
 refine nx J11 (CN (aT (ah (af J8 (ag (AD ?_))))));refine PS ?_;refine ax ?_
 exact aN ((k+1,c,n):(Nat)×(CellT)×(Int)) ⟨by omega,by rw[ve,←hc,tv,xF B (by omega)];simp[h30]⟩ (by show 5- (k+1)<5-k;omega)
  SB
  (λ_ s=>ao [1,1,1] rfl s)
 refine nx J6 (aa λ_ J12=>CN (bg (aC (aC (bD (af J4 (sr λ_ J13=>LW 0 nV gF bH ?_)))))));refine SW 1 gF bH ?_;refine nx J13 (ak (RC 1 [2] nV gF (bH _) ?_));obtain rfl:k=5:=by omega
 exact⟨by rw[da,←hc],rfl⟩
theorem qu(b off T:Nat)(cs:BookT→List Value)(hA:Arnd cs (λx=>ints x.flat) off)(B:BookT)(key:Int):
 DT 44 #[(.pointer (some ⟨b,off,none⟩)),(.int .i64 (key))] T0 [an b (cs B) T] (RI (.int .i64 (mW B key)) [an b (cs B) T]):=by
 refine BD 24 Tryz.func44 rfl rfl rfl λw0 F hF=>sr λ_ J1=>PS ?_
 refine nx J1 (sr λ_ J2=>PS ?_);refine nx J2 (aa λ_ J3=>sr λ_ J4=>PS ?_);refine nx J4 (av ?_)
 refine bG (α:=(Nat)×(Int)) (λ⟨k,n⟩=>k≤5∧n=sD B key k) (λ⟨k,n⟩=>[(0,(.pointer (some ⟨b,off,none⟩))),(1,(.int .i64 (key))),(4,(.int .i64 0)),(5,(.int .i64 (n))),(8,(.int .i64 (((k:Nat):Int))))]) (λ⟨k,n⟩=>[an b (cs B) T]) (λ⟨k,n⟩=>5-k) (0,0)
  ⟨aP _,rfl⟩ SB
  (λ_ s=>s) (λ⟨k,n⟩ hinv=>?_)
 obtain⟨hk,hc⟩:=hinv;refine sr λ_ J5=>PS ?_
 refine aq ?_ ?_<;>intro h9;refine nx J5 (aa λ_ J6=>CY (qx J6 (aa λ_ J7=>av (sr λ_ J8=>P2 ?_))));refine nx J8 (sr λ_ J9=>P3 ?_);refine CE Nr (rh b off T cs hA B ((k:Nat):Int) key) ID ?_;refine XZ JT (ints CellT.zero.flat) λb7=>?_
 refine SW 0 gF bH ?_;refine nx J9 (ag (PS ?_));refine FA 0 nV aQ ?_;refine LT 0 Y3 (.int .i64 ((da B ((k:Nat):Int) key).inn)) ?_ (hc:=by exact yI _ rfl);refine FA 1 nV aQ ?_;refine LT 0 Y3 (.int .i64 ((da B ((k:Nat):Int) key).out)) ?_ (hc:=by exact yH _ rfl);refine tp (jV (r:=(gX (((da B ((k:Nat):Int) key).inn)- ((da B ((k:Nat):Int) key).out)))) rfl rfl rfl rfl) ?_;refine tp (cG (r:=(gX (n+(gX (((da B ((k:Nat):Int) key).inn)- ((da B ((k:Nat):Int) key).out)))))) rfl rfl rfl rfl) ?_;refine PS ?_;refine ax (ah (af J7 (ag (AD ?_))));refine PS ?_;refine ax ?_
 exact aN ((k+1,(gX (n+(gX (((da B ((k:Nat):Int) key).inn)- ((da B ((k:Nat):Int) key).out)))))):(Nat)×(Int)) ⟨by omega,by rw[Ae,←hc]⟩ (by show 5- (k+1)<5-k;omega)
  SB
  (λ_ s=>ao [1] rfl s)
 refine nx J5 (aa λ_ J10=>CN (bg (aC (aC (bD (af J3 (sr λ_ J11=>P2 ?_)))))));refine nx J11 (ak (WK [0] (aw rfl rfl ?_)));obtain rfl:k=5:=by omega
 exact⟨by rw[hc];rfl,rfl⟩
theorem pA(b off T:Nat)(cs:BookT→List Value)(hA:Arnd cs (λx=>ints x.flat) off)(B:BookT)(who key:Int):
    DT 43 #[(.pointer (some ⟨b,off,none⟩)),(.int .i64 (who)),(.int .i64 (key))] T0 [an b (cs B) T] (RI (.int .i64 (po B who key)) [an b (cs B) T]):=by
 refine BD 71 Tryz.func43 rfl rfl rfl λw0 F hF=>sr λ_ J1=>PS ?_
 refine nx J1 (aa λ_ J2=>sr λ_ J3=>PS ?_);refine CE Mm (lH who) ID ?_;refine bh ?_ ?_<;>intro h14;have hm:0≤who∧who<5:=of_decide_eq_true h14;refine PS ?_;refine nx J3 (CN (qx J2 (sr λ_ J4=>XZ OX (ints ((#v[CellT.zero,CellT.zero,CellT.zero,CellT.zero,CellT.zero]).toList.flatMap CellT.flat)) λb7=>?_)));refine nx J4 (aa λ_ J5=>sr λ_ J6=>PS ?_);refine nx J6 (av ?_)
 refine bG (α:=(Nat)×(Vector CellT 5)) (λ⟨k,C⟩=>k≤5∧∀(j:Nat) (h:j<5),j<k→C[j]=da B j key) (λ⟨k,C⟩=>[(0,(.pointer (some ⟨b,off,none⟩))),(1,(.int .i64 (who))),(2,(.int .i64 (key))),(6,(.int .i64 0)),(7,(.pointer (some ⟨b7,0,none⟩))),(16,(.int .i64 (((k:Nat):Int))))]) (λ⟨k,C⟩=>[an b7 (ints (C.toList.flatMap CellT.flat)) 152,an b (cs B) T]) (λ⟨k,C⟩=>5-k) (0, #v[CellT.zero,CellT.zero,CellT.zero,CellT.zero,CellT.zero])
     ⟨aP _,λj _ h=>absurd h (by omega)⟩ SB
     (λ_ s=>ao [0,0] rfl s) (λ⟨k,C⟩ hinv=>?_)
 obtain⟨hk,hC⟩:=hinv;refine sr λ_ J7=>PS ?_
 refine aq ?_ ?_<;>intro h17;refine nx J7 (aa λ_ J8=>CY (qx J8 (aa λ_ J9=>av (sr λ_ J10=>P2 ?_))));refine nx J10 (ag (P4 ?_));refine CE Nr (rh b off T cs hA B ((k:Nat):Int) key) (SM [1]) ?_;refine IX (k*7) JJ gF ?_;refine bR (vs:=ints (da B ((k:Nat):Int) key).flat) (i:=1) (ab rfl) rfl rfl rfl rfl rfl (by rw[(bH (da B ((k:Nat):Int) key))];exact gF) (bB _) rfl rfl (by have h0:=(Kb C);have h1:=(bH (da B ((k:Nat):Int) key));omega) (wc bQ C (i:=k) 0 (by omega) (by omega) (by have h1:=(bH (da B ((k:Nat):Int) key));omega) (cr ((bH (C[k]'(by omega))).trans (bH (da B ((k:Nat):Int) key)).symm))) rfl (ax (ah (af J9 (ag (AD ?_)))));refine PS ?_;refine ax ?_
 exact aN ((k+1,(C.set k (da B ((k:Nat):Int) key) (by omega))):(Nat)×(Vector CellT 5)) ⟨by omega,λj h hj=>by
        rw[Vector.getElem_set];split
        · subst_vars;rfl
        · exact hC j h (by omega)⟩ (by show 5- (k+1)<5-k;omega)
   SB
   (λ_ s=>ao [1,0] rfl s)
 refine nx J7 (aa λ_ J11=>CN (bg (aC (aC (bD (af J5 (sr λ_ J12=>PS ?_)))))));refine nx J12 (aa λ_ J13=>sr λ_ J14=>P3 ?_);refine tp (bl (r:=off) rfl Om rfl tT rfl rfl) ?_;refine IX (off+who.toNat*174) HT bj ?_;refine tp (aL (vs:=ints (B.rows[who.toNat]'(by omega)).flat) rfl ez rfl bj rfl (RO 1) (am (B.rows[who.toNat]'(by omega))) (OK hA (j:=who.toNat*174) (by omega) (LB (xR _)) (OH B (who.toNat*174) (by omega) (by omega) (kT dD B.rows (i:=who.toNat) 0 (by omega) (by omega) (by decide) (bn (am (B.rows[who.toNat]'(by omega)))))))) ?_;refine PS ?_;have hbr:B.rows[who.toNat]'(by omega)=cC B who:=by rw[cC,dif_pos h14]
 rw[hbr];refine CR Pq (Cd (cC B who) who) ID λvR HR hR=>?_
 obtain⟨_,rfl,rfl⟩:=hR;revert vR;intro ul1;refine kj 0 rfl rfl (λhlul1 houl1=>tp (dW rfl kE rfl hlul1) ?_);refine PS ?_;refine nx J14 (av ?_)
 refine bG (α:=(Nat)×(Int)) (λ⟨i,r⟩=>i≤(gR (cC B who) who).length∧r=((gR (cC B who) who).take i).foldl (oY B key) 0) (λ⟨i,r⟩=>[(0,(.pointer (some ⟨b,off,none⟩))),(6,(.int .i64 0)),(7,(.pointer (some ⟨b7,0,none⟩))),(9,(.int .i64 (r))),(33,ul1),(34,(.int .i64 ((((gR (cC B who) who).length:Nat):Int)))),(35,(.int .i64 (((i:Nat):Int))))]) (λ⟨i,r⟩=>[own ul1 ((gR (cC B who) who).length) (ints (gR (cC B who) who)) 3 1,an b7 (ints (C.toList.flatMap CellT.flat)) 152,an b (cs B) T]) (λ⟨i,r⟩=>(gR (cC B who) who).length-i) (0,0)
     ⟨aP _,rfl⟩ SB
     (λ_ s=>ao [0,0,0] rfl s) (λ⟨i,r⟩ hinv=>?_)
 obtain⟨hi,hr⟩:=hinv;have hE: ∀(j:Nat) (h:j<5),C[j]=da B j key:=λj h=>hC j h (by omega)
 refine sr λ_ J15=>PS ?_
 refine aq ?_ ?_<;>intro h36;refine nx J15 (aa λ_ J16=>CY (qx J16 (aa λ_ J17=>av (sr λ_ J18=>kl 0 rfl rfl (by omega) (λga capa hva hcapa=>?_)))));obtain⟨q,hq,hq5⟩: ∃q:Nat,(gR (cC B who) who)[i]=((q:Nat):Int)∧q<5:=by have:=Eo (cC B who) who _ (eg (show i< (gR (cC B who) who).length by omega));exact⟨(gR (cC B who) who)[i].toNat,by omega,by omega⟩
 have hE2:C[q]=da B (gR (cC B who) who)[i] key:=by rw[hE q hq5,hq]
 refine tp (ca (r:=i) hva rfl kE aQ rfl rfl (by omega) (by omega) (by omega)) ?_;refine tp (de (v:=(.int .i64 (((q:Nat):Int)))) rfl Y3 rfl rfl (gO 0 rfl hva rfl) (by rw[←hq];simp[ints,show i< (gR (cC B who) who).length by omega])) ?_;refine PS ?_;refine nx J18 (aa λ_ J19=>D1 1 bo ?_);refine PD 0 ?_;refine PD 1 ?_;refine IY 2 (q*7) JJ gF ?_;refine ta 3 rfl (bl (r:=q*7) rfl nV rfl aQ rfl rfl) ?_;refine LX 4 Y3 (.int .i64 ((C[q]'(by omega)).inn)) ?_ (hc:=by exact pq bQ C (i:=q) 0 (by omega) (by omega) (by decide) (yI _ rfl));refine PD 5 ?_;refine IY 6 (q*7) JJ gF ?_;refine ta 7 rfl (bl (r:=q*7+1) rfl nV rfl aQ rfl rfl) ?_;refine LX 8 Y3 (.int .i64 ((C[q]'(by omega)).out)) ?_ (hc:=by exact pq bQ C (i:=q) 1 (by omega) (by omega) (by decide) (yH _ rfl));refine ta 9 rfl (jV (r:=(gX (((C[q]'(by omega)).inn)- ((C[q]'(by omega)).out)))) rfl rfl rfl rfl) ?_;refine ta 10 rfl (cG (r:=(gX (r+(gX (((C[q]'(by omega)).inn)- ((C[q]'(by omega)).out)))))) rfl rfl rfl rfl) ?_;refine PD 11 ?_;refine DN (af J19 (sr λ_ J20=>PS ?_));refine nx J20 (av ?_)
 refine bG (α:=(Nat)×(Int)) (λ⟨o,r3⟩=>o≤5∧r3=qf B key (gR (cC B who) who)[i] (gX (r+gX (C[q].inn-C[q].out))) o) (λ⟨o,r3⟩=>[(0,(.pointer (some ⟨b,off,none⟩))),(6,(.int .i64 0)),(7,(.pointer (some ⟨b7,0,none⟩))),(9,(.int .i64 (r3))),(11,(.int .i64 (((q:Nat):Int)))),(33,ul1),(34,(.int .i64 ((((gR (cC B who) who).length:Nat):Int)))),(35,(.int .i64 (((i:Nat):Int)))),(50,(.int .i64 (((o:Nat):Int))))]) (λ⟨o,r3⟩=>[own ul1 ((gR (cC B who) who).length) (ints (gR (cC B who) who)) 3 1,an b7 (ints (C.toList.flatMap CellT.flat)) 152,an b (cs B) T]) (λ⟨o,r3⟩=>5-o) (0,(gX (r+(gX (((C[q]'(by omega)).inn)- ((C[q]'(by omega)).out))))))
     ⟨aP _,rfl⟩ SB
     (λ_ s=>ao [0,0,0] rfl s) (λ⟨o,r3⟩ hinv=>?_)
 obtain⟨ho,hr3⟩:=hinv;refine sr λ_ J21=>PS ?_
 refine aq ?_ ?_<;>intro h51;refine nx J21 (aa λ_ J22=>CY (qx J22 (aa λ_ J23=>av (sr λ_ J24=>P2 ?_))));refine nx J24 (D1 1 bo ?_);refine PD 0 ?_;refine PD 1 ?_;refine PD 2 ?_;refine IY 3 (o*7) JJ gF ?_;refine ta 4 rfl (bl (r:=o*7+2) rfl nV rfl gK rfl rfl) ?_;refine IY 5 (o*7+2+q) mX aQ ?_;refine LX 6 Y3 (.int .i64 ((((C[o]'(by omega)).given)[q]'(by omega)))) ?_ (hc:=by exact pq bQ C (i:=o) (2+q) (by omega) (by omega) (by omega) (OE (C[o]'(by omega)) q (by omega) (by omega) (kG ((C[o]'(by omega)).given) (by omega))));refine PD 7 ?_;refine PD 8 ?_;refine IY 9 (q*7) JJ gF ?_;refine ta 10 rfl (bl (r:=q*7+2) rfl nV rfl gK rfl rfl) ?_;refine IY 11 (q*7+2+o) mX aQ ?_;refine LX 12 Y3 (.int .i64 ((((C[q]'(by omega)).given)[o]'(by omega)))) ?_ (hc:=by exact pq bQ C (i:=q) (2+o) (by omega) (by omega) (by omega) (OE (C[q]'(by omega)) o (by omega) (by omega) (kG ((C[q]'(by omega)).given) (by omega))));refine ta 13 rfl (jV (r:=(gX ((((C[o]'(by omega)).given)[q]'(by omega))- (((C[q]'(by omega)).given)[o]'(by omega))))) rfl rfl rfl rfl) ?_;refine ta 14 rfl (cG (r:=(gX (r3+(gX ((((C[o]'(by omega)).given)[q]'(by omega))- (((C[q]'(by omega)).given)[o]'(by omega))))))) rfl rfl rfl rfl) ?_;refine PD 15 ?_;refine DN (ah (af J23 (ag (AD ?_))));refine PS ?_;refine ax ?_
 exact aN ((o+1,(gX (r3+(gX ((((C[o]'(by omega)).given)[q]'(by omega))- (((C[q]'(by omega)).given)[o]'(by omega))))))):(Nat)×(Int)) ⟨by omega,by rw[x9,←hr3,xn _ (by omega),hq,xn _ hq5,←hE o (by omega),←hE q hq5]⟩ (by show 5- (o+1)<5-o;omega)
   SB
   (λ_ s=>ao [0,0,0] rfl s)
 refine nx J21 (aa λ_ J25=>CN (bg (aC (aC (bD (ah (af J17 (ag (AD ?_)))))))));refine PS ?_;refine ax ?_
 exact aN ((i+1,r3):(Nat)×(Int)) ⟨by omega,by
          have h5:o=5:=by omega
          rw[cx (by omega),fb,←hr];show r3=oY B key r _
          rw[hr3,h5,oY,←hE2]⟩ (by show(gR (cC B who) who).length- (i+1)< (gR (cC B who) who).length-i;omega)
   SB
   (λ_ s=>ao [0,0,0] rfl s)
 refine nx J15 (aa λ_ J26=>CN (bg (aC (aC (bD (af J13 (sr λ_ J27=>P2 ?_)))))));refine nx J27 (ak (WK [2] (aw rfl rfl ?_)));obtain rfl:i=(gR (cC B who) who).length:=by omega
 exact⟨by rw[po,if_pos h14,hr,ko],rfl⟩;refine PS ?_;refine nx J3 (CY (sr λ_ J28=>PS ?_));refine nx J28 (ak (ae (WK [0] (aw rfl rfl ?_))));exact⟨by rw[po,if_neg (by simp[h14])],rfl⟩
theorem nN(b off T:Nat)(cs:MirT→List Value)(hA:Arnd cs MirT.cells off)(M:MirT)(who:Int):
 DT 75 #[(.pointer (some ⟨b,off,none⟩)),(.int .i64 (who))] T0 [an b (cs M) T] (RI (.agg (ints (eI M who).flat).toArray) [an b (cs M) T]):=by
 refine BD 15 Tryz.func75 rfl rfl rfl λw0 F hF=>sr λ_ J1=>XZ vS (ints RowT.zero.flat) λb4=>?_
 refine nx J1 (aa λ_ J2=>sr λ_ J3=>PS ?_);refine CE FW (iP who) ID ?_;refine bh ?_ ?_<;>intro h6;have hm:0≤who∧who<5:=of_decide_eq_true h6;refine PS ?_;refine nx J3 (CN (qx J2 (sr λ_ J4=>P3 ?_)));refine tp (bl (r:=off) rfl MO rfl tT rfl rfl) ?_;refine IX (off+who.toNat*174) HT bj ?_;refine tp (aL (vs:=ints (M.rows[who.toNat]'(by omega)).flat) rfl ez rfl bj rfl (RO 1) (am (M.rows[who.toNat]'(by omega))) (OK hA (j:=who.toNat*174) (by omega) (LB (qF _)) (MirT.sub_rows M (who.toNat*174) (by omega) (by omega) (kT dD M.rows (i:=who.toNat) 0 (by omega) (by omega) (by decide) (bn (am (M.rows[who.toNat]'(by omega)))))))) ?_;refine SW 0 bj am ?_;refine nx J4 (ak (RC 0 [1] ez bj (am _) ?_));exact⟨by rw[eI,dif_pos h6],rfl⟩;refine PS ?_;refine nx J3 (CY (sr λ_ J5=>BV ((ints RowT.zero.flat).toArray) ?_));refine SW 0 bj am ?_;refine nx J5 (ak (ae (RC 0 [1] ez bj (am _) ?_)));exact⟨by rw[eI,dif_neg (by simp[h6])],rfl⟩
theorem qj(b off T:Nat)(cs:MirT→List Value)(hA:Arnd cs MirT.cells off)(M:MirT)(who:Int):
 DT 76 #[(.pointer (some ⟨b,off,none⟩)),(.int .i64 (who))] T0 [an b (cs M) T] (RI (.bool (gL M who)) [an b (cs M) T]):=by
 refine BD 15 Tryz.func76 rfl rfl rfl λw0 F hF=>sr λ_ J1=>PS ?_
 refine nx J1 (sr λ_ J2=>PS ?_);refine CE FW (iP who) ID ?_;refine bh ?_ ?_<;>intro h6;have hm:0≤who∧who<5:=of_decide_eq_true h6;refine P4 ?_;refine tq (bl (r:=off+870) rfl MO rfl Md rfl rfl) ?_;refine IX (off+870+who.toNat) Tryz.underlying83 lm ?_;refine LT 0 Y4 (.bool ((M.sealed[who.toNat]'(by omega)))) ?_ (hc:=by exact Arnd.at hA (j:=870+who.toNat) (by omega) (LB (qF _)) (MirT.pt_sealed M (who.toNat) (by omega) (by omega) (Lk M.sealed (by omega))));refine P2 ?_;refine nx J2 (ak (WK [0] (aw rfl rfl ?_)));exact⟨by simp[gL, *],rfl⟩;refine PS ?_
 iterate 6 refine UF ?_
 refine P2 ?_;refine nx J2 (ak (WK [0] (aw rfl rfl ?_)));exact⟨by simp[gL, *],rfl⟩
theorem q6(b off T:Nat)(cs:MirT→List Value)(hA:Arnd cs MirT.cells off)(M:MirT)(who:Int)(x:RowT)(hx:WF x.flat):
 DT 124 #[(.pointer (some ⟨b,off,none⟩)),(.int .i64 (who)),(.agg (ints x.flat).toArray)] T0 [an b (cs M) T] (RI (.bool (lW M who x)) [an b (cs M) T]):=by
 refine BD 34 Tryz.func124 rfl rfl rfl λw0 F hF=>sr λ_ J1=>XY (ints x.flat) λb5=>?_
 refine PS ?_;refine nx J1 (aa λ_ J2=>D2 1 0 bo ?_);refine PD 0 ?_;refine AL 1 ?_;refine CE FW (iP who) ID ?_;refine bh ?_ ?_<;>intro h8;have hm:0≤who∧who<5:=of_decide_eq_true h8;refine EN (PD 2 ?_);refine PD 3 ?_;refine PD 4 ?_;refine PD 5 ?_;refine tb 6 rfl (bl (r:=off+870) rfl MO rfl Md rfl rfl) ?_;refine IY 7 (off+870+who.toNat) Tryz.underlying83 lm ?_;refine LX 8 Y4 (.bool ((M.sealed[who.toNat]'(by omega)))) ?_ (hc:=by exact Arnd.at hA (j:=870+who.toNat) (by omega) (LB (qF _)) (MirT.pt_sealed M (who.toNat) (by omega) (by omega) (Lk M.sealed (by omega))));refine rZ ?_ ?_<;>intro h15;refine PD 9 ?_;refine PD 10 ?_;refine PD 11 ?_;refine NT 12 ?_;refine NT 13 ?_;refine PD 14 ?_;refine PD 15 ?_;refine NT 16 ?_;refine NT 17 ?_;refine NT 18 ?_;refine NT 19 ?_;refine NT 20 ?_;refine NT 21 ?_;refine NT 22 ?_;refine NT 23 ?_;refine NT 24 ?_;refine NT 25 ?_;refine PD 26 ?_;refine PD 27 ?_;refine DN (af J2 (ak (WK [1] (aw rfl rfl ?_))));exact⟨by simp[lW,gL,eI, *],rfl⟩;refine PD 9 ?_;refine PD 10 ?_;refine PD 11 ?_;refine LY 12 ez bj am ?_;refine AL 13 ?_;refine CE Cx (kd x hx) ID ?_;refine bh ?_ ?_<;>intro h20;refine EN (PD 14 ?_);refine PD 15 ?_;refine FD 16 0 ez aQ ?_;refine LR 17 Y3 (cJ x rfl) ?_;refine PD 18 ?_;refine PD 19 ?_;refine PD 20 ?_;refine tb 21 rfl (bl (r:=off) rfl MO rfl tT rfl rfl) ?_;refine IY 22 (off+who.toNat*174) HT bj ?_;refine tb 23 rfl (bl (r:=off+who.toNat*174) rfl ez rfl aQ rfl rfl) ?_
 refine LX 24 Y3 (.int .i64 ((M.rows[who.toNat]'(by omega)).version)) ?_ (hc:=by exact Arnd.at hA (j:=who.toNat*174) (by omega) (LB (qF _)) (MirT.pt_rows M (who.toNat*174) (by omega) (by omega) (pq dD M.rows (i:=who.toNat) 0 (by omega) (by omega) (by decide) (cJ _ rfl))));refine PD 25 ?_;refine PD 26 ?_;refine PD 27 ?_;refine DN (af J2 (ak (WK [1] (aw rfl rfl ?_))));exact⟨by simp[lW,gL,eI, *],rfl⟩;refine EN (PD 14 ?_);refine PD 15 ?_;refine NT 16 ?_;refine NT 17 ?_;refine NT 18 ?_;refine NT 19 ?_;refine NT 20 ?_;refine NT 21 ?_;refine NT 22 ?_;refine NT 23 ?_;refine NT 24 ?_;refine NT 25 ?_;refine PD 26 ?_;refine PD 27 ?_;refine DN (af J2 (ak (WK [1] (aw rfl rfl ?_))));exact⟨by simp[lW,gL,eI, *],rfl⟩;refine EN (PD 2 ?_);refine NT 3 ?_;refine NT 4 ?_;refine NT 5 ?_;refine NT 6 ?_;refine NT 7 ?_;refine NT 8 ?_;refine NT 9 ?_;refine PD 10 ?_;refine PD 11 ?_;refine NT 12 ?_;refine NT 13 ?_;refine PD 14 ?_;refine PD 15 ?_;refine NT 16 ?_;refine NT 17 ?_;refine NT 18 ?_;refine NT 19 ?_;refine NT 20 ?_;refine NT 21 ?_;refine NT 22 ?_;refine NT 23 ?_;refine NT 24 ?_;refine NT 25 ?_;refine PD 26 ?_;refine PD 27 ?_;refine DN (af J2 (ak (WK [1] (aw rfl rfl ?_))));exact⟨by simp[lW,gL,eI, *],rfl⟩
theorem sX(b off T:Nat)(cs:MirT→List Value)(hA:Arnd cs MirT.cells off)(M:MirT)(who:Int)(x:RowT)(hx:WF x.flat):
 DT 86 #[(.pointer (some ⟨b,off,none⟩)),(.int .i64 (who)),(.agg (ints x.flat).toArray)] T0 [an b (cs M) T] (RI (.bool (mJ M who x).2) [an b (cs (mJ M who x).1) T]):=by
 refine BD 18 Tryz.func86 rfl rfl rfl λw0 F hF=>sr λ_ J1=>XY (ints x.flat) λb5=>?_
 refine PS ?_;refine nx J1 (aa λ_ J2=>sr λ_ J3=>P2 ?_);refine LW 0 ez bj am ?_;refine CE Lw (q6 b off T cs hA M who x hx) (SM [1]) ?_;refine bh ?_ ?_<;>intro h10;have hm0:cw who=true:=by have:=h10;simp only[lW,au]at this;exact this.1.1.1
 have hm:0≤who∧who<5:=of_decide_eq_true hm0;refine PS ?_;refine nx J3 (CN (qx J2 (aa λ_ J4=>D1 1 bo ?_)));refine PD 0 ?_;refine PD 1 ?_;refine LY 2 ez bj am ?_;refine PD 3 ?_;refine ta 4 rfl (bl (r:=off) rfl MO rfl tT rfl rfl) ?_;refine IY 5 (off+who.toNat*174) HT bj ?_;refine AL 6 ?_;refine bR (vs:=ints x.flat) (i:=0) (ab rfl) rfl rfl rfl rfl rfl (by rw[(am x)];exact bj) (bB _) rfl rfl (by have h0:=(qF M);have h2:=Arnd.le hA M;have h1:=(am x);omega) (Arnd.wr hA (x:=M) (x':=(MirT.mk (M.rows.set who.toNat x (by omega)) M.sealed)) (j:=who.toNat*174) (by omega) (LC (qF _) (am _)) (MirT.wr_rows_ M (who.toNat*174) (by omega) (by have h1:=(am x);omega) (wc dD M.rows (i:=who.toNat) 0 (by omega) (by omega) (by have h1:=(am x);omega) (cr ((am (M.rows[who.toNat]'(by omega))).trans (am x).symm))))) rfl (ax (E1 1 (DN (af J4 (sr λ_ J5=>PS ?_)))));refine nx J5 (ak (WK [0] (aw rfl rfl ?_)));have e:mJ M who x=(AQ M who x,true):=by rw[mJ,if_pos h10]
 exact⟨by rw[e],by rw[e,AQ,dif_pos hm0];rfl⟩;refine PS ?_;refine nx J3 (CY (sr λ_ J6=>PS ?_));refine nx J6 (ak (ae (WK [0] (aw rfl rfl ?_))));have e:mJ M who x=(M,false):=by rw[mJ,if_neg (by simp[h10])]
 exact⟨by rw[e],by rw[e];rfl⟩
theorem sW(b off T:Nat)(cs:MirT→List Value)(hA:Arnd cs MirT.cells off)(M:MirT)(who:Int):
 DT 87 #[(.pointer (some ⟨b,off,none⟩)),(.int .i64 (who))] T0 [an b (cs M) T] (RI (.tuple #[.agg (ints (eI M who).flat).toArray, .bool (cw who)]) [an b (cs (oy M who)) T]):=by
 refine Leg.Does.body (vs:=[(.pointer (some ⟨b,off,none⟩)),(.int .i64 (who))]) (n:=21) Tryz.func87 rfl rfl rfl (λw0 F hF=>?_);refine sr λ_ J1=>?_
 refine qC (ab rfl) rfl rfl rfl vS (λb4=>?_);change TL _ _ _ _ _ _ _ _ _ [an b4 (ints RowT.zero.flat) 51,an b (cs M) T];refine pN ?_;refine nx J1 ?_;clear J1;refine aa λ_ J2=>?_
 refine sr λ_ J3=>?_
 refine mv ?_;refine li (ab rfl) rfl rfl rfl FW rfl (iP who) (λ_ s=>s) (λ_ _ _=>trivial) (λvR HR hR=>?_);obtain⟨rfl,rfl⟩:=hR;refine bh (λh7=>?_) (λh7=>?_);have hm:0≤who∧who<5:=of_decide_eq_true h7;refine tp (jm (r:=false) rfl rfl rfl) ?_;refine nx J3 ?_;clear J3;refine Gk rfl ?_;refine aT ?_;refine af J2 ?_;clear J2;refine sr λ_ J4=>?_
 refine mv ?_;refine mv ?_;refine tp (gJ rfl rfl) ?_;refine tp (bl (r:=off+870) rfl MO rfl Md rfl rfl) ?_;refine tp (nX (r:=off+870+who.toNat) rfl Tryz.underlying83 lm rfl rfl (by omega) (by omega) (by omega)) ?_;refine cd (i:=1) (ab rfl) rfl rfl rfl rfl rfl lm rfl rfl (by have h0:=(qF M);have h2:=Arnd.le hA M;omega) (Arnd.set hA (x:=M) (x':=(MirT.mk M.rows (M.sealed.set who.toNat true (by omega)))) (j:=870+who.toNat) (by omega) (by have h0:=(qF M);omega) (MirT.st_sealed M (who.toNat) (by omega) (by omega) (M8 M.sealed (by omega) _))) rfl ?_;refine nx J4 ?_;clear J4;refine sr λ_ J5=>?_
 refine mv ?_;refine mv ?_;refine tp (gJ rfl rfl) ?_;refine tp (bl (r:=off) rfl MO rfl tT rfl rfl) ?_;refine tp (nX (r:=off+who.toNat*174) rfl HT bj rfl rfl (by omega) (by omega) (by omega)) ?_;refine tp (aL (vs:=ints (M.rows[who.toNat]'(by omega)).flat) rfl ez rfl bj rfl (fu 1 rfl rfl) (am (M.rows[who.toNat]'(by omega))) (OK hA (j:=who.toNat*174) (by omega) (by have h0:=(qF (MirT.mk M.rows (M.sealed.set who.toNat true (by omega))));omega) (MirT.sub_rows (MirT.mk M.rows (M.sealed.set who.toNat true (by omega))) (who.toNat*174) (by omega) (by omega) (kT dD M.rows (i:=who.toNat) 0 (by omega) (by omega) (by decide) (bn (am (M.rows[who.toNat]'(by omega)))))))) ?_;refine bR (vs:=ints (M.rows[who.toNat]'(by omega)).flat) (i:=0) (ab rfl) rfl rfl rfl rfl rfl (by rw[(am (M.rows[who.toNat]'(by omega)))];exact bj) (bB _) rfl rfl (by have h0:=(am RowT.zero);have h1:=(am (M.rows[who.toNat]'(by omega)));omega) (cr ((am RowT.zero).trans (am (M.rows[who.toNat]'(by omega))).symm)) rfl ?_;refine pN ?_;refine nx J5 ?_;clear J5;refine ak ?_;refine l5 (H':=[an b (cs (MirT.mk M.rows (M.sealed.set who.toNat true (by omega)))) T]) rfl rfl rfl ez rfl bj (fu 0 rfl rfl) (am (M.rows[who.toNat]'(by omega))) (λ_ s=>ao [1] rfl s) ?_;exact⟨by simp[eI, *],by simp[oy, *]⟩;refine tp (jm (r:=true) rfl rfl rfl) ?_;refine nx J3 ?_;clear J3;refine nE rfl ?_;refine sr λ_ J6=>?_
 refine tp (kn (cells:=(ints RowT.zero.flat).toArray) rfl rfl (by as_aux_lemma=>kernel_rfl)) ?_;refine bR (vs:=ints RowT.zero.flat) (i:=0) (ab rfl) rfl rfl rfl rfl rfl (by rw[(am RowT.zero)];exact bj) (bB _) rfl rfl (by have h0:=(am RowT.zero);have h1:=(am RowT.zero);omega) (cr ((am RowT.zero).trans (am RowT.zero).symm)) rfl ?_;refine pN ?_;refine nx J6 ?_;clear J6;refine ak ?_;refine ae ?_;clear J2;refine l5 (H':=[an b (cs M) T]) rfl rfl rfl ez rfl bj (fu 0 rfl rfl) (am RowT.zero) (λ_ s=>ao [1] rfl s) ?_;exact⟨by simp[eI, *],by simp[oy, *]⟩
end Go.Proofs.YtmcjhkbcmmddgaaGreat
end

section
namespace Api
open Go Leg Codec
def eA(k:Int):Bool:=decide (k=0∨k=2∨k=9)
def fe(k:Int):Bool:=decide (k=3∨k=6)
def cH:Ps (MsgT×Bool):=pb (fF 10) λk=>
 if eA k then pb (fF 5) λw=>pb vj λx=>pr (⟨k,w,x,0,0, .zero, .zero, .zero, .zero⟩,io x)
 else if k=1 then pb nC λn=>pr (⟨k,0, .zero,n,0, .zero, .zero, .zero, .zero⟩,true)
 else if fe k then pb nC λn=>pb kA λb=>pr (⟨k,0, .zero,0,n,b, .zero, .zero, .zero⟩,true)
 else if k=4 then pb nC λn=>pb kA λb=>pb kA λd=>pb lL λc=>pr (⟨k,0, .zero,0,n,b,d,c, .zero⟩,true)
 else if k=5 then pb nC λn=>pb kA λb=>pb lL λc=>pr (⟨k,0, .zero,0,n,b, .zero,c, .zero⟩,true)
 else if k=7 then pb m4 λv=>pr (⟨k,0, .zero,0,0, .zero, .zero, .zero,v⟩,jv v)
 else if k=8 then pb (fF 5) λw=>pb m4 λv=>pr (⟨k,w, .zero,0,0, .zero, .zero, .zero,v⟩,jv v)
 else pr (⟨k,0, .zero,0,0, .zero, .zero, .zero, .zero⟩,true)
def dz:Ps (RecT×Bool):=pb (fF 6) λk=>
 if k=0 then pb vj λx=>pr (⟨k,0,x,0, .zero, .zero, .zero⟩,io x)
 else if k=1 then pb (fF 5) λw=>pb vj λx=>pr (⟨k,w,x,0, .zero, .zero, .zero⟩,io x)
 else if k=2 then pb (fF 5) λw=>pr (⟨k,w, .zero,0, .zero, .zero, .zero⟩,true)
 else if k=3 then pb nC λn=>pb kA λb=>pr (⟨k,0, .zero,n,b, .zero, .zero⟩,true)
 else if k=4 then pb nC λn=>pb kA λb=>pb lL λc=>pr (⟨k,0, .zero,n,b,c, .zero⟩,true)
 else if k=5 then pb m4 λv=>pr (⟨k,0, .zero,0, .zero, .zero,v⟩,jv v)
 else pr (⟨k,0, .zero,0, .zero, .zero, .zero⟩,true)
def eB(bs:List UInt8):MsgT×Int:=match cH bs with
 |some ((m,true),[])=>(m,0)
 |_=>(.zero,1)
def dC(bs:List UInt8):RecT×Int:=match dz bs with
 |some ((m,true),[])=>(m,0)
 |_=>(.zero,1)
def bS(m:MsgT):List UInt8:=
 if eA m.kind then bb [m.kind,m.whose]++iS m.row
 else if m.kind=1 then bb [m.kind,m.version]
 else if fe m.kind then bb [m.kind,m.epoch]++bb m.ballot.flat
 else if m.kind=4 then bb [m.kind,m.epoch]++bb m.ballot.flat++bb m.had.flat++bb m.change.flat
 else if m.kind=5 then bb [m.kind,m.epoch]++bb m.ballot.flat++bb m.change.flat
 else if m.kind=7 then bb [m.kind]++bb m.view.flat
 else if m.kind=8 then bb [m.kind,m.whose]++bb m.view.flat
 else []
def dZ(m:RecT):List UInt8:=
 if m.kind=0 then bb [m.kind]++iS m.row
 else if m.kind=1 then bb [m.kind,m.whose]++iS m.row
 else if m.kind=2 then bb [m.kind,m.whose]
 else if m.kind=3 then bb [m.kind,m.epoch]++bb m.ballot.flat
 else if m.kind=4 then bb [m.kind,m.epoch]++bb m.ballot.flat++bb m.change.flat
 else if m.kind=5 then bb [m.kind]++bb m.view.flat
 else []
theorem sB{v:ViewT}{bs r:List UInt8}(h:m4 bs=some (v,r)):Rng v:=λi hi=>by
 have:=(oi h).1.2.2 i hi;exact⟨this.1,by omega⟩
theorem As{x:RowT}{bs r:List UInt8}(h:vj bs=some (x,r)):WF x.flat:=(sN h).1.wf
def Nm(n:Int):Prop:=0≤n∧n<9223372036854775808
def OkB(b:BallotT):Prop:=Nm b.round∧0≤b.who∧b.who<5
def OkC(c:ChangeT):Prop:=(0≤c.kind∧c.kind<2)∧(0≤c.who∧c.who<5)∧(0≤c.heir∧c.heir<5)
def Qu(v:ViewT):Prop:=Nm v.epoch∧(0≤v.members∧v.members<32)∧∀(i:Nat) (h:i<5),0≤v.heirs[i]∧v.heirs[i]<6
def JU(m:MsgT):Bool:=if eA m.kind then io m.row else if m.kind=7∨m.kind=8 then jv m.view else true
theorem MD(i:Nat)(hi:i<5):RowT.zero.heir[i]=0:=by match i,hi with|0,_|1,_|2,_|3,_|4,_=>rfl
theorem Jw(k:Nat)(hk:k<4):RowT.zero.cells[k]=CellT.zero:=by match k,hk with|0,_|1,_|2,_|3,_=>rfl
theorem EQ(i:Nat)(hi:i<5):RowT.zero.left[i]=RowT.zero.cells:=by match i,hi with|0,_|1,_|2,_|3,_|4,_=>rfl
theorem tame_rzero:TameR RowT.zero:=⟨⟨by decide,by decide⟩,λk hk=>by rw[Jw k hk];exact tS,λi hi=>by rw[MD i hi];decide,λi k hi hk=>by rw[show RowT.zero.left[i][k]=RowT.zero.cells[k]from by rw[EQ i hi],Jw k hk];exact tS,λi hi _=>by rw[EQ i hi,EQ 0 (by decide)]⟩
theorem xk{k:Int}(h: ¬eA k=true)(h2: ¬fe k=true):k≠0∧k≠2∧k≠9∧k≠3∧k≠6:=by
 have n0: ¬(k=0∨k=2∨k=9):=λe=>h (decide_eq_true e)
 have n2: ¬(k=3∨k=6):=λe=>h2 (decide_eq_true e)
 omega
theorem I7{m:MsgT}{g:Bool}{bs r:List UInt8}(h:cH bs=some ((m,g),r)):bs=bS m++r∧JU m=g∧(0≤m.kind∧m.kind<10)∧(0≤m.whose∧m.whose<5)∧TameR m.row:=by
 obtain⟨k,r1,h1,h2⟩:=ba h;clear h;obtain⟨k1,rfl⟩:=cR h1;have tz:=tame_rzero;have kz:(0:Int)≤0∧(0:Int)<5:=by omega
 by_cases c0:eA k=true
 · simp only[if_pos c0]at h2
   obtain⟨w,r2,h3,h4⟩:=ba h2;obtain⟨k3,rfl⟩:=cR h3;obtain⟨x,r3,h5,h6⟩:=ba h4;obtain⟨k5,rfl⟩:=sN h5;obtain⟨e,rfl⟩:=fO h6;injection e with e1 e2;subst e1;subst e2
   exact⟨by simp[bS,c0,bb],by simp[JU,c0],⟨k1.1,k1.2.1⟩,⟨k3.1,k3.2.1⟩,k5⟩
 simp only[if_neg c0]at h2;have fin: ∀{m:MsgT} {bs':List UInt8},m.kind=k→jQ k++bs'=bS m++r→JU m=g→(0≤m.whose∧m.whose<5)→TameR m.row→jQ k++bs'=bS m++r∧JU m=g∧(0≤m.kind∧m.kind<10)∧(0≤m.whose∧m.whose<5)∧TameR m.row:=λe a b c d=>⟨a,b,by rw[e];exact⟨k1.1,k1.2.1⟩,c,d⟩
 by_cases c1:k=1
 · simp only[if_pos c1]at h2
   subst c1;obtain⟨n,r2,h3,h4⟩:=ba h2;obtain⟨_,_,rfl⟩:=fj h3;obtain⟨e,rfl⟩:=fO h4;injection e with e1 e2;subst e1;subst e2
   exact fin rfl (by simp[bS,eA,fe,bb]) (by simp[JU,eA]) kz tz
 simp only[if_neg c1]at h2
 by_cases c2:fe k=true
 · simp only[if_pos c2]at h2
   obtain⟨n,r2,h3,h4⟩:=ba h2;obtain⟨_,_,rfl⟩:=fj h3;obtain⟨b,r3,h5,h6⟩:=ba h4;obtain⟨_,rfl⟩:=jH h5;obtain⟨e,rfl⟩:=fO h6;injection e with e1 e2;subst e1;subst e2
   have:=of_decide_eq_true c2;exact fin rfl (by simp[bS,c0,c1,c2,bb]) (by simp[JU,c0];omega) kz tz
 simp only[if_neg c2]at h2
 by_cases c3:k=4
 · simp only[if_pos c3]at h2
   subst c3;obtain⟨n,r2,h3,h4⟩:=ba h2;obtain⟨_,_,rfl⟩:=fj h3;obtain⟨b,r3,h5,h6⟩:=ba h4;obtain⟨_,rfl⟩:=jH h5;obtain⟨d,r4,h7,h8⟩:=ba h6;obtain⟨_,rfl⟩:=jH h7;obtain⟨c,r5,h9,h10⟩:=ba h8;obtain⟨_,rfl⟩:=nT h9;obtain⟨e,rfl⟩:=fO h10;injection e with e1 e2;subst e1;subst e2
   exact fin rfl (by simp[bS,eA,fe,bb]) (by simp[JU,eA]) kz tz
 simp only[if_neg c3]at h2
 by_cases c4:k=5
 · simp only[if_pos c4]at h2
   subst c4;obtain⟨n,r2,h3,h4⟩:=ba h2;obtain⟨_,_,rfl⟩:=fj h3;obtain⟨b,r3,h5,h6⟩:=ba h4;obtain⟨_,rfl⟩:=jH h5;obtain⟨c,r5,h9,h10⟩:=ba h6;obtain⟨_,rfl⟩:=nT h9;obtain⟨e,rfl⟩:=fO h10;injection e with e1 e2;subst e1;subst e2
   exact fin rfl (by simp[bS,eA,fe,bb]) (by simp[JU,eA]) kz tz
 simp only[if_neg c4]at h2
 by_cases c5:k=7
 · simp only[if_pos c5]at h2
   subst c5;obtain⟨v,r3,h5,h6⟩:=ba h2;obtain⟨_,rfl⟩:=oi h5;obtain⟨e,rfl⟩:=fO h6;injection e with e1 e2;subst e1;subst e2
   exact fin rfl (by simp[bS,eA,fe,bb]) (by simp[JU,eA]) kz tz
 simp only[if_neg c5]at h2;have c6:k=8:=by have:=xk c0 c2;omega
 simp only[if_pos c6]at h2;subst c6;obtain⟨w,r2,h3,h4⟩:=ba h2;obtain⟨k3,rfl⟩:=cR h3;obtain⟨v,r3,h5,h6⟩:=ba h4;obtain⟨_,rfl⟩:=oi h5;obtain⟨e,rfl⟩:=fO h6;injection e with e1 e2;subst e1;subst e2
 exact fin rfl (by simp[bS,eA,fe,bb]) (by simp[JU,eA]) ⟨k3.1,k3.2.1⟩ tz
def EC(m:RecT):Bool:=if m.kind=0∨m.kind=1 then io m.row else if m.kind=5 then jv m.view else true
theorem Cj{m:RecT}{g:Bool}{bs r:List UInt8}(h:dz bs=some ((m,g),r)):bs=dZ m++r∧EC m=g∧(0≤m.kind∧m.kind<6)∧(0≤m.whose∧m.whose<5)∧TameR m.row:=by
 obtain⟨k,r1,h1,h2⟩:=ba h;clear h;obtain⟨k1,rfl⟩:=cR h1;have tz:=tame_rzero;have kz:(0:Int)≤0∧(0:Int)<5:=by omega
 by_cases c0:k=0
 · simp only[if_pos c0]at h2
   subst c0;obtain⟨x,r3,h5,h6⟩:=ba h2;obtain⟨k5,rfl⟩:=sN h5;obtain⟨e,rfl⟩:=fO h6;injection e with e1 e2;subst e1;subst e2
   exact⟨by simp[dZ,bb],by simp[EC],⟨k1.1,k1.2.1⟩,kz,k5⟩
 simp only[if_neg c0]at h2
 by_cases c1:k=1
 · simp only[if_pos c1]at h2
   subst c1;obtain⟨w,r2,h3,h4⟩:=ba h2;obtain⟨k3,rfl⟩:=cR h3;obtain⟨x,r3,h5,h6⟩:=ba h4;obtain⟨k5,rfl⟩:=sN h5;obtain⟨e,rfl⟩:=fO h6;injection e with e1 e2;subst e1;subst e2
   exact⟨by simp[dZ,bb],by simp[EC],⟨k1.1,k1.2.1⟩,⟨k3.1,k3.2.1⟩,k5⟩
 simp only[if_neg c1]at h2
 by_cases c2:k=2
 · simp only[if_pos c2]at h2
   subst c2;obtain⟨w,r2,h3,h4⟩:=ba h2;obtain⟨k3,rfl⟩:=cR h3;obtain⟨e,rfl⟩:=fO h4;injection e with e1 e2;subst e1;subst e2
   exact⟨by simp[dZ,bb],by simp[EC],⟨k1.1,k1.2.1⟩,⟨k3.1,k3.2.1⟩,tz⟩
 simp only[if_neg c2]at h2
 by_cases c3:k=3
 · simp only[if_pos c3]at h2
   subst c3;obtain⟨n,r2,h3,h4⟩:=ba h2;obtain⟨_,_,rfl⟩:=fj h3;obtain⟨b,r3,h5,h6⟩:=ba h4;obtain⟨_,rfl⟩:=jH h5;obtain⟨e,rfl⟩:=fO h6;injection e with e1 e2;subst e1;subst e2
   exact⟨by simp[dZ,bb],by simp[EC],⟨k1.1,k1.2.1⟩,kz,tz⟩
 simp only[if_neg c3]at h2
 by_cases c4:k=4
 · simp only[if_pos c4]at h2
   subst c4;obtain⟨n,r2,h3,h4⟩:=ba h2;obtain⟨_,_,rfl⟩:=fj h3;obtain⟨b,r3,h5,h6⟩:=ba h4;obtain⟨_,rfl⟩:=jH h5;obtain⟨c,r5,h9,h10⟩:=ba h6;obtain⟨_,rfl⟩:=nT h9;obtain⟨e,rfl⟩:=fO h10;injection e with e1 e2;subst e1;subst e2
   exact⟨by simp[dZ,bb],by simp[EC],⟨k1.1,k1.2.1⟩,kz,tz⟩
 simp only[if_neg c4]at h2;have c5:k=5:=by omega
 simp only[if_pos c5]at h2;subst c5;obtain⟨v,r3,h5,h6⟩:=ba h2;obtain⟨_,rfl⟩:=oi h5;obtain⟨e,rfl⟩:=fO h6;injection e with e1 e2;subst e1;subst e2
 exact⟨by simp[dZ,bb],by simp[EC],⟨k1.1,k1.2.1⟩,kz,tz⟩
theorem EU{c:ChangeT}{i:Nat}{h:Int}(hh:0≤h∧h≤5)(hc:0≤c.heir∧c.heir<5):0≤nj c i h∧nj c i h≤5:=by
 unfold nj;split<;>omega
theorem xi(v:ViewT)(c:ChangeT)(i:Nat)(h:i<5):(lE v c)[i]=nj c i v.heirs[i]:=by simp[lE]
theorem Rng.zeros{v:ViewT}(h:v.heirs= #v[0,0,0,0,0]):Rng v:=λi hi=>by
 have:v.heirs[i]=0:=by
  rw[show v.heirs[i]=(#v[0,0,0,0,0]:Vector Int 5)[i]from by rw[h]]
  match i,hi with|0,_|1,_|2,_|3,_|4,_=>rfl
 omega
theorem Rng.zero:Rng ViewT.zero:=Rng.zeros rfl
abbrev Oq:= @Rng.zero
theorem Rng.next{v:ViewT}(h:Rng v)(c:ChangeT):Rng (cm v c).1:=by
 unfold cm;split
 · exact Oq
 rename_i h1
 have hm:0≤c.heir∧c.heir<5:=by
  simp only[di,Bool.not_eq_true',not_or,jJ]at h1;exact of_decide_eq_true h1.2
 split
 · split
   · exact Oq
   · exact h
 · split
   · split
     · exact Oq
     · exact λi hi=>by show 0≤(lE v c)[i]∧(lE v c)[i]≤5;rw[xi v c i hi];exact EU (h i hi) hm
   · exact Oq
theorem Rng.first:Rng firstV:=Rng.zeros rfl
def yS(v:ViewT)(c:ChangeT):ViewT:=if(cm v c).2=0 then(cm v c).1 else v
theorem FS: ∀(m:Fin 32) (w u:Fin 5),j7 (gH .i64 ((m.val:Nat):Int) (2^w.val)) ((u.val:Nat):Int)=(j7 ((m.val:Nat):Int) ((u.val:Nat):Int)||decide (u=w))∧0≤gH .i64 ((m.val:Nat):Int) (2^w.val)∧gH .i64 ((m.val:Nat):Int) (2^w.val)<32:=by decide+kernel
theorem DD: ∀(m:Fin 32) (w u:Fin 5),j7 (jk .i64 ((m.val:Nat):Int) (2^w.val)) ((u.val:Nat):Int)=(j7 ((m.val:Nat):Int) ((u.val:Nat):Int)&&decide (u≠w))∧0≤jk .i64 ((m.val:Nat):Int) (2^w.val)∧jk .i64 ((m.val:Nat):Int) (2^w.val)<32:=by decide+kernel
structure GoodV(v:ViewT):Prop where
 epoch:1≤v.epoch
 mem:1≤v.members∧v.members<32
 ok: ∀(i:Nat) (h:i<5),IM v v.heirs[i] i=true
 rng:Rng v
theorem GoodV.right{v:ViewT}(h:GoodV v):jv v=true:=by
 unfold jv;rw[au,decide_eq_true_iff,decide_eq_true_iff];exact⟨⟨h.epoch,h.mem⟩,h.ok⟩
theorem KF{v v':ViewT}{w u:Int}(hm:0≤v.members∧v.members<32)(hw:0≤w∧w<5)(e:v'.members=gH .i64 v.members (2^w.toNat)):gA v' u=(gA v u||(cw u&&decide (u=w)))∧0≤v'.members∧v'.members<32:=by
 obtain⟨m,hm',e1⟩: ∃m:Nat,m<32∧v.members=(m:Int):=⟨v.members.toNat,by omega,by omega⟩;have hb:=FS ⟨m,hm'⟩ ⟨w.toNat,by omega⟩;simp only at hb;rw[←e1,←e]at hb;refine⟨?_,(hb ⟨0,by decide⟩).2⟩
 by_cases hu:0≤u∧u<5
 · have h1:=(hb ⟨u.toNat,by omega⟩).1
   simp only at h1;rw[show((u.toNat:Nat):Int)=u by omega]at h1;have hmu:cw u=true:=decide_eq_true hu;simp only[gA,hmu,ny,h1,Fin.mk.injEq];congr 1;rw[decide_eq_decide];omega
 · have hmu:cw u=false:=decide_eq_false hu
   simp[gA,hmu]
theorem CC{v v':ViewT}{w u:Int}(hm:0≤v.members∧v.members<32)(hw:0≤w∧w<5)(e:v'.members=jk .i64 v.members (2^w.toNat)):gA v' u=(gA v u&&decide (u≠w))∧0≤v'.members∧v'.members<32:=by
 obtain⟨m,hm',e1⟩: ∃m:Nat,m<32∧v.members=(m:Int):=⟨v.members.toNat,by omega,by omega⟩;have hb:=DD ⟨m,hm'⟩ ⟨w.toNat,by omega⟩;simp only at hb;rw[←e1,←e]at hb;refine⟨?_,(hb ⟨0,by decide⟩).2⟩
 by_cases hu:0≤u∧u<5
 · have h1:=(hb ⟨u.toNat,by omega⟩).1
   simp only at h1;rw[show((u.toNat:Nat):Int)=u by omega]at h1;have hmu:cw u=true:=decide_eq_true hu;simp only[gA,hmu,ny,h1,ne_eq,Fin.mk.injEq];congr 1;rw[decide_eq_decide];omega
 · have hmu:cw u=false:=decide_eq_false hu
   simp[gA,hmu]
theorem F2{v:ViewT}{u:Int}(h0:0≤v.members)(h:gA v u=true):1≤v.members:=by
 have hb:j7 v.members u=true:=by simp only[gA,au]at h;exact h.2
 have:v.members≠0:=λe=>by
  rw[e]at hb;have:=of_decide_eq_true hb;rw[Int.zero_fdiv]at this;omega
 omega
theorem GoodV.step{v:ViewT}(g:GoodV v)(he:v.epoch<9223372036854775807)(c:ChangeT):GoodV (yS v c)∧v.epoch≤(yS v c).epoch∧(yS v c).epoch≤v.epoch+1:=by
 have hw1:IntKind.i64.wrap (v.epoch+1)=v.epoch+1:=bO (by have:=g.epoch;omega) (by omega)
 by_cases hz:(cm v c).2=0
 rotate_left
 · rw[yS,if_neg hz];exact⟨g,by omega,by omega⟩
 rw[yS,if_pos hz];have hr:=g.rng.next c;unfold cm at hz hr ⊢;split at hz
 · exact absurd hz (by decide)
 rename_i h1;rw[if_neg h1]at hr ⊢
 have hm:cw c.who=true∧cw c.heir=true:=by
  simp only[di,Bool.not_eq_true',not_or,jJ]at h1;exact h1
 have hwho:=of_decide_eq_true hm.1;have hheir:=of_decide_eq_true hm.2;split at hz
 · rename_i h2
   rw[if_pos h2]at hr ⊢;split at hz
   · exact absurd hz (by decide)
   rename_i h3;rw[if_neg h3]at hr ⊢;simp only[di,not_or,Bool.not_eq_true]at h3;have hb:=λu=>KF (v:=v) (v':=⟨IntKind.i64.wrap (v.epoch+1),gH .i64 v.members (2^c.who.toNat),v.heirs⟩) (u:=u) ⟨by have:=g.mem;omega,g.mem.2⟩ hwho rfl
   have hh0: ∀(i:Nat) (h:i<5),(i:Int)=c.who→v.heirs[i]=0:=λi h e=>by
    have:=h3.1;rw[lx,dif_pos hwho]at this;have e2:c.who.toNat=i:=by omega
    simp only[e2]at this;have hr:=g.rng i h;split at this
    · omega
    · cases this
   refine⟨⟨by show 1≤IntKind.i64.wrap (v.epoch+1);rw[hw1];have:=g.epoch;omega,⟨F2 (u:=c.who) (hb 0).2.1 (by rw[(hb c.who).1,hm.1];simp),(hb 0).2.2⟩,λi h=>?_,hr⟩,by show v.epoch≤IntKind.i64.wrap (v.epoch+1);rw[hw1];omega,by show IntKind.i64.wrap (v.epoch+1)≤_;rw[hw1];omega⟩;have ho:=g.ok i h;unfold IM at ho ⊢;rw[di,decide_eq_true_iff,au]at ho ⊢;rcases ho with ho| ⟨h4,h5⟩
   · exact .inl ho
   · by_cases q:(i:Int)=c.who
     · exact .inl (hh0 i h q)
     · refine .inr ⟨by rw[(hb _).1];show(gA v (v.heirs[i]-1)||_)=true;rw[h4];rfl,?_⟩
       rw[(hb _).1,decide_eq_false q,kq,Bool.or_false];exact h5
 · rename_i h2
   rw[if_neg h2]at hr ⊢;split at hz
   rotate_left
   · exact absurd hz (by decide)
   rename_i h3;rw[if_pos h3]at hr ⊢;split at hz
   · exact absurd hz (by decide)
   rename_i h4;rw[if_neg h4]at hr ⊢;simp only[di,Bool.not_eq_true',not_or,jJ,decide_eq_true_iff]at h4;obtain⟨⟨m1,m2⟩,m3⟩:=h4;have hb:=λu=>CC (v:=v) (v':=⟨IntKind.i64.wrap (v.epoch+1),jk .i64 v.members (2^c.who.toNat),lE v c⟩) (u:=u) ⟨by have:=g.mem;omega,g.mem.2⟩ hwho rfl
   refine⟨⟨by show 1≤IntKind.i64.wrap (v.epoch+1);rw[hw1];have:=g.epoch;omega,⟨F2 (u:=c.heir) (hb 0).2.1 (by rw[(hb c.heir).1,m2];simpa using m3),(hb 0).2.2⟩,λi h=>?_,hr⟩,by show v.epoch≤IntKind.i64.wrap (v.epoch+1);rw[hw1];omega,by show IntKind.i64.wrap (v.epoch+1)≤_;rw[hw1];omega⟩;have ho:=g.ok i h;show IM _ ((lE v c)[i]) i=true;rw[xi v c i h];unfold IM at ho ⊢;rw[di,decide_eq_true_iff,au]at ho ⊢;unfold nj
   by_cases q:(i:Int)=c.who∨v.heirs[i]=c.who+1
   · rw[if_pos q]
     refine .inr ⟨by rw[(hb _).1,show c.heir+1-1=c.heir by omega,m2];simpa using m3,?_⟩;rw[(hb _).1];rcases q with q|q
     · rw[q];simp
     · rcases ho with ho| ⟨_,h5⟩
       · omega
       · rw[Bool.not_eq_true']at h5;rw[h5];rfl
   · rw[if_neg q]
     rcases ho with ho| ⟨h5,h6⟩
     · exact .inl ho
     · refine .inr ⟨by rw[(hb _).1,h5];simp;omega,?_⟩
       rw[Bool.not_eq_true']at h6;rw[(hb _).1,h6];rfl
theorem GoodV.first:GoodV firstV:=⟨by decide,by decide,λi h=>by match i,h with|0,_|1,_|2,_|3,_|4,_=>rfl,Rng.first⟩
theorem GoodV.okV{v:ViewT}(g:GoodV v)(h:v.epoch<9223372036854775808):Qu v:=⟨⟨by have:=g.epoch;omega,h⟩,⟨by have:=g.mem;omega,g.mem.2⟩,λi hi=>by have:=g.rng i hi;omega⟩
def ua(x:RepT):MsgT:= {MsgT.zero with kind:=0,whose:=x.id,row:=x.own}
def qM(id:Int)(x:RowT):MsgT:= {MsgT.zero with kind:=2,whose:=id,row:=x}
def Bh(k w:Int):Bool:=decide (k.fdiv (2^min w.toNat IntKind.i64.bits)%2=0)
def pu(x:RepT):List SaidT:=((iy x.id).filter λw=>Bh x.kept w).map λw=>⟨w,ua x⟩
end Api
namespace Api
open Go Leg Codec
def iG(x:RepT)(o:OpT):RowT×Int:=
 if o.kind=0 then qd x.own o.key o.n else if o.kind=1 then qe x.own o.key o.n else if o.kind=2 then(if o.to'≠x.id then mF x.own o.key o.n o.to' else(.zero,5))else(.zero,5)
def kK(x:RepT)(o:OpT):RowT×Int×Int:=
 if gA x.view x.id=false then(.zero,0,9)else if nl o.key=false then(.zero,0,5)else if o.kind=3 then(.zero,mW x.book o.key,0)else if x.busy then(.zero,0,8)
 else if(iG x o).2≠0 then(.zero,0,(iG x o).2)else if o.kind≠0∧po x.book x.id o.key<o.n then(.zero,0,7)else((iG x o).1,0,0)
def kC(y:RowT):RecT:= {RecT.zero with kind:=0,row:=y}
end Api
namespace Api
open Go Leg Codec
end Api
namespace Api
open Go Leg Codec
end Api
namespace Api
open Go Leg Codec
end Api
namespace Api
open Go Leg Codec
end Api
end

section
namespace Leg
open Go Go.ChangeShapes Go.WideShapes Codec Api
section
variable {P:Program} {W:World} {H:Type} {enc:TypeId×Value→H} {B0:Nat} {spare:Nat→Bool} {held:Bool}
theorem D9{t:TypeId}{fuel:Nat}{cs:List Value}{x:DataW H×List MemPlace}(ht:P.underlying t=some .bool)(h:DataW.trod enc P W B0 spare held fuel t cs=some x): ∃b,cs=[.bool b]:=by
 cases fuel with
 |zero=>simp[DataW.trod]at h
 |succ n=>
  unfold DataW.trod at h;rw[ht]at h;split at h<;>simp_all
theorem Fits.append{a b:List (Option IntKind)}{x y:List Lit}(h:Fits a x)(g:Fits b y):Fits (a++b) (x++y):=
 ⟨by rw[cL,cL,h.1,g.1],λl hl=>(bA.1 hl).elim (h.2 l) (g.2 l)⟩
theorem zA{d:Nat}(ih: ∀t ks,mz P d t=some ks→∀fuel cs x,DataW.trod enc P W B0 spare held fuel t cs=some x→∃ls,Fits ks ls∧cs=ls.map jj)(cs:List Value)(n:Nat):
 ∀(fs:List Field) (o:Nat) (ks:List (Option IntKind)),qn P (mz P d) fs o=some ks→cs.length=o+ks.length→
  (∀f∈fs,∃y,DataW.trod enc P W B0 spare held n f.type ((cs.drop f.offset).take (P.cellsOf f.type))=some y)→∃ls,Fits ks ls∧cs.drop o=ls.map jj
 | [],o,ks,h,hl,_=>by
  simp only[qn,Option.some.injEq]at h;subst h;exact⟨[],⟨rfl,λ_ h=>by cases h⟩,by rw[cq (by simpa using dv hl)];rfl⟩
 |f::fs,o,ks,h,hl,hf=>by
  simp only[qn]at h;split at h
  · rename_i c hc
    split at h
    · rename_i hh
      obtain⟨m,hm,rfl⟩:=Option.map_eq_some_iff.1 h;rw[aj]at hl;obtain⟨y,hy⟩:=hf f (by simp);rw[hh.1,hh.2]at hy;obtain⟨l1,f1,e1⟩:=ih f.type c hc n _ _ hy;obtain⟨l2,f2,e2⟩:=zA ih cs n fs (o+c.length) m hm (by omega) (λg hg=>hf g (by simp[hg]));refine⟨l1++l2,f1.append f2,?_⟩;rw[cL,←e1,←e2,←jb];exact(lq _ _).symm
    · cases h
  · cases h
theorem flat_in: ∀(d:Nat) (t:TypeId) (ks:List (Option IntKind)),mz P d t=some ks→∀fuel cs x,DataW.trod enc P W B0 spare held fuel t cs=some x→∃ls,Fits ks ls∧cs=ls.map jj
 |0,_,_,h=>by simp[mz]at h
 |d+1,t,ks,h=>λfuel cs x hx=>by
  have ih:=flat_in d;simp only[mz]at h;split at h
  · rename_i q hu
    simp only[Option.some.injEq]at h;subst h;obtain⟨n,rfl,_,hw⟩:=DataW.trod_int hu hx;exact⟨[.int q n],⟨rfl,by simpa using hw⟩,rfl⟩
  · rename_i hu
    simp only[Option.some.injEq]at h;subst h;obtain⟨b,rfl⟩:=D9 hu hx;exact⟨[.bool b],⟨rfl,by simp[Lit.wf]⟩,rfl⟩
  · rename_i n e hu
    split at h
    · rename_i c hc
      split at h
      · rename_i hh
        simp only[Option.some.injEq]at h;subst h;obtain⟨xs,m,_,_,hl,hxl,hxi⟩:=DataW.trod_array hu hx;rw[hh.2]at hl
        have each: ∀k,k≤n→∃ls,Fits (List.replicate k c).flatten ls∧cs.take (k*c.length)=ls.map jj:=by
         intro k
         induction k with
         |zero=>intro _;exact⟨[],⟨rfl,λ_ h=>by cases h⟩,by simp⟩
         |succ k ihk=>
          intro hk;obtain⟨l1,f1,e1⟩:=ihk (by omega);have hy:=hxi k (by omega);rw[List.getElem?_eq_getElem (by omega),hh.1]at hy;obtain⟨l2,f2,e2⟩:=ih e c hc m _ _ hy;refine⟨l1++l2,?_,?_⟩
          · rw[List.replicate_succ',List.flatten_append]
            simpa using f1.append f2
          · rw[cL,←e1,←e2,gd,Nat.one_mul,List.take_add]
        obtain⟨ls,f,e⟩:=each n (aM _);rw[aD (by omega)]at e;exact⟨ls,f,e⟩
      · cases h
    · cases h
  · rename_i fs hu
    split at h
    · rename_i m' hc
      split at h
      · rename_i hh
        simp only[Option.some.injEq]at h;subst h;obtain⟨xs,m,_,_,hl,hxl,hxi⟩:=DataW.trod_struct hu hx
        have:=zA (λt ks h=>ih t ks h) cs m fs.toList 0 _ hc (by rw[hl,hh.1,bm]) (λf hf=>by
         obtain⟨i,hi⟩:=List.getElem?_of_mem hf;have hi':fs[i]?=some f:=by simpa using hi
         have:=hxi i f hi';have hlt:=(Array.getElem?_eq_some_iff.1 hi').1;rw[List.getElem?_eq_getElem (by omega)]at this
         exact⟨_,this⟩)
        simpa using this
      · cases h
    · cases h
  · cases h
theorem fits_ints{c:Nat}{ls:List Lit}(h:Fits (List.replicate c (some .i64)) ls): ∃l,ls=nD l∧l.length=c∧WF l:=by
 obtain⟨h1,h2⟩:=h
 have e: ∀x∈ls,∃n,x= .int .i64 n:=λx hx=>by
  have:zq x∈ls.map zq:=List.mem_map_of_mem hx;rw[h1,List.map_replicate]at this;have:=List.eq_of_mem_replicate this;cases x<;>simp only[zq,Option.some.injEq,reduceCtorEq]at this;subst this;exact⟨_,rfl⟩
 refine⟨ls.map λx=>match x with| .int _ n=>n|_=>0,?_,?_,?_⟩
 · rw[nD,Qy]
   conv=>lhs;rw[←List.map_id ls]
   refine dX λx hx=>?_
   obtain⟨n,rfl⟩:=e x hx;rfl
 · have:=congrArg List.length h1
   simpa using this
 · intro n hn
   obtain⟨x,hx,rfl⟩:=dw.1 hn;obtain⟨n,rfl⟩:=e x hx;exact h2 _ hx
theorem litI_cells(l:List Int):(nD l).map jj=ints l:=by simp[nD,ints,jj]
theorem yt{a:Addr}{v:Value}(h:W.cell? a=some v): ∃b o cs T z,a=⟨b,o,none⟩∧W.heap[b]?=some (.cells (List.toArray cs) T z)∧cs[o]?=some v:=by
 obtain⟨b,o,s⟩:=a;simp only[World.cell?]at h;split at h
 · rename_i cs T z hb
   cases s with
   |some s=>simp at h
   |none=>exact⟨b,o,cs.toList,T,z,rfl,by simpa using hb,by simpa using h⟩
 · cases h
theorem Ja{t e:TypeId}{fuel size:Nat}{α:Type}{E:List Value→α→Hl→Prop}{cs:List Value}{x:DataW H×List MemPlace}(ht:P.underlying t=some (.slice e))(hc:P.cellsOf e=size)(hs:0<size)
 (hE: ∀fuel cs x,DataW.trod enc P W B0 spare held fuel e cs=some x→∃a,E cs a (hp W)) (h:DataW.trod enc P W B0 spare held fuel t cs=some x): ∃u l,cs=[u]∧IsL size E u l (hp W):=by
 classical
 rcases Deep.open_slice ht h with⟨rfl,_⟩| ⟨a,len,cap,m,n,D,Pl,rfl,_,hl,hm,hmm,_,hx⟩
 · exact⟨_,[],rfl, .inl ⟨rfl,rfl⟩⟩
 · have hlm:len≤m:=by rw[hmm];split<;>omega
   by_cases h0:len=0
   · subst h0
     exact⟨_,[],rfl, .inr (.inl ⟨a,cap,rfl,rfl⟩)⟩
   · have first: ∃v,W.cell? a=some v:=by
      obtain⟨cs',h1,_⟩:=hx 0 (by omega);obtain⟨_,h2,h3⟩:=World.cells?_some h1;have:=h3 0 (by omega);rw[hX,show(a.add 0).add 0=a from rfl,List.getElem?_eq_getElem (by omega)]at this;exact⟨_,this⟩
     obtain⟨v,hv⟩:=first;obtain⟨b,o,bs,T,z,rfl,hb,_⟩:=yt hv
     have each: ∀i,i<len→∃us,us.length=size∧(bs.drop (o+i*size)).take size=us∧∃x,E us x (hp W):=λi hi=>by
      obtain⟨cs',h1,h2⟩:=hx i (by omega);obtain⟨_,h3,h4⟩:=World.cells?_some h1;rw[hc]at h3 h4;refine⟨cs',h3,?_,hE _ _ _ h2⟩;apply List.ext_getElem?;intro k;rw[List.getElem?_take];split
      · rename_i hk
        have:=h4 k hk;rw[qy,qy]at this;simp only[World.cell?,hb,Option.isSome_none,Bool.false_eq_true,if_false]at this;rw[List.getElem?_drop]
        simpa using this
      · rw[List.getElem?_eq_none (by omega)]
     obtain⟨f,hf⟩: ∃f:Nat→α,∀i,i<len→E ((bs.drop (o+i*size)).take size) (f i) (hp W):=by
      have each': ∀i,i<len→∃x,E ((bs.drop (o+i*size)).take size) x (hp W):=λi hi=>by
       obtain⟨us,_,e2,q⟩:=each i hi;rw[e2];exact q
      obtain⟨x,_⟩:=each' 0 (by omega)
      haveI:Inhabited α:=⟨x⟩
      exact Deep.choose_lt each'
     refine⟨_,(List.range len).map f,rfl, .inr (.inr ⟨b,o,cap,bs,T,z,by simp,by simpa using hl,by simpa [maxLen]using hm,hb,λj hj=>?_⟩)⟩;have hj':j<len:=by simpa using hj
     obtain⟨us,e1,e2,_⟩:=each j hj';exact⟨us,e1,e2,by rw[←e2];simpa using hf j hj'⟩
theorem listV_in{t e:TypeId}{size:Nat}{α:Type}{E:List Value→α→Hl→Prop}{v:Value}{d:DataW H}{ps:List MemPlace}(ht:P.underlying t=some (.slice e))(hc:P.cellsOf e=size)(hs:0<size)(hv:Value.okWide P W .any B0 t v)
 (hE: ∀fuel cs x,DataW.trod enc P W 0 spare held fuel e cs=some x→∃a,E cs a (hp W)) (hd:DataW.Trod enc P W 0 spare held t v d ps): ∃l,IsL size E v l (hp W):=by
 obtain⟨fuel,hf⟩:=hd;obtain⟨u,l,h1,h2⟩:=Ja ht hc hs hE hf;obtain⟨a,len,cap,rfl⟩:=WideShapes.okWide_slice ht hv;simp[Value.cells]at h1;subst h1;exact⟨l,h2⟩
end
section
variable {P:Program} {w0:World} {F:Hl} {n:Nat} {ops:Array Oper} {Q:QQ} {D:List Deferred} {L:List (Nat×Value)} {H:List HP} {o:Oper} {l:List Oper} {d:Nat} {S:World→Prop}
def xQ(P:Program)(t:TypeId)(rv:Value)(nm:String)(f:FuncId):Prop:=∀w,(method (P.types.size+Made.depth) t rv nm).run P w= .ok (f,rv) w
theorem TL.callI{recv:Operand}{nm:String}{t:TypeId}{rv:Value}{f:FuncId}{xs:Array Operand}{ts:Array TypeId}{vs:List Value}{R:Hl→Prop}{A B:List HP}{p:Value→List HP→Prop}(hw:Want n D ops o L)
 (ho:o.op= .call {callee:= .invoke recv nm,args:=xs,argTypes:=ts}) (hd:o.dst=some d) (hn:Nat.blt d n=true) (hr:cI L recv=some (.iface t rv)) (hm:xQ P t rv nm f) (hf:Named P f) (hx:AX L xs.toList=some vs)
 (sp:Does P f (rv::vs).toArray R A (dL p)) (hp: ∀h,bN H h→bN (A++B) h) (hR: ∀g,Dj g F→bN B g→R (jn g F))
 (hret: ∀v H',p v H'→TL P w0 F n ops Q l D ((d,v)::L) (H'++B)):TL P w0 F n ops Q (o::l) D L H:=
 TL.callw hw (λa w g=>by
  have e:xs.map a.eval=vs.toArray:=g.evals hx;have e2:a.eval recv= .iface t rv:=g.eval hr;have e3:=hm w
  simp[execOp,ho,resolve,invoke,callMethod,e,e2,e3,mE hf])
  sp hp hR (λv H' q a g w s m=>by rw[hd];exact hret v H' q _ w (g.put (lb hn) v) s m) (λ_ _ h=>h.elim) (λ_ h=>h)
theorem TE.retCTT{H':List HP}{fn:Func}{post:Ending→List HP→Prop}{t t' t2 ty e m b:Nat}{cs:List Value}{z:Nat×Nat}{dt:TypeDesc}{v' v2:Value}(hr:fn.results=#[.cell t ty, .tmp t', .tmp t2])(he:lk L t=some (.pointer (some ⟨b,0,none⟩)))(e':lk L t'=some v')(e2:lk L t2=some v2)
 (hu:P.underlying ty=some dt) (hp:eG dt=false) (hm:(P.info? ty).map (·.size)=some m) (hR:Rd (Sat H F) b (.cells cs.toArray e z)) (hl:cs.length=m) (hk: ∀h,bN H h→bN H' h)
 (h:post (.returned (.tuple #[.agg cs.toArray,v',v2])) H'):TE w0 F n (bodyPost P fn (j5 post w0 F)) .ret [] L H:=λa w f s q=>by
 have h1:a.tmps.getD t undef= .pointer (some ⟨b,0,none⟩):=f.eval (x:= .tmp t) he;have h2:a.tmps.getD t' undef=v':=f.eval (x:= .tmp t') e';have h4:a.tmps.getD t2 undef=v2:=f.eval (x:= .tmp t2) e2
 have h3:(results fn a.tmps).run P w= .ok (.tuple #[.agg cs.toArray,v',v2]) w:=by
  have h1':a.tmps[t]?.getD undef= .pointer (some ⟨b,0,none⟩):=by simpa using h1
  have h2':a.tmps[t']?.getD undef=v':=by simpa using h2
  have h4':a.tmps[t2]?.getD undef=v2:=by simpa using h4
  simp[results,hr,h1',h2',h4',asAddr,run_loadVar_row w b e ty cs.toArray z dt (hR w q) hu (by cases dt<;>simp[eG]at hp ⊢) (by simp[hm,hl])]
 exact bodyPost_ret h3 f.2.1 ⟨s,H',q.mono hk,h⟩
theorem PV.ifaceNotNil{t t' u:TypeId}{x:Operand}{v:Value}{ms:Array (String×TypeId)}(ho:o.op= .binOp .neq t x (.const .nilIface) t')(ht:P.underlying t=some (.interface ms))(hx:cI L x=some (.iface u v)):PV P n D L S o (.bool true):=
 gY ho hx rfl λw=>by
  have:=q8 (P:=P) (w:=w) 9999 (u:=u) (v:=v) ht;simp[eqGuard,binOp,Op.equal,Op.maxDepth,this]
end
theorem F9(i:Nat){v:Value}{l:List Int}{e:Nat}{B:List HP}{F:Hl}(hi:Nat.blt i B.length=true)(hH:B.getD i (λ_=>True)=own v l.length (Api.ints l) e 1): ∀g,Dj g F→bN B g→IsI .i64 v l (jn g F):=λg _ s=>by
 obtain⟨h1,h2,d',rfl,a,_⟩:=e6 i (lb hi) s;rw[hH]at a;rcases a with⟨_,⟨h0,hn,_⟩| ⟨g,cap,cur,hv,hh,h3,h4,h5,h6⟩⟩
 · exact .inl ⟨h0,List.eq_nil_of_length_eq_zero hn⟩
 · refine .inr ⟨g,0,cap,cur.toList,e,(0,0),hv,h3,by simp only[maxLen]at h4;omega,iB (iB (by rw[hh];simp[sg])),λj hj=>?_⟩
   rw[fZ]at h6;have e1:(cur.toList.take l.length)[j]?=some (.int .i64 (l.getD j 0)):=by rw[h6];exact Api.ints_get l j hj
   rw[List.getElem?_take,if_pos hj]at e1
   simpa using e1
variable {P:Program} {w0:World} {F:Hl} {n:Nat} {ops:Array Oper} {Q:QQ} {D:List Deferred} {L:List (Nat×Value)} {H:List HP} {d:Nat} {o:Oper} {l:List Oper}
theorem RU{fn:Func}{post:Ending→List HP→Prop}{t t' t2 ty e m b:Nat}{cs:List Value}{dt:TypeDesc}{v' v2:Value}(k:Nat)(is:List Nat)(hu:P.underlying ty=some dt)(hm:(P.info? ty).map (·.size)=some m)(hl:cs.length=m)(h:post (.returned (.tuple #[.agg cs.toArray,v',v2])) ((Ca H is).take is.length))(hr:fn.results=#[.cell t ty, .tmp t', .tmp t2]:=by exact rfl)(he:lk L t=some (.pointer (some ⟨b,0,none⟩)):=by exact rfl)(e':lk L t'=some v':=by exact rfl)(e2:lk L t2=some v2:=by exact rfl)(hp:eG dt=false:=by exact rfl)(hk:Nat.blt k H.length=true:=by exact rfl)(hH:H.getD k (λ_=>True)=an b cs e:=by exact rfl)(hs:Kw H.length is=true:=by exact rfl):TE w0 F n (bodyPost P fn (j5 post w0 F)) .ret [] L H:=TE.retCTT hr he e' e2 hu hp hm (fu k hk hH) hl (λ_ s=>ao is hs s) h
end Leg
end

section
namespace Dsk
open Go Leg Codec Api
abbrev ix:=List UInt8
def zs:ix:=List.replicate 64 0
def GJ(b:ix):Value:= .agg (eS b).toArray
abbrev fH:=List (Int×ix)
def gG(s:fH)(k:Int):ix:=match s with
 | []=>zs
 | (a,b)::s=>if k=a then b else gG s k
def oo(s:fH)(k:Int)(v:ix):fH:=match s with
 | []=>[(k,v)]
 | (a,b)::s=>if k=a then(a,v)::s else(a,b)::oo s k v
theorem kY(s:fH)(k j:Int)(v:ix):gG (oo s k v) j=if j=k then v else gG s j:=by
 induction s with
 |nil=>simp[oo,gG]
 |cons p s ih=>
  obtain⟨a,b⟩:=p;simp only[oo]
  by_cases h:k=a
  · subst h
    rw[if_pos rfl]
    by_cases h2:j=k
    · simp[gG,h2]
    · simp[gG,h2]
  · rw[if_neg h]
    simp only[gG]
    by_cases h2:j=a
    · subst h2
      rw[if_pos rfl,if_pos rfl,if_neg (by omega)]
    · rw[if_neg h2,if_neg h2,ih]
def tI(s:fH):List (Int×Value):=s.map λp=>(p.1,GJ p.2)
theorem CK(s:fH)(k:Int):(CM (tI s) k).getD (GJ zs)=GJ (gG s k):=by
 induction s with
 |nil=>rfl
 |cons p s ih=>
  obtain⟨a,b⟩:=p;simp only[tI,e5,CM,gG]at ih ⊢;split
  · rfl
  · exact ih
theorem Jd(s:fH)(k:Int)(v:ix):rN (tI s) k (GJ v)=tI (oo s k v):=by
 induction s with
 |nil=>rfl
 |cons p s ih=>
  obtain⟨a,b⟩:=p;simp only[tI,e5,rN,oo]at ih ⊢;split
  · rfl
  · rw[ih];rfl
def cZ(p:Int×ix):List Value:= .int .i64 p.1::eS p.2
def dN(ws:fH):List Value:=ws.flatMap cZ
def eV(b:List UInt8):ix:=b++List.replicate (64-b.length) 0
theorem dG{b:List UInt8}(h:b.length≤64):(eV b).length=64:=by simp[eV];omega
def Whole(s:fH):Prop:=∀p∈s,p.2.length=64
theorem ct{p:Int×ix}(h:p.2.length=64):(cZ p).length=65:=by simp[cZ,eS,h]
theorem Gs{ws:fH}(h:Whole ws){k:Nat}(hk:k<ws.length):((dN ws).drop (k*65)).take 65=cZ ws[k]:=by
 induction ws generalizing k with
 |nil=>simp at hk
 |cons p ws ih=>
  have h1:=ct (h p (by simp));simp only[dN,dh]at ih ⊢;cases k with
  |zero=>
   simp only[hX,bq,oJ];rw[cf (by omega),aD (by omega)]
  |succ k=>
   rw[gZ,cq (by omega),h1,show(k+1)*65-65=k*65 by omega,bu]
   simpa using ih (λq hq=>h q (by simp[hq])) (by simpa using hk)
theorem eX{s:fH}(h:Whole s)(k:Int):(gG s k).length=64:=by
 induction s with
 |nil=>simp[gG,zs]
 |cons p s ih=>
  obtain⟨a,b⟩:=p;simp only[gG];split
  · exact h (a,b) (by simp)
  · exact ih λq hq=>h q (by simp[hq])
theorem Whole.put{s:fH}(h:Whole s)(k:Int){v:ix}(hv:v.length=64):Whole (oo s k v):=by
 induction s with
 |nil=>intro p hp;simp only[oo,aX]at hp;subst hp;exact hv
 |cons p s ih=>
  obtain⟨a,b⟩:=p;intro q hq;simp only[oo]at hq;split at hq
  · rcases bV.1 hq with rfl|hq
    · exact hv
    · exact h q (by simp[hq])
  · rcases bV.1 hq with rfl|hq
    · exact h (a,b) (by simp)
    · exact ih (λq hq=>h q (by simp[hq])) q hq
theorem Whole.add{s:fH}(h:Whole s)(k:Int){v:ix}(hv:v.length=64):Whole (s++[(k,v)]):=λp hp=>by
 rcases bA.1 hp with hp|hp
 · exact h p hp
 · simp only[aX]at hp;subst hp;exact hv
section
variable {P:Program} {n:Nat} {D:List Deferred} {L:List (Nat×Value)} {S:World→Prop} {o:Oper}
theorem PV.mapNil{t t' k e m:TypeId}{x y:Operand}(ho:o.op= .binOp .eql t x y t')(hu:P.underlying t=some (.map k e))(hx:cI L x=some (.map (some m)))(hy:cI L y=some (.map none)):PV P n D L S o (.bool false):=
 gY ho hx hy λw=>by
  have e:(Op.equal t (.map (some m)) (.map none)).run P w= .ok false w:=run_equalIn_map_nil w 9999 t k e (some m) hu;simp[eqGuard,binOp,e]
end
end Dsk
namespace Dsk
open Go Leg Codec Api
theorem zV{k:Int}{b:List UInt8}(h:b.length≤64):wr (.int .i64 k::eS zs) 1 ((eS b).take (min b.length 64))=cZ (k,eV b):=by
 have e:(eS b).take (min b.length 64)=eS b:=aD (by rw[bz];omega);rw[e,wr,bz]
 have e2:(Value.int IntKind.i64 k::eS zs).drop (1+b.length)=eS (List.replicate (64-b.length) 0):=by
  rw[show 1+b.length=b.length+1 by omega,iJ];rw[eS,eS,zs,←ll,FC]
 rw[e2];simp only[cZ,eV,eS,cL,List.take_succ_cons,List.take_zero,gf,bu]
theorem Jj(vs:List Value): ∀(j:Nat) (pre zeros:List Value),pre.length=j→zeros.length=vs.length→
 ((vs.zipIdx j).foldl (λ(cs:Array Value) (c,i)=>cs.setIfInBounds (0+i) c) (pre++zeros).toArray)=(pre++vs).toArray:=by
 induction vs with
 |nil=>intro j pre zeros _ h;rw[List.eq_nil_of_length_eq_zero h];rfl
 |cons v vs ih=>
  intro j pre zeros hp hz
  match zeros,hz with
  |z::zeros,hz=>
   rw[List.zipIdx_cons,List.foldl_cons]
   have e:(pre++z::zeros).toArray.setIfInBounds (0+j) v=((pre++[v])++zeros).toArray:=by
    rw[bm,List.setIfInBounds_toArray,gV _ _ (by omega),hp,yE,ce,aV];rfl
   simp only[e];rw[ih (j+1) (pre++[v]) zeros (by simp[hp]) (by simpa using hz),aV];rfl
theorem E5{zeros:Array Value}{vs:List Value}(h:zeros.size=vs.length):Instr.fill (λi=>some (i*vs.length,vs.length)) zeros [(0, .agg vs.toArray)]=some vs.toArray:=by
 have e:=Jj vs 0 [] zeros.toList rfl (by simpa using h);simp only[bu,Array.toArray_toList]at e;simp only[Instr.fill,Value.cells,List.size_toArray,hX,bm,ne_eq,not_true_eq_false,false_or,decide_false,Bool.false_or];rw[if_neg (by simp[h])];rw[←Array.foldl_toList,Array.toList_zipIdx];simp only[bm]at e;rw[e]
theorem mL{zeros:Array Value}{vs:List Value}{size:Nat}(h:vs.length=size)(hz:zeros.size=size):Instr.fill (λi=>some (i*size,size)) zeros [(0, .agg vs.toArray)]=some vs.toArray:=by
 subst h;exact E5 hz
theorem jd(p:Int×ix): ∀u∈cZ p,u.oneCell'=true:=by
 intro u hu;rcases bV.1 hu with rfl|hu
 · rfl
 · exact fy _ u hu
end Dsk
namespace Leg
open Go
section
variable {P:Program} {w0:World} {F:Hl} {n:Nat} {ops:Array Oper} {Q:QQ} {D:List Deferred} {L:List (Nat×Value)} {H:List HP} {l:List Oper}
end
end Leg
namespace Dsk
open Go Leg Codec Api
def kF(ws:fH)(k:Nat):Int×ix:=ws.getD k (0,zs)
theorem tO{ws:fH}{k:Nat}(hk:k<ws.length):kF ws k=ws[k]:=by simp[kF,List.getD_eq_getElem?_getD,hk]
theorem dQ{ws:fH}(h:Whole ws){k:Nat}(hk:k<ws.length):(kF ws k).2.length=64:=by rw[tO hk];exact h _ (eg hk)
theorem qJ{ws:fH}(h:Whole ws){k:Nat}(hk:k<ws.length):((dN ws).drop (k*65)).take 65=cZ (kF ws k):=by rw[tO hk];exact Gs h hk
theorem Gu{ws:fH}(h:Whole ws){k:Nat}(hk:k<ws.length):(dN ws)[k*65]?=some (.int .i64 (kF ws k).1):=by
 have e:=congrArg (λl:List Value=>l[0]?) (qJ h hk)
 simpa [cZ]using e
theorem Gt{ws:fH}(h:Whole ws){k:Nat}(hk:k<ws.length):((dN ws).drop (k*65+1)).take 64=eS (kF ws k).2:=by
 have e:=congrArg (λl:List Value=>l.drop 1) (qJ h hk);simp only[oK,jb,cZ,iJ,bq]at e;exact e
theorem vW{p:Int×ix}(h:p.2.length=64):((cZ p).drop 1).take 64=eS p.2:=by
 simp only[cZ,iJ,bq];exact aD (by rw[bz,h];exact aM _)
theorem Bu{p:Int×ix}{c:Nat}(h:p.2.length=64)(hc:c≤64):((cZ p).drop 1).take (min c 64)=(eS p.2).take c:=by
 simp only[cZ,iJ,bq];congr 1;omega
theorem wg{l:List Value}{n:Nat}(h:l.length=n):(l.drop 0).take n=l:=by rw[bq,aD (by omega)]
def CJ(s ws:fH):Nat→fH
 |0=>s
 |k+1=>oo (CJ s ws k) (kF ws k).1 (kF ws k).2
theorem Whole.lay{s ws:fH}(h:Whole s)(hw:Whole ws): ∀k,k≤ws.length→Whole (CJ s ws k)
 |0,_=>h
 |k+1,hk=>(Whole.lay h hw k (by omega)).put _ (dQ hw (by omega))
def lv(old new:ix)(c:Nat):ix:=new.take c++old.drop c
theorem oj{old new:ix}{c:Nat}(h1:old.length=64)(h2:new.length=64):(lv old new c).length=64:=by simp[lv];omega
def mO(n:Int):Nat:=(min (max n 0) 64).toNat
theorem KV(n:Int):min (max n 0) 64=((mO n:Nat):Int):=by unfold mO;omega
theorem mN(n:Int):mO n≤64:=by unfold mO;omega
def jR(mask torn:Int)(c:Nat)(s:fH)(k:Nat)(p:Int×ix):fH:=
 if(k:Int)=torn then oo s p.1 (lv (gG s p.1) p.2 c)else if mask.fdiv (2^ (k%32))%2=1 then oo s p.1 p.2 else s
def gU(mask torn:Int)(c:Nat)(s ws:fH):Nat→fH
 |0=>s
 |k+1=>jR mask torn c (gU mask torn c s ws k) k (kF ws k)
theorem Whole.crash{mask torn:Int}{c:Nat}{s ws:fH}(h:Whole s)(hw:Whole ws): ∀k,k≤ws.length→Whole (gU mask torn c s ws k)
 |0,_=>h
 |k+1,hk=>by
  have ih:=Whole.crash (mask:=mask) (torn:=torn) (c:=c) h hw k (by omega);simp only[gU,jR];split
  · exact ih.put _ (oj (eX ih _) (dQ hw (by omega)))
  · split
    · exact ih.put _ (dQ hw (by omega))
    · exact ih
def iU(s ws:fH)(at':Int):Nat→ix
 |0=>gG s at'
 |k+1=>if(kF ws k).1=at' then(kF ws k).2 else iU s ws at' k
theorem y9{s ws:fH}(h:Whole s)(hw:Whole ws)(at':Int): ∀k,k≤ws.length→(iU s ws at' k).length=64
 |0,_=>eX h _
 |k+1,hk=>by
  simp only[iU];split
  · exact dQ hw (by omega)
  · exact y9 h hw at' k (by omega)
theorem GV{s ws:fH}{at':Int}{k:Nat}(h:(kF ws k).1=at'):iU s ws at' (k+1)=(kF ws k).2:=by simp[iU,h]
theorem Et{s ws:fH}{at':Int}{k:Nat}(h:(kF ws k).1≠at'):iU s ws at' (k+1)=iU s ws at' k:=by simp[iU,h]
theorem Gz{old new:ix}{c m:Nat}(hc:c≤64)(h1:old.length=64)(h2:new.length=64)(hm:m=c):wr (eS old) 0 (((eS new).take c).take m)=eS (lv old new c):=by
 subst hm;have:((eS new).take m).length=m:=by rw[bp,bz];omega
 rw[aD (by omega),wr,this,List.take_zero,bu,bm];simp[eS,lv,pT,ll]
structure DS where
 s:fH
 ws:fH
 ar:Bool
 lf:Int
 dn:Bool
structure DS.Ok(D:DS):Prop where
 s:Whole D.s
 ws:Whole D.ws
 lf:0≤D.lf∧D.lf≤9223372036854775807
def DS.new:DS:=⟨[],[],false,0,false⟩
def DS.arm(D:DS)(n:Int):DS:= {D with ar:=true,lf:=max n 0}
def DS.write(D:DS)(at':Int)(bs:List UInt8):Int×DS:=
 if at'<0∨2048≤at'∨64<bs.length then(5,D)
 else if D.dn=true∨(D.ar=true∧D.lf=0)then(4,{D with dn:=true})
 else(0,{D with ws:=D.ws++[(at',eV bs)],lf:=if D.ar=true then D.lf-1 else D.lf,dn:=false})
def DS.sync(D:DS):Int×DS:=if D.dn=true then(4,D)else(0,{D with s:=CJ D.s D.ws D.ws.length,ws:=[]})
def DS.crash(D:DS)(mask torn n:Int):DS:=⟨gU mask torn (mO n) D.s D.ws D.ws.length,[],false,0,false⟩
def DS.read(D:DS)(at':Int):ix:=iU D.s D.ws at' D.ws.length
theorem mR:Whole []:=λ_ h=>absurd h (by simp)
theorem DS.new_ok:DS.new.Ok:=⟨mR,mR,⟨by decide,by decide⟩⟩
theorem DS.arm_ok{D:DS}(h:D.Ok){n:Int}(hn:n≤9223372036854775807):(D.arm n).Ok:=⟨h.s,h.ws,by simp only[DS.arm];omega⟩
abbrev Qj:= @DS.arm_ok
theorem DS.write_ok{D:DS}(h:D.Ok)(at':Int)(bs:List UInt8):(D.write at' bs).2.Ok:=by
 unfold DS.write;split
 · exact h
 · split
   · exact⟨h.s,h.ws,h.lf⟩
   · rename_i h1 h2
     refine⟨h.s,h.ws.add _ (dG (by omega)),?_⟩;have:=h.lf;show 0≤(if D.ar=true then D.lf-1 else D.lf)∧(if D.ar=true then D.lf-1 else D.lf)≤9223372036854775807;split<;>rename_i h3
     · have:D.lf≠0:=λq=>h2 (.inr ⟨h3,q⟩)
       exact⟨by omega,by omega⟩
     · exact this
theorem DS.sync_ok{D:DS}(h:D.Ok):D.sync.2.Ok:=by
 unfold DS.sync;split
 · exact h
 · exact⟨h.s.lay h.ws _ (aM _),mR,h.lf⟩
abbrev OC:= @DS.sync_ok
theorem DS.crash_ok{D:DS}(h:D.Ok)(mask torn n:Int):(D.crash mask torn n).Ok:=⟨h.s.crash h.ws _ (aM _),mR,⟨by simp[DS.crash],by simp[DS.crash]⟩⟩
theorem DS.read_len{D:DS}(h:D.Ok)(at':Int):(D.read at').length=64:=y9 h.s h.ws _ _ (aM _)
abbrev mc:= @DS.read_len
theorem DS.write_ws{D:DS}{at':Int}{bs:List UInt8}:(D.write at' bs).2.ws.length≤D.ws.length+1:=by
 unfold DS.write;split
 · simp
 · split
   · simp
   · simp
abbrev Og(DT WT:Nat)(d:Nat)(D:DS):HP:=pack λx:Nat×Value=>[an d [.map (some x.1),x.2, .bool D.ar, .int .i64 D.lf, .bool D.dn] DT,gM x.1 (tI D.s),own x.2 D.ws.length (dN D.ws) WT 65]
end Dsk
end

section
namespace Go.Proofs.YtmcjhkbcmmddgaaGreat
open Go Leg Codec Api Dsk
theorem A1(d m:Nat)(wv:Value)(ar dn:Bool)(lf:Int):
 DT 45 #[(.pointer (some ⟨d,0,none⟩))] T0 [an d [(.map (some m)),wv,(.bool (ar)),(.int .i64 (lf)),(.bool (dn))] 115] (RI (.bool dn) [an d [(.map (some m)),wv,(.bool (ar)),(.int .i64 (lf)),(.bool (dn))] 115]):=by
 refine BD 7 Tryz.func45 rfl rfl rfl λw0 F hF=>sr λ_ J1=>PS ?_
 refine nx J1 (sr λ_ J2=>P2 ?_);refine FA 4 ir lm ?_;refine LA 0 Y4 ?_;refine PS ?_;exact nx J2 (ak (WK [0] (aw rfl rfl ⟨rfl,rfl⟩)))
theorem De(d m:Nat)(wv:Value)(ar dn:Bool)(lf n:Int):
 DT 30 #[(.pointer (some ⟨d,0,none⟩)),(.int .i64 (n))] T0 [an d [(.map (some m)),wv,(.bool (ar)),(.int .i64 (lf)),(.bool (dn))] 115] (dL (λ_ H=>H=[an d [(.map (some m)),wv,(.bool true),(.int .i64 ((max n 0))),(.bool (dn))] 115])):=by
 refine BD 12 Tryz.func30 rfl rfl rfl λw0 F hF=>ag (P3 ?_)
 refine tp (yB rfl rfl rfl) ?_;refine PS ?_;refine FA 2 ir lm ?_;refine S0 0 lm ?_;refine PS ?_;refine FA 3 ir aQ ?_;refine S0 0 aQ ?_;exact ax (WK [0] (bE rfl rfl))
theorem Dd:
 DT 24 #[] T0 [] (dL (λv H=>∃d m,v= .pointer (some ⟨d,0,none⟩)∧H=[an d [(.map (some m)),(.slice none 0 0),(.bool false),(.int .i64 0),(.bool false)] 115,gM m ([])])):=by
 refine BD 4 Tryz.func24 rfl rfl rfl λw0 F hF=>sr λ_ J1=>PS ?_
 refine nx J1 (sr λ_ J2=>TL.makeMap (ab rfl) rfl rfl rfl (λm1=>BV #[(.map (some m1)),(.slice none 0 0),(.bool false),(.int .i64 0),(.bool false)] ?_));refine XB λb3=>?_
 refine PS ?_;exact nx J2 (ak (WK [0,0] (aw rfl rfl ⟨b3,m1,rfl,rfl⟩)))
theorem el:Tryz.prog.follows .mixedOrders=true:=by kernel_rfl
theorem pk(d m:Nat)(wv:Value)(s:fH)(ar dn:Bool)(lf at':Int)(b:List UInt8)(hb:b.length=64):
 DT 73 #[(.pointer (some ⟨d,0,none⟩)),(.int .i64 (at')),(.agg (eS b).toArray)] T0 [an d [(.map (some m)),wv,(.bool (ar)),(.int .i64 (lf)),(.bool (dn))] 115,gM m (tI s)] (dL (λ_ H=>H=[an d [(.map (some m)),wv,(.bool (ar)),(.int .i64 (lf)),(.bool (dn))] 115,gM m (tI (oo s at' b))])):=by
 refine BD 21 Tryz.func73 rfl rfl rfl λw0 F hF=>sr λ_ J1=>XY (eS b) λb5=>?_
 refine nx J1 (aa λ_ J2=>sr λ_ J3=>P2 ?_);refine FA 0 ir FK ?_;refine LA 1 DH ?_;refine tp (PV.mapNil rfl DH rfl rfl) ?_;refine nx J3 (CN (qx J2 (D2 1 0 el ?_)));refine PD 0 ?_;refine PD 1 ?_;refine FD 2 0 ir FK ?_;refine LX 3 DH (.map (some m)) ?_ (hc:=by exact rfl);refine PD 4 ?_;refine ta 5 rfl (aL (vs:=eS b) rfl Fy rfl pE rfl (λ_ h=>h.2.2.1) (by rw[bz];exact hb) (by rw[bq,aD (by rw[bz,hb];exact aM _)])) ?_;refine AL 6 ?_;exact Qo (i:=2) (H':=[an b5 (eS b) 98,an d [(.map (some m)),wv,(.bool (ar)),(.int .i64 (lf)),(.bool (dn))] 115,gM m (tI (oo s at' b))]) (ab rfl) rfl rfl DH Y3 rfl rfl rfl rfl rfl (congrArg (λq=>List.set _ 2 (gM m q)) (Jd _ _ _)) (EN (DN (WK [1,1] (bE rfl rfl))))
theorem yn(d m:Nat)(wv:Value)(ws:fH)(ar dn:Bool)(lf at':Int)(x:Value)(bs:List UInt8)(hl:0≤lf∧lf≤9223372036854775807)(hw:ws.length≤1000000000):
 DT 40 #[(.pointer (some ⟨d,0,none⟩)),(.int .i64 (at')),x] (IsW x bs) [an d [(.map (some m)),wv,(.bool (ar)),(.int .i64 (lf)),(.bool (dn))] 115,own wv (ws.length) (dN ws) 147 65] (dL (λv H=>if at'<0∨2048≤at'∨64<bs.length then v= .int .i64 5∧H=[an d [(.map (some m)),wv,(.bool (ar)),(.int .i64 (lf)),(.bool (dn))] 115,own wv (ws.length) (dN ws) 147 65]else if dn=true∨(ar=true∧lf=0)then v= .int .i64 4∧H=[an d [(.map (some m)),wv,(.bool (ar)),(.int .i64 (lf)),(.bool true)] 115,own wv (ws.length) (dN ws) 147 65]else v= .int .i64 0∧∃wv',H=[an d [(.map (some m)),wv',(.bool (ar)),(.int .i64 ((if ar=true then lf-1 else lf))),(.bool false)] 115,own wv' ((ws++[(at',eV bs)]).length) (dN (ws++[(at',eV bs)])) 147 65])):=by
 refine BD 64 Tryz.func40 rfl rfl rfl λw0 F hF=>sr λ_ J1=>PS ?_
 refine nx J1 (aa λ_ J2=>sr λ_ J3=>P2 ?_);refine aq ?_ ?_<;>intro h9;refine PS ?_;refine UT ?_;refine UT ?_;refine P2 ?_
 iterate 3 refine UT ?_
 refine PS ?_;refine nx J3 (CY (sr λ_ J4=>PS ?_));refine nx J4 (ak (ae (WK [0,0] (aw rfl rfl ?_))));show(if _ then _ else _)
 first
  | (rw[if_pos (by omega)];exact⟨rfl,rfl⟩)
  | (rw[if_neg (by omega),if_pos (by simp_all)];exact⟨rfl,by simp_all<;>rfl⟩)
  | (rw[if_neg (by omega),if_neg (by simp_all)];exact⟨rfl,v61,by simp_all<;>rfl⟩)
 refine P3 ?_;refine aq ?_ ?_<;>intro h12;refine P2 ?_
 iterate 3 refine UT ?_
 refine PS ?_;refine nx J3 (CY (sr λ_ J5=>PS ?_));refine nx J5 (ak (ae (WK [0,0] (aw rfl rfl ?_))));show(if _ then _ else _)
 first
  | (rw[if_pos (by omega)];exact⟨rfl,rfl⟩)
  | (rw[if_neg (by omega),if_pos (by simp_all)];exact⟨rfl,by simp_all<;>rfl⟩)
  | (rw[if_neg (by omega),if_neg (by simp_all)];exact⟨rfl,v61,by simp_all<;>rfl⟩)
 refine P3 ?_;refine tq (dW rfl ia rfl hF.len) ?_;refine PS ?_;refine aq ?_ ?_<;>intro h17;refine PS ?_;refine nx J3 (CY (sr λ_ J6=>PS ?_));refine nx J6 (ak (ae (WK [0,0] (aw rfl rfl ?_))));show(if _ then _ else _)
 first
  | (rw[if_pos (by omega)];exact⟨rfl,rfl⟩)
  | (rw[if_neg (by omega),if_pos (by simp_all)];exact⟨rfl,by simp_all<;>rfl⟩)
  | (rw[if_neg (by omega),if_neg (by simp_all)];exact⟨rfl,v61,by simp_all<;>rfl⟩)
 refine PS ?_;refine nx J3 (CN (qx J2 (aa λ_ J7=>sr λ_ J8=>P2 ?_)));refine FA 2 ir lm ?_;refine LA 0 Y4 ?_;refine bh ?_ ?_<;>intro h22;refine P3 ?_;refine FA 3 ir aQ ?_;refine LA 0 Y3 ?_;refine PS ?_;refine aq ?_ ?_<;>intro h28;refine PS ?_;refine nx J8 (CY (ag (P2 ?_)));refine FA 4 ir lm ?_;refine S0 0 lm ?_;refine nx J7 (aa λ_ J9=>sr λ_ J10=>P2 ?_);refine FA 4 ir lm ?_;refine LA 0 Y4 ?_;refine nx J10 (CY (sr λ_ J11=>PS ?_));refine nx J11 (ak (ae (WK [0,0] (aw rfl rfl ?_))));show(if _ then _ else _)
 first
  | (rw[if_pos (by omega)];exact⟨rfl,rfl⟩)
  | (rw[if_neg (by omega),if_pos (by simp_all)];exact⟨rfl,by simp_all<;>rfl⟩)
  | (rw[if_neg (by omega),if_neg (by simp_all)];exact⟨rfl,v61,by simp_all<;>rfl⟩)
 refine PS ?_;refine nx J8 (CN (qx J7 (aa λ_ J12=>sr λ_ J13=>P2 ?_)));refine FA 4 ir lm ?_;refine LA 0 Y4 ?_;refine bh ?_ ?_<;>intro h36;refine nx J13 (CY (sr λ_ J14=>PS ?_));refine nx J14 (ak (ae (WK [0,0] (aw rfl rfl ?_))));show(if _ then _ else _)
 first
  | (rw[if_pos (by omega)];exact⟨rfl,rfl⟩)
  | (rw[if_neg (by omega),if_pos (by simp_all)];exact⟨rfl,by simp_all<;>rfl⟩)
  | (rw[if_neg (by omega),if_neg (by simp_all)];exact⟨rfl,v61,by simp_all<;>rfl⟩)
 refine nx J13 (CN (qx J12 (aa λ_ J15=>sr λ_ J16=>P2 ?_)));refine FA 2 ir lm ?_;refine LA 0 Y4 ?_;refine bh ?_ ?_<;>intro h40;refine nx J16 (CY (ag (P2 ?_)));refine FA 3 ir aQ ?_;refine LA 0 Y3 ?_;refine tp (jV rfl rfl rfl (bO (by omega) (by omega))) ?_;refine PS ?_;refine FA 3 ir aQ ?_;refine S0 0 aQ ?_;refine nx J15 (sr λ_ J17=>PS ?_);refine BV (((.int .i64 (at'))::List.replicate 64 (.int .u8 0)).toArray) ?_;refine XA Gp λb7=>?_
 refine bR (vs:=((.int .i64 (at'))::List.replicate 64 (.int .u8 0))) (i:=0) (ab rfl) rfl rfl rfl rfl rfl mu (by simp[Value.oneCell']) rfl rfl (KJ rfl) rfl rfl (nx J17 (sr λ_ J18=>FA 1 pp pE ?_));refine tp (qE rfl Fy lO rfl) ?_;refine PS ?_;refine M0 (i:=0) (m:=bs.length) (news:=(eS bs)) (H':=[an b7 (cZ (at',eV bs)) 147,an d [(.map (some m)),wv,(.bool (ar)),(.int .i64 (lf-1)),(.bool (dn))] 115,own wv (ws.length) (dN ws) 147 65]) (ab rfl) rfl rfl rfl ia lO rfl rfl rfl rfl (λ_ _=>hF.src (λ_ h=>fC h)) (fy _) (by show 1+min bs.length 64≤65;omega) (zV (by omega)) rfl (nx J18 (aa λ_ J19=>D1 0 el ?_));refine PD 0 ?_;refine PD 1 ?_;refine PD 2 ?_;refine FD 3 1 ir ib ?_;refine ta 5 rfl (aL (vs:=cZ (at',eV bs)) rfl pp rfl mu rfl (λ_ h=>h.2.1) (ct (dG (by omega))) (by rw[bq,aD (by rw[(ct (dG (by omega)))];exact aM _)])) ?_;refine cQ [4,6] (by kernel_rfl) rfl (aH rfl ?_ ?_);refine LA 1 jl ?_;refine EN (AL 6 ?_);refine aZ (cells:=(cZ (at',eV bs)).toArray) (ab rfl) rfl rfl rfl jl my rfl rfl rfl (mL (ct (dG (by omega))) (by simp)) (λb60=>?_);change TL _ _ _ _ _ _ _ _ _ [an b60 (cZ (at',eV bs)) 147,an b7 (cZ (at',eV bs)) 147,an d [(.map (some m)),wv,(.bool (ar)),(.int .i64 (lf-1)),(.bool (dn))] 115,own wv (ws.length) (dN ws) 147 65];refine EN (AL 7 ?_)
 refine cM (k:=3) (news:=cZ (at',eV bs)) (nn':=(ws++[(at',eV bs)]).length) (xs':=dN (ws++[(at',eV bs)])) (ab rfl) rfl rfl rfl jl my rfl rfl rfl rfl rfl rfl (λ_ _=>jU (ct (dG (by omega))) (RO 0) (by rw[bq,aD (aM _)])) (jd _) (by simp only[maxLen];omega) (by omega) (by simp) (by simp[dN]) (λv61 ov61=>EN (PD 8 ?_));refine FD 9 1 ir ib ?_;refine AL 10 ?_;refine cd (i:=2) (ab rfl) rfl rfl rfl rfl ov61 ib rfl rfl (lb rfl) rfl rfl (EN (DN (af J19 (sr λ_ J20=>PS ?_))));refine nx J20 (ak (WK [2,2] (aw rfl rfl ?_)));show(if _ then _ else _)
 first
  | (rw[if_pos (by omega)];exact⟨rfl,rfl⟩)
  | (rw[if_neg (by omega),if_pos (by simp_all)];exact⟨rfl,by simp_all<;>rfl⟩)
  | (rw[if_neg (by omega),if_neg (by simp_all)];exact⟨rfl,v61,by simp_all<;>rfl⟩)
 refine aH rfl ?_ ?_;refine aZ (cells:=(cZ (at',eV bs)).toArray) (ab rfl) rfl rfl rfl jl my rfl rfl rfl (mL (ct (dG (by omega))) (by simp)) (λb60=>?_);change TL _ _ _ _ _ _ _ _ _ [an b60 (cZ (at',eV bs)) 147,an b7 (cZ (at',eV bs)) 147,an d [(.map (some m)),wv,(.bool (ar)),(.int .i64 (lf-1)),(.bool (dn))] 115,own wv (ws.length) (dN ws) 147 65];refine EN (AL 4 ?_);refine LA 2 jl ?_;refine EN (AL 7 ?_);refine cM (k:=3) (news:=cZ (at',eV bs)) (nn':=(ws++[(at',eV bs)]).length) (xs':=dN (ws++[(at',eV bs)])) (ab rfl) rfl rfl rfl jl my rfl rfl rfl rfl rfl rfl (λ_ _=>jU (ct (dG (by omega))) (RO 0) (by rw[bq,aD (aM _)])) (jd _) (by simp only[maxLen];omega) (by omega) (by simp) (by simp[dN]) (λv61 ov61=>EN (PD 8 ?_));refine FD 9 1 ir ib ?_;refine AL 10 ?_;refine cd (i:=2) (ab rfl) rfl rfl rfl rfl ov61 ib rfl rfl (lb rfl) rfl rfl (EN (DN (af J19 (sr λ_ J21=>PS ?_))));refine nx J21 (ak (WK [2,2] (aw rfl rfl ?_)));show(if _ then _ else _)
 first
  | (rw[if_pos (by omega)];exact⟨rfl,rfl⟩)
  | (rw[if_neg (by omega),if_pos (by simp_all)];exact⟨rfl,by simp_all<;>rfl⟩)
  | (rw[if_neg (by omega),if_neg (by simp_all)];exact⟨rfl,v61,by simp_all<;>rfl⟩)
 exact bL;refine nx J16 (CN (qx J15 (sr λ_ J22=>PS ?_)));refine BV (((.int .i64 (at'))::List.replicate 64 (.int .u8 0)).toArray) ?_;refine XA Gp λb7=>?_
 refine bR (vs:=((.int .i64 (at'))::List.replicate 64 (.int .u8 0))) (i:=0) (ab rfl) rfl rfl rfl rfl rfl mu (by simp[Value.oneCell']) rfl rfl (KJ rfl) rfl rfl (nx J22 (sr λ_ J23=>FA 1 pp pE ?_));refine tp (qE rfl Fy lO rfl) ?_;refine PS ?_;refine M0 (i:=0) (m:=bs.length) (news:=(eS bs)) (H':=[an b7 (cZ (at',eV bs)) 147,an d [(.map (some m)),wv,(.bool (ar)),(.int .i64 (lf)),(.bool (dn))] 115,own wv (ws.length) (dN ws) 147 65]) (ab rfl) rfl rfl rfl ia lO rfl rfl rfl rfl (λ_ _=>hF.src (λ_ h=>fC h)) (fy _) (by show 1+min bs.length 64≤65;omega) (zV (by omega)) rfl (nx J23 (aa λ_ J24=>D1 0 el ?_));refine PD 0 ?_;refine PD 1 ?_;refine PD 2 ?_;refine FD 3 1 ir ib ?_;refine ta 5 rfl (aL (vs:=cZ (at',eV bs)) rfl pp rfl mu rfl (λ_ h=>h.2.1) (ct (dG (by omega))) (by rw[bq,aD (by rw[(ct (dG (by omega)))];exact aM _)])) ?_;refine cQ [4,6] (by kernel_rfl) rfl (aH rfl ?_ ?_);refine LA 1 jl ?_;refine EN (AL 6 ?_);refine aZ (cells:=(cZ (at',eV bs)).toArray) (ab rfl) rfl rfl rfl jl my rfl rfl rfl (mL (ct (dG (by omega))) (by simp)) (λb60=>?_);change TL _ _ _ _ _ _ _ _ _ [an b60 (cZ (at',eV bs)) 147,an b7 (cZ (at',eV bs)) 147,an d [(.map (some m)),wv,(.bool (ar)),(.int .i64 (lf)),(.bool (dn))] 115,own wv (ws.length) (dN ws) 147 65];refine EN (AL 7 ?_)
 refine cM (k:=3) (news:=cZ (at',eV bs)) (nn':=(ws++[(at',eV bs)]).length) (xs':=dN (ws++[(at',eV bs)])) (ab rfl) rfl rfl rfl jl my rfl rfl rfl rfl rfl rfl (λ_ _=>jU (ct (dG (by omega))) (RO 0) (by rw[bq,aD (aM _)])) (jd _) (by simp only[maxLen];omega) (by omega) (by simp) (by simp[dN]) (λv61 ov61=>EN (PD 8 ?_));refine FD 9 1 ir ib ?_;refine AL 10 ?_;refine cd (i:=2) (ab rfl) rfl rfl rfl rfl ov61 ib rfl rfl (lb rfl) rfl rfl (EN (DN (af J24 (sr λ_ J25=>PS ?_))));refine nx J25 (ak (WK [2,2] (aw rfl rfl ?_)));show(if _ then _ else _)
 first
  | (rw[if_pos (by omega)];exact⟨rfl,rfl⟩)
  | (rw[if_neg (by omega),if_pos (by simp_all)];exact⟨rfl,by simp_all<;>rfl⟩)
  | (rw[if_neg (by omega),if_neg (by simp_all)];exact⟨rfl,v61,by simp_all<;>rfl⟩)
 refine aH rfl ?_ ?_;refine aZ (cells:=(cZ (at',eV bs)).toArray) (ab rfl) rfl rfl rfl jl my rfl rfl rfl (mL (ct (dG (by omega))) (by simp)) (λb60=>?_);change TL _ _ _ _ _ _ _ _ _ [an b60 (cZ (at',eV bs)) 147,an b7 (cZ (at',eV bs)) 147,an d [(.map (some m)),wv,(.bool (ar)),(.int .i64 (lf)),(.bool (dn))] 115,own wv (ws.length) (dN ws) 147 65];refine EN (AL 4 ?_);refine LA 2 jl ?_;refine EN (AL 7 ?_);refine cM (k:=3) (news:=cZ (at',eV bs)) (nn':=(ws++[(at',eV bs)]).length) (xs':=dN (ws++[(at',eV bs)])) (ab rfl) rfl rfl rfl jl my rfl rfl rfl rfl rfl rfl (λ_ _=>jU (ct (dG (by omega))) (RO 0) (by rw[bq,aD (aM _)])) (jd _) (by simp only[maxLen];omega) (by omega) (by simp) (by simp[dN]) (λv61 ov61=>EN (PD 8 ?_));refine FD 9 1 ir ib ?_;refine AL 10 ?_;refine cd (i:=2) (ab rfl) rfl rfl rfl rfl ov61 ib rfl rfl (lb rfl) rfl rfl (EN (DN (af J24 (sr λ_ J26=>PS ?_))));refine nx J26 (ak (WK [2,2] (aw rfl rfl ?_)));show(if _ then _ else _)
 first
  | (rw[if_pos (by omega)];exact⟨rfl,rfl⟩)
  | (rw[if_neg (by omega),if_pos (by simp_all)];exact⟨rfl,by simp_all<;>rfl⟩)
  | (rw[if_neg (by omega),if_neg (by simp_all)];exact⟨rfl,v61,by simp_all<;>rfl⟩)
 exact bL;refine PS ?_
 iterate 5 refine UF ?_
 refine PS ?_;refine nx J8 (CN (qx J7 (aa λ_ J27=>sr λ_ J28=>P2 ?_)));refine FA 4 ir lm ?_;refine LA 0 Y4 ?_;refine bh ?_ ?_<;>intro h36;refine nx J28 (CY (sr λ_ J29=>PS ?_));refine nx J29 (ak (ae (WK [0,0] (aw rfl rfl ?_))));show(if _ then _ else _)
 first
  | (rw[if_pos (by omega)];exact⟨rfl,rfl⟩)
  | (rw[if_neg (by omega),if_pos (by simp_all)];exact⟨rfl,by simp_all<;>rfl⟩)
  | (rw[if_neg (by omega),if_neg (by simp_all)];exact⟨rfl,v61,by simp_all<;>rfl⟩)
 refine nx J28 (CN (qx J27 (aa λ_ J30=>sr λ_ J31=>P2 ?_)));refine FA 2 ir lm ?_;refine LA 0 Y4 ?_;refine bh ?_ ?_<;>intro h40;refine nx J31 (CY (ag (P2 ?_)));refine FA 3 ir aQ ?_;refine LA 0 Y3 ?_;refine tp (jV rfl rfl rfl (bO (by omega) (by omega))) ?_;refine PS ?_;refine FA 3 ir aQ ?_;refine S0 0 aQ ?_;refine nx J30 (sr λ_ J32=>PS ?_);refine BV (((.int .i64 (at'))::List.replicate 64 (.int .u8 0)).toArray) ?_;refine XA Gp λb7=>?_
 refine bR (vs:=((.int .i64 (at'))::List.replicate 64 (.int .u8 0))) (i:=0) (ab rfl) rfl rfl rfl rfl rfl mu (by simp[Value.oneCell']) rfl rfl (KJ rfl) rfl rfl (nx J32 (sr λ_ J33=>FA 1 pp pE ?_));refine tp (qE rfl Fy lO rfl) ?_;refine PS ?_;refine M0 (i:=0) (m:=bs.length) (news:=(eS bs)) (H':=[an b7 (cZ (at',eV bs)) 147,an d [(.map (some m)),wv,(.bool (ar)),(.int .i64 (lf-1)),(.bool (dn))] 115,own wv (ws.length) (dN ws) 147 65]) (ab rfl) rfl rfl rfl ia lO rfl rfl rfl rfl (λ_ _=>hF.src (λ_ h=>fC h)) (fy _) (by show 1+min bs.length 64≤65;omega) (zV (by omega)) rfl (nx J33 (aa λ_ J34=>D1 0 el ?_));refine PD 0 ?_;refine PD 1 ?_;refine PD 2 ?_;refine FD 3 1 ir ib ?_;refine ta 5 rfl (aL (vs:=cZ (at',eV bs)) rfl pp rfl mu rfl (λ_ h=>h.2.1) (ct (dG (by omega))) (by rw[bq,aD (by rw[(ct (dG (by omega)))];exact aM _)])) ?_;refine cQ [4,6] (by kernel_rfl) rfl (aH rfl ?_ ?_);refine LA 1 jl ?_;refine EN (AL 6 ?_);refine aZ (cells:=(cZ (at',eV bs)).toArray) (ab rfl) rfl rfl rfl jl my rfl rfl rfl (mL (ct (dG (by omega))) (by simp)) (λb60=>?_);change TL _ _ _ _ _ _ _ _ _ [an b60 (cZ (at',eV bs)) 147,an b7 (cZ (at',eV bs)) 147,an d [(.map (some m)),wv,(.bool (ar)),(.int .i64 (lf-1)),(.bool (dn))] 115,own wv (ws.length) (dN ws) 147 65];refine EN (AL 7 ?_)
 refine cM (k:=3) (news:=cZ (at',eV bs)) (nn':=(ws++[(at',eV bs)]).length) (xs':=dN (ws++[(at',eV bs)])) (ab rfl) rfl rfl rfl jl my rfl rfl rfl rfl rfl rfl (λ_ _=>jU (ct (dG (by omega))) (RO 0) (by rw[bq,aD (aM _)])) (jd _) (by simp only[maxLen];omega) (by omega) (by simp) (by simp[dN]) (λv61 ov61=>EN (PD 8 ?_));refine FD 9 1 ir ib ?_;refine AL 10 ?_;refine cd (i:=2) (ab rfl) rfl rfl rfl rfl ov61 ib rfl rfl (lb rfl) rfl rfl (EN (DN (af J34 (sr λ_ J35=>PS ?_))));refine nx J35 (ak (WK [2,2] (aw rfl rfl ?_)));show(if _ then _ else _)
 first
  | (rw[if_pos (by omega)];exact⟨rfl,rfl⟩)
  | (rw[if_neg (by omega),if_pos (by simp_all)];exact⟨rfl,by simp_all<;>rfl⟩)
  | (rw[if_neg (by omega),if_neg (by simp_all)];exact⟨rfl,v61,by simp_all<;>rfl⟩)
 refine aH rfl ?_ ?_;refine aZ (cells:=(cZ (at',eV bs)).toArray) (ab rfl) rfl rfl rfl jl my rfl rfl rfl (mL (ct (dG (by omega))) (by simp)) (λb60=>?_);change TL _ _ _ _ _ _ _ _ _ [an b60 (cZ (at',eV bs)) 147,an b7 (cZ (at',eV bs)) 147,an d [(.map (some m)),wv,(.bool (ar)),(.int .i64 (lf-1)),(.bool (dn))] 115,own wv (ws.length) (dN ws) 147 65];refine EN (AL 4 ?_);refine LA 2 jl ?_;refine EN (AL 7 ?_);refine cM (k:=3) (news:=cZ (at',eV bs)) (nn':=(ws++[(at',eV bs)]).length) (xs':=dN (ws++[(at',eV bs)])) (ab rfl) rfl rfl rfl jl my rfl rfl rfl rfl rfl rfl (λ_ _=>jU (ct (dG (by omega))) (RO 0) (by rw[bq,aD (aM _)])) (jd _) (by simp only[maxLen];omega) (by omega) (by simp) (by simp[dN]) (λv61 ov61=>EN (PD 8 ?_));refine FD 9 1 ir ib ?_;refine AL 10 ?_;refine cd (i:=2) (ab rfl) rfl rfl rfl rfl ov61 ib rfl rfl (lb rfl) rfl rfl (EN (DN (af J34 (sr λ_ J36=>PS ?_))));refine nx J36 (ak (WK [2,2] (aw rfl rfl ?_)));show(if _ then _ else _)
 first
  | (rw[if_pos (by omega)];exact⟨rfl,rfl⟩)
  | (rw[if_neg (by omega),if_pos (by simp_all)];exact⟨rfl,by simp_all<;>rfl⟩)
  | (rw[if_neg (by omega),if_neg (by simp_all)];exact⟨rfl,v61,by simp_all<;>rfl⟩)
 exact bL;refine nx J31 (CN (qx J30 (sr λ_ J37=>PS ?_)));refine BV (((.int .i64 (at'))::List.replicate 64 (.int .u8 0)).toArray) ?_;refine XA Gp λb7=>?_
 refine bR (vs:=((.int .i64 (at'))::List.replicate 64 (.int .u8 0))) (i:=0) (ab rfl) rfl rfl rfl rfl rfl mu (by simp[Value.oneCell']) rfl rfl (KJ rfl) rfl rfl (nx J37 (sr λ_ J38=>FA 1 pp pE ?_));refine tp (qE rfl Fy lO rfl) ?_;refine PS ?_;refine M0 (i:=0) (m:=bs.length) (news:=(eS bs)) (H':=[an b7 (cZ (at',eV bs)) 147,an d [(.map (some m)),wv,(.bool (ar)),(.int .i64 (lf)),(.bool (dn))] 115,own wv (ws.length) (dN ws) 147 65]) (ab rfl) rfl rfl rfl ia lO rfl rfl rfl rfl (λ_ _=>hF.src (λ_ h=>fC h)) (fy _) (by show 1+min bs.length 64≤65;omega) (zV (by omega)) rfl (nx J38 (aa λ_ J39=>D1 0 el ?_));refine PD 0 ?_;refine PD 1 ?_;refine PD 2 ?_;refine FD 3 1 ir ib ?_;refine ta 5 rfl (aL (vs:=cZ (at',eV bs)) rfl pp rfl mu rfl (λ_ h=>h.2.1) (ct (dG (by omega))) (by rw[bq,aD (by rw[(ct (dG (by omega)))];exact aM _)])) ?_;refine cQ [4,6] (by kernel_rfl) rfl (aH rfl ?_ ?_);refine LA 1 jl ?_;refine EN (AL 6 ?_);refine aZ (cells:=(cZ (at',eV bs)).toArray) (ab rfl) rfl rfl rfl jl my rfl rfl rfl (mL (ct (dG (by omega))) (by simp)) (λb60=>?_);change TL _ _ _ _ _ _ _ _ _ [an b60 (cZ (at',eV bs)) 147,an b7 (cZ (at',eV bs)) 147,an d [(.map (some m)),wv,(.bool (ar)),(.int .i64 (lf)),(.bool (dn))] 115,own wv (ws.length) (dN ws) 147 65];refine EN (AL 7 ?_)
 refine cM (k:=3) (news:=cZ (at',eV bs)) (nn':=(ws++[(at',eV bs)]).length) (xs':=dN (ws++[(at',eV bs)])) (ab rfl) rfl rfl rfl jl my rfl rfl rfl rfl rfl rfl (λ_ _=>jU (ct (dG (by omega))) (RO 0) (by rw[bq,aD (aM _)])) (jd _) (by simp only[maxLen];omega) (by omega) (by simp) (by simp[dN]) (λv61 ov61=>EN (PD 8 ?_));refine FD 9 1 ir ib ?_;refine AL 10 ?_;refine cd (i:=2) (ab rfl) rfl rfl rfl rfl ov61 ib rfl rfl (lb rfl) rfl rfl (EN (DN (af J39 (sr λ_ J40=>PS ?_))));refine nx J40 (ak (WK [2,2] (aw rfl rfl ?_)));show(if _ then _ else _)
 first
  | (rw[if_pos (by omega)];exact⟨rfl,rfl⟩)
  | (rw[if_neg (by omega),if_pos (by simp_all)];exact⟨rfl,by simp_all<;>rfl⟩)
  | (rw[if_neg (by omega),if_neg (by simp_all)];exact⟨rfl,v61,by simp_all<;>rfl⟩)
 refine aH rfl ?_ ?_;refine aZ (cells:=(cZ (at',eV bs)).toArray) (ab rfl) rfl rfl rfl jl my rfl rfl rfl (mL (ct (dG (by omega))) (by simp)) (λb60=>?_);change TL _ _ _ _ _ _ _ _ _ [an b60 (cZ (at',eV bs)) 147,an b7 (cZ (at',eV bs)) 147,an d [(.map (some m)),wv,(.bool (ar)),(.int .i64 (lf)),(.bool (dn))] 115,own wv (ws.length) (dN ws) 147 65];refine EN (AL 4 ?_);refine LA 2 jl ?_;refine EN (AL 7 ?_);refine cM (k:=3) (news:=cZ (at',eV bs)) (nn':=(ws++[(at',eV bs)]).length) (xs':=dN (ws++[(at',eV bs)])) (ab rfl) rfl rfl rfl jl my rfl rfl rfl rfl rfl rfl (λ_ _=>jU (ct (dG (by omega))) (RO 0) (by rw[bq,aD (aM _)])) (jd _) (by simp only[maxLen];omega) (by omega) (by simp) (by simp[dN]) (λv61 ov61=>EN (PD 8 ?_));refine FD 9 1 ir ib ?_;refine AL 10 ?_;refine cd (i:=2) (ab rfl) rfl rfl rfl rfl ov61 ib rfl rfl (lb rfl) rfl rfl (EN (DN (af J39 (sr λ_ J41=>PS ?_))));refine nx J41 (ak (WK [2,2] (aw rfl rfl ?_)));show(if _ then _ else _)
 first
  | (rw[if_pos (by omega)];exact⟨rfl,rfl⟩)
  | (rw[if_neg (by omega),if_pos (by simp_all)];exact⟨rfl,by simp_all<;>rfl⟩)
  | (rw[if_neg (by omega),if_neg (by simp_all)];exact⟨rfl,v61,by simp_all<;>rfl⟩)
 exact bL
theorem uu(d m:Nat)(wv:Value)(ar:Bool)(lf:Int):
 DT 41 #[(.pointer (some ⟨d,0,none⟩))] T0 [an d [(.map (some m)),wv,(.bool (ar)),(.int .i64 (lf)),(.bool true)] 115] (RI (.int .i64 4) [an d [(.map (some m)),wv,(.bool (ar)),(.int .i64 (lf)),(.bool true)] 115]):=by
 refine BD 28 Tryz.func41 rfl rfl rfl λw0 F hF=>sr λ_ J1=>PS ?_
 refine nx J1 (aa λ_ J2=>sr λ_ J3=>P2 ?_);refine FA 4 ir lm ?_;refine LA 0 Y4 ?_;refine nx J3 (CY (sr λ_ J4=>PS ?_));exact nx J4 (ak (ae (WK [0] (aw rfl rfl ⟨rfl,rfl⟩))))
theorem xw(d m:Nat)(wv:Value)(s ws:fH)(ar:Bool)(lf:Int)(hw:Whole ws):
 DT 41 #[(.pointer (some ⟨d,0,none⟩))] T0 [an d [(.map (some m)),wv,(.bool (ar)),(.int .i64 (lf)),(.bool false)] 115,gM m (tI s),own wv (ws.length) (dN ws) 147 65] (RI (.int .i64 0) [an d [(.map (some m)),(.slice none 0 0),(.bool (ar)),(.int .i64 (lf)),(.bool false)] 115,gM m (tI (CJ s ws ws.length)),own (.slice none 0 0) 0 [] 147 65]):=by
 refine BD 28 Tryz.func41 rfl rfl rfl λw0 F hF=>sr λ_ J1=>kj 2 rfl rfl (λhwl _=>PS ?_)
 refine nx J1 (aa λ_ J2=>sr λ_ J3=>P2 ?_);refine FA 4 ir lm ?_;refine LA 0 Y4 ?_;refine nx J3 (CN (qx J2 (aa λ_ J4=>sr λ_ J5=>P2 ?_)));refine FA 1 ir ib ?_;refine LA 0 jl ?_;refine tp (dW rfl jl rfl hwl) ?_;refine PS ?_;refine nx J5 (av ?_)
 refine bG (α:=(Nat)×(fH)) (λ⟨k,s'⟩=>k≤ws.length∧s'=CJ s ws k) (λ⟨k,s'⟩=>[(0,(.pointer (some ⟨d,0,none⟩))),(2,(.int .i64 0)),(12,wv),(13,(.int .i64 (((ws.length:Nat):Int)))),(14,(.int .i64 (((k:Nat):Int))))]) (λ⟨k,s'⟩=>[an d [(.map (some m)),wv,(.bool (ar)),(.int .i64 (lf)),(.bool false)] 115,gM m (tI s'),own wv (ws.length) (dN ws) 147 65]) (λ⟨k,s'⟩=>ws.length-k) (0,s)
  ⟨aP _,rfl⟩ SB
  (λ_ s=>s) (λ⟨k,s'⟩ hinv=>?_)
 obtain⟨hk,hs'⟩:=hinv;refine sr λ_ J6=>PS ?_
 refine aq ?_ ?_<;>intro h15;refine kl 2 rfl rfl (by omega) (λg cap hv hcap=>nx J6 (aa λ_ J7=>CY (qx J7 (aa λ_ J8=>av (sr λ_ J9=>tp (ca (r:=k*65) hv rfl jl mu rfl rfl (by omega) (by omega) (by omega)) ?_)))));refine tp (Qf (vs:=cZ (kF ws k)) rfl pp rfl mu rfl (gO 2 rfl hv rfl) (ct (dQ hw (by omega))) (qJ hw (by omega))) ?_;refine XA Gp λb4=>?_
 refine bR (vs:=cZ (kF ws k)) (i:=0) (ab rfl) rfl rfl rfl rfl rfl (by rw[ct (dQ hw (by omega))];exact mu) (jd _) rfl rfl (by rw[ct (dQ hw (by omega))];exact aM _) (jq (Eq.trans (rfl:_=65) (by rw[ct (dQ hw (by omega))]:(cZ (kF ws k)).length=65).symm)) rfl (nx J9 (ag (PS ?_)));refine FA 0 pp aQ ?_;refine LA 0 Y3 ?_;refine FA 1 pp pE ?_;refine tp (aL (vs:=eS (kF ws k).2) rfl Fy rfl pE rfl (RO 0) (by rw[bz];exact dQ hw (by omega)) (vW (dQ hw (by omega)))) ?_;refine CR Mo (pk d m wv s' ar false lf ((kF ws k).1) (kF ws k).2 (by exact dQ hw (by omega))) (SM [1,1]) λvR HR hR=>?_
 subst hR;refine ax (ah (af J8 (ag (AD ?_))));refine PS ?_;refine ax ?_
 exact aN ((k+1,oo s' (kF ws k).1 (kF ws k).2):(Nat)×(fH)) ⟨by omega,by rw[hs'];rfl⟩ (by show ws.length- (k+1)<ws.length-k;omega)
  SB
  (λ_ s=>ao [0,0,1] rfl s)
 refine nx J6 (aa λ_ J10=>CN (bg (aC (aC (bD (af J4 (sr λ_ J11=>P2 ?_)))))));refine FA 1 ir ib ?_;refine S0 0 ib ?_;refine nx J11 (sr λ_ J12=>PS ?_);refine nx J12 (ak (aG (H':=[an d [(.map (some m)),(.slice none 0 0),(.bool (ar)),(.int .i64 (lf)),(.bool false)] 115,gM m (tI s'),own (.slice none 0 0) 0 [] 147 65]) (dP _) (λ_ s=>eF (List.Perm.trans (List.Perm.swap _ _ _) (List.Perm.cons _ (List.Perm.swap _ _ _))) (im 147 65 (ao [0,0] rfl s))) (aw rfl rfl ?_)));obtain rfl:k=ws.length:=by omega
 subst hs';exact⟨rfl,rfl⟩
theorem A0(d m:Nat)(wv:Value)(s ws:fH)(ar dn:Bool)(lf at':Int)(hs2:Whole s)(hw:Whole ws)(hb:ws.length≤1000000000):
 DT 82 #[(.pointer (some ⟨d,0,none⟩)),(.int .i64 (at'))] T0 [an d [(.map (some m)),wv,(.bool (ar)),(.int .i64 (lf)),(.bool (dn))] 115,gM m (tI s),own wv (ws.length) (dN ws) 147 65] (RI (GJ (iU s ws at' ws.length)) [an d [(.map (some m)),wv,(.bool (ar)),(.int .i64 (lf)),(.bool (dn))] 115,gM m (tI s),own wv (ws.length) (dN ws) 147 65]):=by
 refine BD 40 Tryz.func82 rfl rfl rfl λw0 F hF=>sr λ_ J1=>kj 2 rfl rfl (λhwl _=>XA OM λb4=>?_)
 refine nx J1 (aa λ_ J2=>sr λ_ J3=>P2 ?_);refine FA 1 ir ib ?_;refine LA 1 jl ?_;refine tp (dW rfl jl rfl hwl) ?_;refine tp (jV rfl rfl rfl (bO (by omega) (by omega))) ?_;refine PS ?_;refine nx J3 (av ?_)
 refine bG (α:=(Int)) (λp=> -1≤p∧p<ws.length∧iU s ws at' (p+1).toNat=iU s ws at' ws.length) (λp=>[(0,(.pointer (some ⟨d,0,none⟩))),(1,(.int .i64 (at'))),(4,(.pointer (some ⟨b4,0,none⟩))),(5,(.int .i64 (p)))]) (λp=>[an b4 [(.int .u8 0),(.int .u8 0),(.int .u8 0),(.int .u8 0),(.int .u8 0),(.int .u8 0),(.int .u8 0),(.int .u8 0),(.int .u8 0),(.int .u8 0),(.int .u8 0),(.int .u8 0),(.int .u8 0),(.int .u8 0),(.int .u8 0),(.int .u8 0),(.int .u8 0),(.int .u8 0),(.int .u8 0),(.int .u8 0),(.int .u8 0),(.int .u8 0),(.int .u8 0),(.int .u8 0),(.int .u8 0),(.int .u8 0),(.int .u8 0),(.int .u8 0),(.int .u8 0),(.int .u8 0),(.int .u8 0),(.int .u8 0),(.int .u8 0),(.int .u8 0),(.int .u8 0),(.int .u8 0),(.int .u8 0),(.int .u8 0),(.int .u8 0),(.int .u8 0),(.int .u8 0),(.int .u8 0),(.int .u8 0),(.int .u8 0),(.int .u8 0),(.int .u8 0),(.int .u8 0),(.int .u8 0),(.int .u8 0),(.int .u8 0),(.int .u8 0),(.int .u8 0),(.int .u8 0),(.int .u8 0),(.int .u8 0),(.int .u8 0),(.int .u8 0),(.int .u8 0),(.int .u8 0),(.int .u8 0),(.int .u8 0),(.int .u8 0),(.int .u8 0),(.int .u8 0)] 98,an d [(.map (some m)),wv,(.bool (ar)),(.int .i64 (lf)),(.bool (dn))] 115,gM m (tI s),own wv (ws.length) (dN ws) 147 65]) (λp=>(p+1).toNat) (((ws.length:Nat):Int)-1)
  ⟨by omega,by omega,by congr 1;omega⟩ SB
  (λ_ s=>s) (λp hinv=>?_)
 obtain⟨hp1,hp2,hp3⟩:=hinv;refine aa λ_ J4=>sr λ_ J5=>P2 ?_
 refine aq ?_ ?_<;>intro h13;refine kl 3 rfl rfl (by omega) (λg cap hv hcap=>nx J5 (CY (qx J4 (aa λ_ J6=>av (sr λ_ J7=>P2 ?_)))));refine FA 1 ir ib ?_;refine LA 1 jl ?_;refine PS ?_;refine tp (ca (r:=p.toNat*65) hv rfl jl mu rfl rfl (by omega) (by omega) (by omega)) ?_;refine tp (bl (r:=p.toNat*65) rfl pp rfl aQ rfl rfl) ?_;refine tp (de (v:=(.int .i64 ((kF ws p.toNat).1))) rfl Y3 rfl rfl (gO 3 rfl hv rfl) (Gu hw (by omega))) ?_;refine P2 ?_;refine aq ?_ ?_<;>intro h25;refine nx J7 (CY (sr λ_ J8=>P2 ?_));refine FA 1 ir ib ?_;refine LA 1 jl ?_;refine PS ?_;refine tp (ca (r:=p.toNat*65) hv rfl jl mu rfl rfl (by omega) (by omega) (by omega)) ?_;refine tp (bl (r:=p.toNat*65+1) rfl pp rfl pE rfl rfl) ?_;refine tp (Qf (vs:=eS (kF ws p.toNat).2) rfl Fy rfl pE rfl (gO 3 rfl hv rfl) (by rw[bz];exact dQ hw (by omega)) (Gt hw (by omega))) ?_;refine bR (vs:=eS (kF ws p.toNat).2) (i:=0) (ab rfl) rfl rfl rfl rfl rfl (by rw[bz,dQ hw (by omega)];exact pE) (fy _) rfl rfl (by rw[bz,dQ hw (by omega)];exact aM _) (jq (Eq.trans (rfl:_=64) (by rw[bz,dQ hw (by omega)]:(eS (kF ws p.toNat).2).length=64).symm)) rfl (nx J8 (ak (aI (ae (ae (aI (ae (TE.retC (H':=[an d [(.map (some m)),wv,(.bool (ar)),(.int .i64 (lf)),(.bool (dn))] 115,gM m (tI s),own wv (ws.length) (dN ws) 147 65]) rfl rfl Fy rfl pE (RO 0) (by rw[bz];exact dQ hw (by omega)) (λ_ s=>ao [1,1,1] rfl s) ?_))))))));have e:=GV (s:=s) h25
 rw[show p.toNat+1=(p+1).toNat by omega,hp3]at e;exact⟨by rw[e];rfl,rfl⟩;refine nx J7 (CN (aT (ah (af J6 (ag (PS ?_))))));refine tp (jV rfl rfl rfl (bO (by omega) (by omega))) ?_;refine PS ?_;refine ax ?_
 exact aN ((p-1):(Int)) ⟨by omega,by omega,by rw[←hp3,show(p+1).toNat=p.toNat+1 by omega,Et h25];congr 1;omega⟩ (by show(p-1+1).toNat< (p+1).toNat;omega)
  SB
  (λ_ s=>s)
 refine nx J5 (CN (bg (aC (aC (bD (af J2 (sr λ_ J9=>P2 ?_)))))));refine FA 0 ir FK ?_;refine LA 1 DH ?_;refine PS ?_;refine tp (PV.lookup rfl DH Y3 OM rfl rfl (RdM.own 2 rfl rfl) (CK _ _)) ?_;refine bR (vs:=eS (gG s at')) (i:=0) (ab rfl) rfl rfl rfl rfl rfl (by rw[bz,eX hs2];exact pE) (fy _) rfl rfl (by rw[bz,eX hs2];exact aM _) (jq (Eq.trans (rfl:_=64) (by rw[bz,eX hs2]:(eS (gG s at')).length=64).symm)) rfl (nx J9 (ak (TE.retC (H':=[an d [(.map (some m)),wv,(.bool (ar)),(.int .i64 (lf)),(.bool (dn))] 115,gM m (tI s),own wv (ws.length) (dN ws) 147 65]) rfl rfl Fy rfl pE (RO 0) (by rw[bz];exact eX hs2 _) (λ_ s=>ao [1,1,1] rfl s) ?_)));rw[show(p+1).toNat=0 by omega]at hp3;exact⟨by rw[←hp3];rfl,rfl⟩
theorem yo(d m:Nat)(wv:Value)(s ws:fH)(ar dn:Bool)(lf mask torn n:Int)(hs1:Whole s)(hw:Whole ws):
 DT 32 #[(.pointer (some ⟨d,0,none⟩)),(.int .i64 (mask)),(.int .i64 (torn)),(.int .i64 (n))] T0 [an d [(.map (some m)),wv,(.bool (ar)),(.int .i64 (lf)),(.bool (dn))] 115,gM m (tI s),own wv (ws.length) (dN ws) 147 65] (dL (λ_ H=>H=[an d [(.map (some m)),(.slice none 0 0),(.bool false),(.int .i64 0),(.bool false)] 115,gM m (tI (gU mask torn (mO n) s ws ws.length)),own (.slice none 0 0) 0 [] 147 65])):=by
 refine BD 70 Tryz.func32 rfl rfl rfl λw0 F hF=>sr λ_ J1=>kj 2 rfl rfl (λhwl _=>PS ?_)
 refine tp (yB rfl rfl rfl) ?_;refine tp (Qd (v':=(.int .i64 (((mO n:Nat):Int)))) (PV.minI rfl rfl rfl) (congrArg (Value.int .i64) (KV n))) ?_;refine PS ?_;refine nx J1 (aa λ_ J2=>sr λ_ J3=>P2 ?_);refine FA 1 ir ib ?_;refine LA 0 jl ?_;refine tp (dW rfl jl rfl hwl) ?_;refine PS ?_;refine nx J3 (av ?_)
 refine bG (α:=(Nat)×(fH)) (λ⟨k,s'⟩=>k≤ws.length∧s'=gU mask torn (mO n) s ws k) (λ⟨k,s'⟩=>[(0,(.pointer (some ⟨d,0,none⟩))),(1,(.int .i64 (mask))),(2,(.int .i64 (torn))),(3,(.int .i64 (((mO n:Nat):Int)))),(17,wv),(18,(.int .i64 (((ws.length:Nat):Int)))),(19,(.int .i64 (((k:Nat):Int))))]) (λ⟨k,s'⟩=>[an d [(.map (some m)),wv,(.bool (ar)),(.int .i64 (lf)),(.bool (dn))] 115,gM m (tI s'),own wv (ws.length) (dN ws) 147 65]) (λ⟨k,s'⟩=>ws.length-k) (0,s)
  ⟨aP _,rfl⟩ SB
  (λ_ s=>s) (λ⟨k,s'⟩ hinv=>?_)
 obtain⟨hk,hs'⟩:=hinv;have hs2:Whole s':=by rw[hs'];exact hs1.crash hw k hk
 have hcn:=mN n;refine sr λ_ J4=>PS ?_
 refine aq ?_ ?_<;>intro h20;refine kl 2 rfl rfl (by omega) (λg cap hv hcap=>nx J4 (aa λ_ J5=>CY (qx J5 (aa λ_ J6=>av (sr λ_ J7=>PS ?_)))));refine tp (ca (r:=k*65) hv rfl jl mu rfl rfl (by omega) (by omega) (by omega)) ?_;refine tp (Qf (vs:=cZ (kF ws k)) rfl pp rfl mu rfl (gO 2 rfl hv rfl) (ct (dQ hw (by omega))) (qJ hw (by omega))) ?_;refine XA Gp λb9=>?_
 refine PS ?_;refine bR (vs:=cZ (kF ws k)) (i:=0) (ab rfl) rfl rfl rfl rfl rfl (by rw[ct (dQ hw (by omega))];exact mu) (jd _) rfl rfl (by rw[ct (dQ hw (by omega))];exact aM _) (jq (Eq.trans (rfl:_=65) (by rw[ct (dQ hw (by omega))]:(cZ (kF ws k)).length=65).symm)) rfl (nx J7 (sr λ_ J8=>P3 ?_));refine aq ?_ ?_<;>intro h26;refine nx J8 (CY (aa λ_ J9=>r9 (λw=>Frm F w∧w.heap[d]?=some (.cells ([(.map (some m)),wv,(.bool (ar)),(.int .i64 (lf)),(.bool (dn))]).toArray 115 (0,0))∧Hm m (tI s') w∧w.heap[b9]?=some (.cells (cZ (kF ws k)).toArray 147 (0,0))∧True) el rfl (λ_ s=>⟨fC s,s.block 1 (lb rfl) rfl,s.map 2 rfl rfl,s.block 0 (lb rfl) rfl,trivial⟩) (PD 0 ?_)));refine PD 1 ?_;refine FD 2 0 ir FK ?_;refine LX 3 DH (.map (some m)) ?_ (hc:=by exact rfl);refine FD 4 0 pp aQ ?_;refine LX 5 Y3 (.int .i64 ((kF ws k).1)) ?_ (hc:=by exact rfl);refine ta 6 rfl (PV.lookup rfl DH Y3 OM rfl rfl (λ_ h=>h.2.2.1) (CK _ _)) ?_;refine AL 7 ?_;refine XA OM λb10=>?_
 refine ax (vh (λ_ s=>⟨fC s,s.block 2 (lb rfl) rfl,s.map 3 rfl rfl,s.block 1 (lb rfl) rfl,trivial⟩) (AL 8 ?_));refine bR (vs:=eS (gG s' ((kF ws k).1))) (i:=0) (ab rfl) rfl rfl rfl rfl rfl (by rw[bz,eX hs2];exact pE) (fy _) rfl rfl (by rw[bz,eX hs2];exact aM _) (jq (Eq.trans (rfl:_=64) (by rw[bz,eX hs2]:(eS (gG s' ((kF ws k).1))).length=64).symm)) rfl (ax (vh (λ_ s=>⟨fC s,s.block 2 (lb rfl) rfl,s.map 3 rfl rfl,s.block 1 (lb rfl) rfl,trivial⟩) (DN (af J9 (aa λ_ J10=>D1 1 el ?_)))));refine PD 0 ?_;refine ta 1 rfl (P7 (k:=mO n) rfl Fy lO rfl rfl (by omega) (by omega) rfl) ?_;refine FD 2 1 pp pE ?_;refine PD 3 ?_;refine ta 4 rfl (P7 (k:=mO n) rfl Fy lO rfl rfl (by omega) (by omega) rfl) ?_;refine AL 5 ?_;refine M0 (i:=0) (m:=mO n) (news:=((eS (kF ws k).2).take (mO n))) (H':=[an b10 (eS (lv (gG s' ((kF ws k).1)) (kF ws k).2 (mO n))) 98,an b9 (cZ (kF ws k)) 147,an d [(.map (some m)),wv,(.bool (ar)),(.int .i64 (lf)),(.bool (dn))] 115,gM m (tI s'),own wv (ws.length) (dN ws) 147 65]) (ab rfl) rfl rfl rfl ia lO rfl rfl rfl rfl (λ_ _=>jU (by rw[bp,bz,dQ hw (by omega)];have:=mN n;omega) (RO 1) (by rw[bp,bz,dQ hw (by omega)];exact Bu (dQ hw (by omega)) (mN n))) (λu hu=>fy _ u (l9 hu)) (by rw[bz,eX hs2];have:=mN n;omega) (Gz (mN n) (eX hs2 _) (dQ hw (by omega)) (by omega)) rfl (EN (DN (af J10 (ag (PS ?_)))));refine FA 0 pp aQ ?_;refine LA 1 Y3 ?_
 refine tp (aL (vs:=eS (lv (gG s' ((kF ws k).1)) (kF ws k).2 (mO n))) rfl Fy rfl pE rfl (RO 0) (by rw[bz];exact oj (eX hs2 _) (dQ hw (by omega))) (wg (by rw[bz];exact oj (eX hs2 _) (dQ hw (by omega))))) ?_;refine CR Mo (pk d m wv s' ar (dn) lf ((kF ws k).1) (lv (gG s' ((kF ws k).1)) (kF ws k).2 (mO n)) (by exact oj (eX hs2 _) (dQ hw (by omega)))) (SM [2,2]) λvR HR hR=>?_
 subst hR;refine ax (ah (af J6 (ag (AD ?_))));refine PS ?_;refine ax ?_
 exact aN ((k+1,oo s' (kF ws k).1 (lv (gG s' (kF ws k).1) (kF ws k).2 (mO n))):(Nat)×(fH)) ⟨by omega,by rw[hs',gU,jR,if_pos h26]⟩ (by show ws.length- (k+1)<ws.length-k;omega)
  SB
  (λ_ s=>ao [0,0,2] rfl s)
 refine nx J8 (CN (sr λ_ J11=>P2 ?_));refine tp (PV.rem (r:=((k%32:Nat):Int)) rfl rfl rfl (by omega) (by rw[show(32:Int)=((32:Nat):Int)from rfl,←Int.ofNat_tmod])) ?_;refine tp (l7 (r:=mask.fdiv (2^ (k%32))) rfl rfl rfl (by omega) (by congr 2;show min ((k%32:Nat):Int).toNat 64=k%32;omega)) ?_;refine tp (vA (r:=mask.fdiv (2^ (k%32))%2) rfl rfl rfl (PR _)) ?_;refine PS ?_;refine aq ?_ ?_<;>intro h50;refine nx J11 (CY (ag (PS ?_)));refine FA 0 pp aQ ?_;refine LA 0 Y3 ?_;refine FA 1 pp pE ?_;refine tp (aL (vs:=eS (kF ws k).2) rfl Fy rfl pE rfl (RO 0) (by rw[bz];exact dQ hw (by omega)) (vW (dQ hw (by omega)))) ?_;refine CR Mo (pk d m wv s' ar (dn) lf ((kF ws k).1) (kF ws k).2 (by exact dQ hw (by omega))) (SM [1,1]) λvR HR hR=>?_
 subst hR;refine ax (ah (af J6 (ag (AD ?_))));refine PS ?_;refine ax ?_
 exact aN ((k+1,oo s' (kF ws k).1 (kF ws k).2):(Nat)×(fH)) ⟨by omega,by rw[hs',gU,jR,if_neg h26,if_pos h50]⟩ (by show ws.length- (k+1)<ws.length-k;omega)
  SB
  (λ_ s=>ao [0,0,1] rfl s)
 refine nx J11 (CN (aT (ah (af J6 (ag (AD ?_))))));refine PS ?_;refine ax ?_
 exact aN ((k+1,s'):(Nat)×(fH)) ⟨by omega,by rw[gU,jR,if_neg h26,if_neg h50];exact hs'⟩ (by show ws.length- (k+1)<ws.length-k;omega)
  SB
  (λ_ s=>ao [1,1,1] rfl s)
 refine nx J4 (aa λ_ J12=>CN (bg (aC (aC (bD (af J2 (ag ?_)))))))
 iterate 5 refine PS ?_
 refine FA 1 ir ib ?_;refine S0 0 ib ?_;refine PS ?_;refine FA 2 ir lm ?_;refine S0 0 lm ?_;refine PS ?_;refine FA 3 ir aQ ?_;refine S0 0 aQ ?_;refine PS ?_;refine FA 4 ir lm ?_;refine S0 0 lm ?_;refine ax (aG (H':=[an d [(.map (some m)),(.slice none 0 0),(.bool false),(.int .i64 0),(.bool false)] 115,gM m (tI s'),own (.slice none 0 0) 0 [] 147 65]) (dP _) (λ_ s=>eF (List.Perm.trans (List.Perm.swap _ _ _) (List.Perm.cons _ (List.Perm.swap _ _ _))) (im 147 65 (ao [0,0] rfl s))) (bE rfl ?_));obtain rfl:k=ws.length:=by omega
 subst hs';exact rfl
theorem O7:Tryz.prog.eqGuardType Tryz.prog.depth 98=false:=by kernel_rfl
theorem O2:Tryz.prog.keyTypeAt 2 98=true:=by kernel_rfl
theorem Pa:mz Tryz.prog 2 98=some (List.replicate 64 (some .u8)):=by kernel_rfl
theorem Pc:HS Tryz.prog 98=true:=by kernel_rfl
theorem Pb:Tryz.prog.cellsOf 98=64:=by kernel_rfl
abbrev dk(d:Nat)(D:DS):HP:=Og 115 147 d D
theorem Gd(d:Nat)(D:DS):DT 45 #[(.pointer (some ⟨d,0,none⟩))] T0 [dk d D] (RI (.bool D.dn) [dk d (D)]):=Leg.Does.pack (B:=[]) λ⟨m,wv⟩=>
 Leg.Does.withinR (A1 d m wv D.ar D.dn D.lf) (B:=[gM m (tI D.s),own wv D.ws.length (dN D.ws) 147 65]) (λ_ _ _ _=>trivial) (λ_ s=>s) (λv H h=>by
  obtain⟨rfl,rfl⟩:=h
  exact⟨_,λ_ s=>br (H:=[]) (m,wv) (s),rfl,rfl⟩)
theorem ML(d:Nat)(D:DS)(n:Int):DT 30 #[(.pointer (some ⟨d,0,none⟩)), .int .i64 n] T0 [dk d D] (dL (λv H=>True∧H=[dk d (D.arm n)])):=Leg.Does.pack (B:=[]) λ⟨m,wv⟩=>
 Leg.Does.withinR (De d m wv D.ar D.dn D.lf n) (B:=[gM m (tI D.s),own wv D.ws.length (dN D.ws) 147 65]) (λ_ _ _ _=>trivial) (λ_ s=>s) (λv H h=>by
  subst h
  exact⟨_,λ_ s=>br (H:=[]) (m,wv) s,trivial,rfl⟩)
theorem A2(d:Nat)(D:DS)(at':Int)(hD:D.Ok)(hb:D.ws.length≤1000000000):DT 82 #[(.pointer (some ⟨d,0,none⟩)), .int .i64 at'] T0 [dk d D] (RI (GJ (D.read at')) [dk d (D)]):=Leg.Does.pack (B:=[]) λ⟨m,wv⟩=>
 Leg.Does.withinR (A0 d m wv D.s D.ws D.ar D.dn D.lf at' hD.s hD.ws hb) (B:=[]) (λ_ _ _ _=>trivial) (λ_ s=>s) (λv H h=>by
  obtain⟨rfl,rfl⟩:=h
  exact⟨_,λ_ s=>br (H:=[]) (m,wv) (s),rfl,rfl⟩)
theorem Dl(d:Nat)(D:DS)(mask torn n:Int)(hD:D.Ok):DT 32 #[(.pointer (some ⟨d,0,none⟩)), .int .i64 mask, .int .i64 torn, .int .i64 n] T0 [dk d D] (dL (λv H=>True∧H=[dk d (D.crash mask torn n)])):=Leg.Does.pack (B:=[]) λ⟨m,wv⟩=>
 Leg.Does.withinR (yo d m wv D.s D.ws D.ar D.dn D.lf mask torn n hD.s hD.ws) (B:=[]) (λ_ _ _ _=>trivial) (λ_ s=>s) (λv H h=>by
  subst h
  exact⟨_,λ_ s=>br (H:=[]) (m,(.slice none 0 0:Value)) s,trivial,rfl⟩)
theorem Di(d:Nat)(D:DS)(at':Int)(x:Value)(bs:List UInt8)(hD:D.Ok)(hb:D.ws.length≤1000000000):DT 40 #[(.pointer (some ⟨d,0,none⟩)), .int .i64 at',x] (IsW x bs) [dk d D] (RI (.int .i64 (D.write at' bs).1) [dk d ((D.write at' bs).2)]):=Leg.Does.pack (B:=[]) λ⟨m,wv⟩=>
 Leg.Does.withinR (yn d m wv D.ws D.ar D.dn D.lf at' x bs hD.lf hb) (B:=[gM m (tI D.s)]) (λ_ _ h d=>h.more d) (λ_ s=>aE [0,1] rfl s) (λv H h=>by
  unfold DS.write;replace h:(if at'<0∨2048≤at'∨64<bs.length then _ else _):=h;split at h<;>rename_i h1
  · rw[if_pos h1]
    obtain⟨rfl,rfl⟩:=h;exact⟨_,λ_ s=>br (H:=[]) (m,wv) (aE [0,1] rfl s),rfl,rfl⟩
  · rw[if_neg h1]
    split at h<;>rename_i h2
    · rw[if_pos h2]
      obtain⟨rfl,rfl⟩:=h;exact⟨_,λ_ s=>br (H:=[]) (m,wv) (aE [0,1] rfl s),rfl,rfl⟩
    · rw[if_neg h2]
      obtain⟨rfl,wv',rfl⟩:=h
      exact⟨_,λ_ s=>br (H:=[]) (m,wv') (aE [0,1] rfl s),rfl,rfl⟩)
theorem Gc(d:Nat)(D:DS)(hD:D.Ok):DT 41 #[(.pointer (some ⟨d,0,none⟩))] T0 [dk d D] (RI (.int .i64 D.sync.1) [dk d D.sync.2]):=by
 obtain⟨s,ws,ar,lf,dn⟩:=D;cases dn
 · exact Leg.Does.pack (B:=[]) λ⟨m,wv⟩=>Leg.Does.withinR (xw d m wv s ws ar lf hD.ws) (B:=[]) (λ_ _ _ _=>trivial) (λ_ s=>s) (λv H h=>by
    obtain⟨rfl,rfl⟩:=h
    exact⟨_,λ_ s=>br (H:=[]) (m,(.slice none 0 0:Value)) s,rfl,rfl⟩)
 · exact Leg.Does.pack (B:=[]) λ⟨m,wv⟩=>Leg.Does.withinR (uu d m wv ar lf) (B:=[gM m (tI s),own wv ws.length (dN ws) 147 65]) (λ_ _ _ _=>trivial) (λ_ s=>s) (λv H h=>by
    obtain⟨rfl,rfl⟩:=h
    exact⟨_,λ_ s=>br (H:=[]) (m,wv) s,rfl,rfl⟩)
theorem MK:DT 24 #[] T0 [] (dL (λv H=>∃d,v= .pointer (some ⟨d,0,none⟩)∧H=[dk d DS.new])):=
 Leg.Does.withinR Dd (B:=[]) (λ_ _ _ _=>trivial) (λ_ s=>s) (λv H h=>by
  obtain⟨d,m,rfl,rfl⟩:=h
  exact⟨_,λ_ s=>br (H:=[]) (m,(.slice none 0 0:Value)) (eF (List.Perm.trans (List.Perm.swap _ _ _) (List.Perm.cons _ (List.Perm.swap _ _ _))) (im 147 65 s)),d,rfl,rfl⟩)
end Go.Proofs.YtmcjhkbcmmddgaaGreat
end

/-
  Joined texts:what a statement's proof reaches.
-/
import Derived.Laws.MakeOwn
import Derived.OwnWalk
import Derived.OpenShut
import Derived.Deep.Slices
import Derived.ChangeArms
import Derived.WalkSpells
import Derived.Test.YtjblgopghhgflaaGreatPAK2
set_option maxHeartbeats 8000000
set_option maxRecDepth 100000
set_option linter.unusedSimpArgs false
set_option linter.unusedVariables false
section
namespace Leg
open Go Codec Api
theorem yo(v:Value)(n:Nat):madeCells #[v] n=(List.replicate n v).toArray:=by
 unfold madeCells;apply Array.ext
 · simp
 · intro i h1 h2
   simp at h1;simp[Nat.mod_one]
theorem JM(n:Nat):ej (List.replicate n 0)=List.replicate n (.int .u8 0):=by simp[ej]
section
variable {P:Program} {w0:World} {F:Hl} {n:Nat} {ops:Array Oper} {Q:QQ} {D:List Deferred} {L:List (Nat×Value)} {H:List HP} {o:Oper} {l:List Oper} {d:Nat} {S:World→Prop}
theorem TL.mono{H':List HP}(m: ∀h,bG H h→bG H' h)(h:TL P w0 F n ops Q l D L H'):TL P w0 F n ops Q l D L H:=TL.weak (dK _) m h
abbrev cA:= @TL.mono
theorem TL.makeB{t e:TypeId}{x y:Operand}{k k':IntKind}{a b:Int}(m c:Nat)(hw:Want n D ops o L)(ho:o.op= .makeSlice t x y)(hd:o.dst=some d)(hn:Nat.blt d n=true)(ht:P.underlying t=some (.slice e))
 (hi:(P.info? e).map (λi=>(i.zero,i.size,i.bytes))=some (some (.int .u8 0),1,1)) (hx:cK L x=some (.int k a)) (hy:cK L y=some (.int k' b)) (ha:a=(m:Int)) (hb:b=(c:Int)) (h1:m≤c) (h2:c≤281474976710656)
 (h: ∀b,TL P w0 F n ops Q l D ((d, .slice (some ⟨b,0,none⟩) m c)::L) (ak b (ej (List.replicate c 0)) e::H)):TL P w0 F n ops Q (o::l) D L H:=
 mn hw λa w f sm q=>by
  subst ha;subst hb;obtain⟨i,hie,hz0,hs,hb⟩:=info_parts hi;have hr:=run_make (P:=P) w t e i (.int .u8 0) ht hie hz0 k k' (m:Int) (c:Int) (by omega) (by omega) (by rw[hb];omega) (by omega)
  have e1:madeCells (Value.cells (.int .u8 0)) ((c:Int).toNat*i.size)=(ej (List.replicate c 0)).toArray:=by
   rw[hs,fP,Jt,JM];exact yo _ _
  rw[e1]at hr;simp only[Jt]at hr
  have r:(execOp a.eval o).run P w= .ok (.value (.slice (some ⟨w.heap.size,0,none⟩) m c)) (w.alloc (.cells (ej (List.replicate c 0)).toArray e)):=by
   simp only[execOp,ho,f.eval hx,f.eval hy,Sem.run_bind,hr,Result.andThen_ok,Sem.run_pure]
  unfold Oper.wp;rw[r,Oper.upon_value,hd];exact h _ _ _ (f.put (lb hn) _) (sm.trans ⟨rfl,rfl,rfl,by simp⟩) (q.alloc _)
def j5:Value→Nat→Nat→Value
 | .slice a m c,lo,hi=> .slice (if c=lo then a else a.map (·.add lo)) (hi-lo) (c-lo)
 |v,_,_=>v
theorem PV.sliceLH{t e:TypeId}{x y z:Operand}{a:Option Addr}{len cap lo hi:Nat}{k k':IntKind}{i j:Int}(ho:o.op= .slice t x (some y) (some z) none)(ht:P.underlying t=some (.slice e))(hs:(P.info? e).map (·.size)=some 1)
 (hx:cK L x=some (.slice a len cap)) (hy:cK L y=some (.int k i)) (hz:cK L z=some (.int k' j)) (hi':i=(lo:Int)) (hj:j=(hi:Int)) (h1:lo≤hi) (h2:hi≤cap):PV P n D L S o (j5 (.slice a len cap) lo hi):=
 λb w g _=>by
  subst hi';subst hj;simp only[execOp,ho,g.eval hx,Option.map_some,Option.map_none,g.eval hy,g.eval hz,j5]
  by_cases q:cap=lo
  · have e2:hi=lo:=by omega
    subst e2;simp[Instr.sliceAt,Instr.slice,run_underlying ht,Instr.sliceBounds,Instr.sliceBound,asIntOf,ef hs,q]
  · simp[Instr.sliceAt,Instr.slice,run_underlying ht,Instr.sliceBounds,Instr.sliceBound,asIntOf,h1,h2,ef hs,q]
theorem PV.sliceH{t e:TypeId}{x z:Operand}{a:Option Addr}{len cap hi:Nat}{k':IntKind}{j:Int}(ho:o.op= .slice t x none (some z) none)(ht:P.underlying t=some (.slice e))(hs:(P.info? e).map (·.size)=some 1)
 (hx:cK L x=some (.slice a len cap)) (hz:cK L z=some (.int k' j)) (hj:j=(hi:Int)) (h2:hi≤cap):PV P n D L S o (j5 (.slice a len cap) 0 hi):=
 λb w g _=>by
  subst hj;simp only[execOp,ho,g.eval hx,Option.map_some,Option.map_none,g.eval hz,j5]
  by_cases q:cap=0
  · have e2:hi=0:=by omega
    subst e2;simp[Instr.sliceAt,Instr.slice,run_underlying ht,Instr.sliceBounds,Instr.sliceBound,asIntOf,ef hs,q]
  · simp[Instr.sliceAt,Instr.slice,run_underlying ht,Instr.sliceBounds,Instr.sliceBound,asIntOf,h2,ef hs,q]
theorem PV.sliceL{t e:TypeId}{x y:Operand}{a:Option Addr}{len cap lo:Nat}{k:IntKind}{i:Int}(ho:o.op= .slice t x (some y) none none)(ht:P.underlying t=some (.slice e))(hs:(P.info? e).map (·.size)=some 1)
 (hx:cK L x=some (.slice a len cap)) (hy:cK L y=some (.int k i)) (hi:i=(lo:Int)) (h1:lo≤len):PV P n D L S o (j5 (.slice a len cap) lo len):=
 λb w g _=>by
  subst hi;simp only[execOp,ho,g.eval hx,Option.map_some,Option.map_none,g.eval hy,j5]
  by_cases q:cap=lo
  · simp[Instr.sliceAt,Instr.slice,run_underlying ht,Instr.sliceBounds,Instr.sliceBound,asIntOf,h1,ef hs,q]
  · simp[Instr.sliceAt,Instr.slice,run_underlying ht,Instr.sliceBounds,Instr.sliceBound,asIntOf,h1,ef hs,q]
end
theorem IsW.form{v:Value}{bs:List UInt8}{F:Hl}(h:IsW v bs F): ∃a c,v= .slice a bs.length c∧bs.length≤c∧(bs.length=0∨c≤9223372036854775807):=by
 rcases h with(⟨rfl,rfl⟩| ⟨b,off,cap,cs,T,z,rfl,h1,h2,_⟩)| ⟨a,c,rfl,rfl⟩
 · exact⟨_,_,rfl,aH _, .inl rfl⟩
 · exact⟨_,_,rfl,h1, .inr h2⟩
 · exact⟨_,_,rfl,aN _, .inl rfl⟩
theorem IsW.lt{v:Value}{bs:List UInt8}{F:Hl}(h:IsW v bs F):bs.length≤9223372036854775807:=by
 obtain⟨a,c,_,h1,h2⟩:=h.form;omega
theorem IsW.cut{v:Value}{bs:List UInt8}{F:Hl}(h:IsW v bs F){lo hi:Nat}(h1:lo≤hi)(h2:hi≤bs.length):IsW (j5 v lo hi) ((bs.take hi).drop lo) F:=by
 have hl:((bs.take hi).drop lo).length=hi-lo:=by simp;omega
 by_cases e:hi-lo=0
 · obtain⟨a,c,rfl,hc,_⟩:=h.form
   have e0:(bs.take hi).drop lo=[]:=List.eq_nil_of_length_eq_zero (by omega);rw[e0];simp only[j5,e];split
   · cases a with
     |some a=>exact .inr ⟨_,_,rfl,rfl⟩
     |none=>
      rcases h with(⟨h,rfl⟩| ⟨b,off,cap,cs,T,z,h,_⟩)| ⟨a,c,h,_⟩
      · injection h with _ _ h;subst h;exact .inl (.inl ⟨by simp,rfl⟩)
      · simp at h
      · simp at h
   · cases a with
     |some a=>exact .inr ⟨_,_,rfl,rfl⟩
     |none=>
      rcases h with(⟨h,rfl⟩| ⟨b,off,cap,cs,T,z,h,_⟩)| ⟨a,c,h,_⟩
      · injection h with _ _ h;subst h;exact .inl (.inl ⟨by simp,rfl⟩)
      · simp at h
      · simp at h
 · obtain⟨b,off,cap,cs,T,z,rfl,hb,hcs,hc⟩:=h.at (j:=0) (by omega)
   rcases h.form with⟨a,c,hv,_,hm⟩
   injection hv with _ _ hv
   subst hv;refine .inl (.inr ⟨b,off+lo,cap-lo,cs,T,z,?_,by omega,by omega,hb,λj hj=>?_⟩)
   · simp only[j5,hl,if_neg (show ¬cap=lo by omega),Option.map_some,qk]
   · rw[hl]at hj
     rw[pE,hcs (lo+j) (by omega)];congr 2;simp[List.getD_eq_getElem?_getD,List.getElem?_take,show lo+j<hi by omega]
def gL(v:Value)(bs:List UInt8)(e:Nat):HP:=λh=>
 (v= .slice none 0 0∧bs=[]∧h=em)∨∃g off cap cur,v= .slice (some ⟨g,off,none⟩) bs.length cap∧h=sg g (.cells cur e (0,0))∧bs.length≤cap∧cap≤maxLen∧off+cap≤cur.size∧(cur.toList.drop off).take bs.length=ej bs
theorem pT{v:Value}{bs:List UInt8}{e:Nat}{h:Hl}(x:dW v bs e h):gL v bs e h:=by
 rcases x with⟨_,⟨h1,h2,h3⟩| ⟨g,cap,cur,h1,h2,h3,h4,h5,h6⟩⟩
 · exact .inl ⟨h1,List.eq_nil_of_length_eq_zero h2,h3⟩
 · exact .inr ⟨g,0,cap,cur,h1,h2,h3,h4,by omega,by simpa using h6⟩
section
variable {H:List HP} {F:Hl} {v:Value} {bs:List UInt8} {e:Nat}
theorem Am(i:Nat)(hi:Nat.blt i H.length=true)(hH:H.getD i (λ_=>True)=dW v bs e){h:Hl}(s:bG H h):bG (H.set i (gL v bs e)) h:=
 kL i (lb hi) (cG (eZ i (lb hi) s) (λ_ x=>pT (by rwa [hH]at x)) λ_ x=>x)
theorem wz{lo hi nn:Nat}{bs':List UInt8}(i:Nat)(hi':Nat.blt i H.length=true)(hH:H.getD i (λ_=>True)=dW v bs e){g cap:Nat}(hv:v= .slice (some ⟨g,0,none⟩) nn cap)(h1:lo≤hi)(h2:hi≤bs.length)(h3:lo<bs.length)(hb:(bs.take hi).drop lo=bs'){h:Hl}(s:bG H h):
 bG (H.set i (gL (j5 v lo hi) bs' e)) h:=by
 subst hb;have hl:((bs.take hi).drop lo).length=hi-lo:=by simp;omega
 refine kL i (lb hi') (cG (eZ i (lb hi') s) (λ_ x=>?_) λ_ x=>x);rw[hH]at x;rcases x with⟨_,⟨h1,h2,_⟩| ⟨g',cap',cur,h4,h5,h6,h7,h8,h9⟩⟩
 · rw[hv]at h1;simp at h1
 · rw[hv]at h4 ⊢
   simp only[Value.slice.injEq,Option.some.injEq,Addr.mk.injEq,and_true,true_and]at h4;obtain⟨rfl,rfl,rfl⟩:=h4;refine .inr ⟨g,lo,cap-lo,cur,?_,h5,by omega,by omega,by omega,?_⟩
   · simp only[j5,hl,if_neg (show ¬cap=lo by omega),Option.map_some,qk,bg]
   · rw[hl]
     rw[fP]at h9;have e1:=congrArg (λl:List Value=>(l.take hi).drop lo) h9;simp only[Dt,Nat.min_eq_left h2]at e1;rw[←oF,e1];simp[ej,pF,k0]
theorem Sat.sub_form{w:World}(i:Nat)(s:Sat H F w)(hi:Nat.blt i H.length=true)(hH:H.getD i (λ_=>True)=gL v bs e):(v= .slice none 0 0∧bs=[])∨∃g off cap cur,v= .slice (some ⟨g,off,none⟩) bs.length cap∧w.heap[g]?=some (.cells cur e (0,0))∧bs.length≤cap∧cap≤maxLen∧off+cap≤cur.size∧(cur.toList.drop off).take bs.length=ej bs:=by
 obtain⟨h,d,e',x⟩:=s;obtain⟨h1,h2,d',rfl,a,_⟩:=eZ i (lb hi) x;rw[hH]at a;rcases a with⟨x1,x2,_⟩| ⟨g,off,cap,cur,x1,x2,x3⟩
 · exact .inl ⟨x1,x2⟩
 · refine .inr ⟨g,off,cap,cur,x1,?_,x3⟩
   have:hp w g=some (.cells cur e (0,0)):=by
    rw[e',ju];exact hY (by rw[x2];simp[sg])
   exact this
theorem Sat.sub_len{w:World}(i:Nat)(s:Sat H F w)(hi:Nat.blt i H.length=true)(hH:H.getD i (λ_=>True)=gL v bs e):pn v bs.length∧v.oneCell'=true:=by
 rcases s.sub_form i hi hH with⟨rfl,rfl⟩| ⟨g,off,cap,cur,rfl,_⟩
 · exact⟨⟨_,_,rfl⟩,rfl⟩
 · exact⟨⟨_,_,rfl⟩,rfl⟩
theorem Src.sub(i:Nat)(hi:Nat.blt i H.length=true)(hH:H.getD i (λ_=>True)=gL v bs e){w:World}(s:Sat H F w):Src (Sat H F) v bs.length (ej bs) 1:=by
 refine⟨by simp[ej],?_⟩;rcases s.sub_form i hi hH with⟨rfl,rfl⟩| ⟨g,off,cap,cur,rfl,_⟩
 · exact .inl ⟨rfl,rfl⟩
 · refine .inr ⟨⟨g,off,none⟩,cap,rfl,λw s j u hj=>?_⟩
   rcases s.sub_form i hi hH with⟨h1,_⟩| ⟨g',off',cap',cur',h1,h2,h3,h4,h5,h6⟩
   · simp at h1
   · simp only[Value.slice.injEq,Option.some.injEq,Addr.mk.injEq,and_true,true_and]at h1
     obtain⟨⟨rfl,rfl⟩,rfl⟩:=h1;rw[qk];rw[←h6,List.getElem?_take]at hj;split at hj
     · simp only[World.cell?,h2,Option.isSome_none,Bool.false_eq_true,if_false]
       simpa using hj
     · cases hj
theorem AU(i:Nat){B:List HP}(hi:Nat.blt i B.length=true)(hH:B.getD i (λ_=>True)=gL v bs e): ∀g,Dj g F→bG B g→IsB v bs (jn g F):=λg _ s=>by
 obtain⟨h1,h2,d',rfl,a,_⟩:=eZ i (lb hi) s;rw[hH]at a;rcases a with⟨x1,x2,_⟩| ⟨g,off,cap,cur,x1,x2,x3,x4,x5,x6⟩
 · exact .inl ⟨x1,x2⟩
 · refine .inr ⟨g,off,cap,cur.toList,e,(0,0),x1,x3,by simpa [maxLen]using x4,hY (hY (by rw[x2];simp[sg])),λj hj=>?_⟩
   have e1:=congrArg (λl:List Value=>l[j]?) x6;simp only[List.getElem?_take,if_pos hj,List.getElem?_drop]at e1;rw[e1];simp[ej,List.getD_eq_getElem?_getD,hj]
end
theorem tO{P:Program}(w:World)(t ty e:TypeId)(i:TypeInfo)(ht:P.underlying t=some (.slice e))(hi:P.info? e=some i)(g off sLen sCap:Nat)(cur:Array Value)(hg:w.heap[g]?=some (.cells cur e (0,0)))
 (a:Addr) (m c:Nat) (news:List Value) (hl:news.length=m*i.size) (hnews: ∀j u,news[j]?=some u→w.cell? (a.add j)=some u) (h1: ∀u∈news,u.oneCell'=true)
 (hroom:sLen+m≤sCap) (hfit:off+sLen*i.size+news.length≤cur.size):
 (Builtin.append_ #[t,t] ty #[.slice (some ⟨g,off,none⟩) sLen sCap, .slice (some a) m c]).run P w=
  .ok (.slice (some ⟨g,off,none⟩) (sLen+m) sCap) (w.setRow g (cur.toList.take (off+sLen*i.size)++news++cur.toList.drop (off+sLen*i.size+news.length)).toArray):=by
 have hf:=run_firstCells_some (P:=P) w i.size m a m c news hl hnews;have hst:=run_storeCells_at P g (off+sLen*i.size) e news 0 cur w hg (by simpa using hfit) h1;simp only[Jr]at hst;simp[Builtin.append_,run_underlying ht,Go.sizeOf,typeInfo,hi,Builtin.lenOf,hroom,hf,Addr.add_lit,hst]
section
variable {P:Program} {w0:World} {F:Hl} {n:Nat} {ops:Array Oper} {Q:QQ} {D:List Deferred} {L:List (Nat×Value)} {H:List HP} {o:Oper} {l:List Oper} {d:Nat} {S:World→Prop}
theorem Sat.sub_open{w:World}{k:Nat}{v:Value}{bs:List UInt8}{e:TypeId}(s:Sat H F w)(hk:Nat.blt k H.length=true)(hH:H.getD k (λ_=>True)=gL v bs e):
 (v= .slice none 0 0∧bs=[]∧Sat (H.set k (dW (.slice none 0 0) [] e)) F w)∨∃g off cap cur,v= .slice (some ⟨g,off,none⟩) bs.length cap∧Sat (H.set k (AH g (.cells cur e (0,0)))) F w∧bs.length≤cap∧cap≤maxLen∧off+cap≤cur.size∧(cur.toList.drop off).take bs.length=ej bs:=by
 obtain⟨h,d,e',x⟩:=s;obtain⟨h1,h2,d',rfl,a,y⟩:=eZ k (lb hk) x;rw[hH]at a;rcases a with⟨x1,x2,x3⟩| ⟨g,off,cap,cur,x1,x2,x3⟩
 · exact .inl ⟨x1,x2,_,d,e',kL k (lb hk) ⟨h1,h2,d',rfl,⟨rfl, .inl ⟨rfl,rfl,x3⟩⟩,y⟩⟩
 · exact .inr ⟨g,off,cap,cur,x1,⟨_,d,e',kL k (lb hk) ⟨h1,h2,d',rfl,x2,y⟩⟩,x3⟩
theorem Src.of_eq{S':World→Prop}{x:Value}{m size:Nat}{news:List Value}(h:Src S x m news size)(hS: ∀w,S' w→S w):Src S' x m news size:=⟨h.1,h.2.imp id λ⟨a,c,q3,q4⟩=>⟨a,c,q3,λw' s'=>q4 w' (hS w' s')⟩⟩
theorem BY{k:Nat}{q:HP}(hk:Nat.blt k H.length=true)(hH:H.getD k (λ_=>True)=q):H.set k q=H:=by
 rw[←hH,List.getD_eq_getElem?_getD,List.getElem?_eq_getElem (lb hk)];exact List.set_getElem_self _
theorem B6{w:World}{k:Nat}{v x:Value}{bs news:List UInt8}{t ty e:TypeId}(s:Sat H F w)(ht:P.underlying t=some (.slice e))(hi:(P.info? e).map (λi=>(i.zero,i.size,i.bytes))=some (some (.int .u8 0),1,1))
 (hk:Nat.blt k H.length=true) (hH:H.getD k (λ_=>True)=gL v bs e) (hx:Src (Sat H F) x news.length (ej news) 1) (hb:bs.length+news.length≤140737488355328):
 ∃v' w',(Builtin.append_ #[t,t] ty #[v,x]).run P w= .ok v' w'∧Same w w'∧Sat (H.set k (gL v' (bs++news) e)) F w':=by
 rcases s.sub_open hk hH with⟨rfl,rfl,s1⟩| ⟨g,off,cap,cur,rfl,s1,h3,h4,h5,h6⟩
 · have hx':Src (Sat (H.set k (dW (.slice none 0 0) [] e)) F) x news.length (ej news) 1:=hx.of_eq λw' s'=>by
    have:=s'.turn (q:=gL (.slice none 0 0) [] e) k (by simpa using lb hk) λh hh=>by
     rw[gr (lb hk)]at hh;exact pT hh
    rwa [il,BY hk hH]at this
   obtain⟨v',w',r1,r2,r3⟩:=uH (k:=k) (nn:=0) (m:=news.length) (v:= .slice none 0 0) (xs:=ej []) (news:=ej news) (ty:=ty) s1 ht hi rfl (by decide) (by simpa using lb hk) (gr (lb hk) _) hx' (eY _) (by simp only[maxLen];simp at hb;omega) (by simp at hb;omega);refine⟨v',w',r1,r2,?_⟩;rw[il]at r3
   have:=r3.turn (q:=gL v' ([]++news) e) k (by simpa using lb hk) λh hh=>by
    rw[gr (lb hk)]at hh;refine pT ?_;rw[←ji,bg,bO]at hh;exact hh
   rwa [il]at this
 · obtain⟨i,hie,hz0,hsz,hby⟩:=info_parts hi
   obtain⟨hxl,hxx⟩:=hx;have hg:w.heap[g]?=some (.cells cur e (0,0)):=s1.block k (by simpa using lb hk) (gr (lb hk) _)
   by_cases hroom:bs.length+news.length≤cap
   · rcases hxx with⟨rfl,hm⟩| ⟨a0,c,rfl,hc⟩
     · have hn:news=[]:=List.eq_nil_of_length_eq_zero hm
       subst hn;refine⟨_,w,?_,rZ w,by rw[aP,BY hk hH];exact s⟩;simp[Builtin.append_,run_underlying ht,Go.sizeOf,typeInfo,hie,Builtin.lenOf,Builtin.firstCells,loadCells,loadCellsFrom,storeCells,h3]
     · have hfit:off+bs.length*i.size+(ej news).length≤cur.size:=by rw[hsz,fP,ba];omega
       refine⟨_,_,tO (P:=P) w t ty e i ht hie g off bs.length cap cur hg a0 news.length c (ej news) (by rw[hsz,ba,fP]) (λj v hj=>hc w s j v hj) (eY _) hroom hfit,⟨rfl,rfl,rfl,by simp⟩,?_⟩;have h2:=s1.write k (by simpa using lb hk) (gr (lb hk) _) (setRow_heap w g cur (cur.toList.take (off+bs.length*i.size)++ej news++cur.toList.drop (off+bs.length*i.size+(ej news).length)).toArray e _ hg) (λj hj=>setRow_other w g j _ hj);rw[il]at h2
       have h7:=h2.turn (q:=gL (.slice (some ⟨g,off,none⟩) (bs.length+news.length) cap) (bs++news) e) k (by simpa using lb hk) (λh hh=>by
        rw[gr (lb hk)]at hh;rw[hsz,fP,ba]at hh;refine .inr ⟨g,off,cap,_,by rw[ah],hh,by rw[ah];exact hroom,h4,?_,?_⟩
        · simp only[List.size_toArray,ah,bo,eb,Array.length_toList,ba]
          rw[hsz,fP,ba]at hfit;omega
        · simp only[aR]
          rw[gR (by simp only[bo,Array.length_toList];rw[hsz,fP,ba]at hfit;omega),oF,cp,h6,←aR,←ji]
          rw[bZ (by rw[ba];exact aH _),az (by rw[ba];exact aH _)])
       rwa [il]at h7
   · rcases hxx with⟨rfl,hm⟩| ⟨a0,c,rfl,hc⟩
     · omega
     · have holds: ∀j u,(ej bs)[j]?=some u→w.cell? ((⟨g,off,none⟩:Addr).add j)=some u:=λj u hj=>by
        rw[qk];rw[←h6,List.getElem?_take]at hj;split at hj
        · simpa [World.cell?,hg]using hj
        · cases hj
       have hr:=run_append_grow (P:=P) w t ty e i _ ht hie hz0 ⟨g,off,none⟩ bs.length cap (ej bs) (by rw[hsz,ba,fP]) holds a0 news.length c (ej news) (by rw[hsz,ba,fP]) (λj v hj=>hc w s j v hj) (by omega) (by omega) (growslice_fits (by omega) (by rw[hby];omega));refine⟨_,_,hr,⟨rfl,rfl,rfl,by simp⟩,Sat.swap k (lb hk) (s.drew.alloc _) λh hh=>?_⟩;have hge:=grownCap_ge w (bs.length+news.length) cap e;refine .inr ⟨w.heap.size,0,_,_,by rw[ah],hh,by rw[ah];exact hge,grownCap_le_maxLen w (bs.length+news.length) cap e (by simp only[maxLen];omega),?_,?_⟩
       · simp only[Array.size_append,List.size_toArray,size_zeroCells,ba,bg]
         have:(Value.cells (.int .u8 0)).size=1:=rfl;rw[this,fP];omega
       · simp only[Array.toList_append,aR,bd]
         rw[←aR,←ji,←ba (bs++news)];exact tu
theorem TL.appendS{s x:Operand}{k:Nat}{v vx:Value}{bs news bs':List UInt8}{t e:TypeId}(hw:Want n D ops o L)
 (ho:o.op= .call {callee:= .builtin .append,args:=#[s,x],argTypes:=#[t,t]}) (hd:o.dst=some d) (hn:Nat.blt d n=true) (ht:P.underlying t=some (.slice e))
 (hi:(P.info? e).map (λi=>(i.zero,i.size,i.bytes))=some (some (.int .u8 0),1,1)) (hs:cK L s=some v) (hx:cK L x=some vx)
 (hk:Nat.blt k H.length=true) (hH:H.getD k (λ_=>True)=gL v bs e) (hsrc: ∀w,Sat H F w→Src (Sat H F) vx news.length (ej news) 1) (hb:bs.length+news.length≤140737488355328)
 (hxs:bs++news=bs') (h: ∀v',v'.oneCell'=true→TL P w0 F n ops Q l D ((d,v')::L) (H.set k (gL v' bs' e))):TL P w0 F n ops Q (o::l) D L H:=
 mn hw λa w f sm q=>by
  obtain⟨v',w',hr,s',q'⟩:=B6 (ty:=o.type) q ht hi hk hH (hsrc w q) hb;unfold Oper.wp execOp;simp only[ho,resolve,invoke,builtin,Sem.run_bind,Sem.run_pure,Result.andThen_ok,KM,fE,rV,f.eval hs,f.eval hx,hr];rw[Oper.upon_value,hd];subst hxs;have one:v'.oneCell'=true:=(q'.sub_len k (by simpa using hk) (gr (lb hk) _)).2;exact h v' one _ w' (f.put (lb hn) v') (sm.trans s') q'
theorem TL.subLen{v:Value}{bs:List UInt8}{e:Nat}(k:Nat)(hk:Nat.blt k H.length=true)(hH:H.getD k (λ_=>True)=gL v bs e)
 (h:pn v bs.length→v.oneCell'=true→TL P w0 F n ops Q l D L H):TL P w0 F n ops Q l D L H:=yC (λw m=>m.sub_len k hk hH) λ⟨h1,h2⟩=>h h1 h2
end
theorem s9{v:Value}{z:Array Value}(h:v.oneCell'=true)(hz:z.size=1):Instr.fill (λi=>some (i*1,1)) z [(0,v)]=some #[v]:=by
 rw[Instr.fill,zM h];simp only[gI,List.size_toArray,ay,aD,bg,hz,ne_eq,not_true_eq_false,decide_false,Bool.false_or];rw[if_neg (by simp)]
 have:(#[v].zipIdx.foldl (λcs (c,j)=>cs.setIfInBounds (0+j) c) z)=#[v]:=by
  match z,hz with
  | ⟨[x]⟩,_=>rfl
 simp only[bg]at this;simp only[Instr.fill];rw[this]
theorem Cz{x:Value}{bs:List UInt8}{F:Hl}(hx:IsW x bs F)(i:Nat){g T:Nat}{B:List HP}(hi:Nat.blt i B.length=true)(e:B.getD i (λ_=>True)=ak g [x] T): ∀h,Dj h F→bG B h→Ol (.slice (some ⟨g,0,none⟩) 1 1) [bs] (jn h F):=λh d s=>
 .inr (.inr ⟨g,0,1,[x],T,(0,0),rfl,aH _,by decide,sQ i hi e h d s,λj hj=>by
  obtain rfl:j=0:=by simpa using hj
  exact⟨[x],rfl,rfl,x,rfl,hx.more d⟩⟩)
theorem Cy(i n:Nat){g T:Nat}{bs:List UInt8}{B:List HP}{F:Hl}(hn:bs.length=n)(hl:n≤9223372036854775807)(hi:Nat.blt i B.length=true)(e:B.getD i (λ_=>True)=ak g (ej bs) T): ∀h,Dj h F→bG B h→IsB (.slice (some ⟨g,0,none⟩) n n) bs (jn h F):=by
 subst hn;exact Km i hl hi e
def eH(us:List Value)(ls:List (List UInt8))(e:Nat):HP:=λh=>us.length=ls.length∧bG (List.zipWith (λu l=>gL u l e) us ls) h
abbrev my(te e:Nat)(v:Value)(ls:List (List UInt8)):HP:=pack λus:List Value=>[own v ls.length us te 1,eH us ls e]
theorem vQ{α β γ:Type}(f:α→β→γ): ∀(us:List α) (ls:List β) (u:α) (l:β),us.length=ls.length→List.zipWith f (us++[u]) (ls++[l])=List.zipWith f us ls++[f u l]
 | [],[],_,_,_=>rfl
 | [],_::_,_,_,h=>by simp at h
 |_::_,[],_,_,h=>by simp at h
 |x::us,y::ls,u,l,h=>by simp[vQ f us ls u l (by simpa using h)]
theorem uq{us:List Value}{ls:List (List UInt8)}{e:Nat}{u:Value}{l:List UInt8}{H:List HP}{h:Hl}(s:bG (eH us ls e::gL u l e::H) h):bG (eH (us++[u]) (ls++[l]) e::H) h:=by
 have t:=m6.2 s;refine cG t (λh' x=>?_) λ_ x=>x
 obtain⟨h1,h2,d,rfl,⟨hl,a⟩,b⟩:=x;refine⟨by simp[hl],?_⟩;rw[vQ _ _ _ _ _ hl];exact(cd _ _).2 ⟨h1,h2,d,rfl,a,rk b⟩
theorem zO{e:Nat}{H:List HP}{h:Hl}(s:bG H h):bG (eH [] [] e::H) h:=⟨em,h,Dv h,(qV h).symm,⟨rfl,trivial⟩,s⟩
theorem xM: ∀(us:List Value) (ls:List (List UInt8)) (e:Nat) (h:Hl),us.length=ls.length→bG (List.zipWith (λu l=>gL u l e) us ls) h→∀(j:Nat) (hj:j<ls.length),∃u,us[j]?=some u∧∃h1 h2,Dj h1 h2∧h=jn h1 h2∧gL u ls[j] e h1
 | [],[],_,_,_,_,j,hj=>by simp at hj
 | [],_::_,_,_,h,_,_,_=>by simp at h
 |_::_,[],_,_,h,_,_,_=>by simp at h
 |u::us,l::ls,e,h,hl,s,0,_=>by
  obtain⟨h1,h2,d,rfl,a,_⟩:=s;exact⟨u,rfl,h1,h2,d,rfl,a⟩
 |u::us,l::ls,e,h,hl,s,j+1,hj=>by
  obtain⟨h1,h2,d,rfl,_,b⟩:=s;obtain⟨u',e1,g1,g2,d',rfl,a⟩:=xM us ls e h2 (by simpa using hl) b j (by simpa using hj);refine⟨u',by simpa using e1,g1,jn h1 g2,?_,?_,a⟩
  · obtain⟨q1,q2⟩:=nP.1 d
    exact nP.2 ⟨q1.symm,d'⟩
  · rw[nH d,ju,nH (nP.1 d).2]
theorem BI{v:Value}{bs:List UInt8}{e:Nat}{h1 G:Hl}(a:gL v bs e h1)(hG:Le h1 G):IsB v bs G:=by
 rcases a with⟨x1,x2,_⟩| ⟨g,off,cap,cur,x1,x2,x3,x4,x5,x6⟩
 · exact .inl ⟨x1,x2⟩
 · refine .inr ⟨g,off,cap,cur.toList,e,(0,0),x1,x3,by simpa [maxLen]using x4,hG _ _ (by rw[x2];simp[sg]),λj hj=>?_⟩
   have e1:=congrArg (λl:List Value=>l[j]?) x6;simp only[List.getElem?_take,if_pos hj,List.getElem?_drop]at e1;rw[e1];simp[ej,List.getD_eq_getElem?_getD,hj]
theorem uD(te e:Nat){H:List HP}{h:Hl}(s:bG H h):bG (my te e (.slice none 0 0) []::H) h:=bp (p:=λus:List Value=>[own (.slice none 0 0) 0 us te 1,eH us [] e]) [] (gV te 1 (zO s))
theorem uF{te e:Nat}{v' u:Value}{us:List Value}{ls:List (List UInt8)}{l:List UInt8}{H:List HP}{h:Hl}(s:bG (own v' (ls.length+1) (us++[u]) te 1::eH us ls e::gL u l e::H) h):bG (my te e v' (ls++[l])::H) h:=
 bp (p:=λus:List Value=>[own v' (ls++[l]).length us te 1,eH us (ls++[l]) e]) (us++[u]) (cG s (λ_ x=>by simpa using x) λ_ x=>uq x)
section
variable {P:Program} {w0:World} {F:Hl} {n:Nat} {ops:Array Oper} {Q:QQ} {D:List Deferred} {L:List (Nat×Value)} {H:List HP} {l:List Oper}
theorem TL.recsOpen{te e:Nat}{v:Value}{ls:List (List UInt8)}(h: ∀us,TL P w0 F n ops Q l D L (own v ls.length us te 1::eH us ls e::H)):TL P w0 F n ops Q l D L (my te e v ls::H):=
 Lz (λ_ s=>fB s) h
abbrev Ly:= @TL.recsOpen
theorem uE{te e:Nat}{v:Value}{ls:List (List UInt8)}{h:Hl}(s:my te e v ls h):pn v ls.length∧v.oneCell'=true:=by
 obtain⟨us,g1,g2,d2,rfl,a1,_⟩:=s;rcases a1 with⟨q0,⟨q1,q2,_⟩| ⟨g,cap,cur,q1,_⟩⟩
 · subst q1
   have:ls=[]:=List.eq_nil_of_length_eq_zero q2;subst this;exact⟨⟨_,_,rfl⟩,rfl⟩
 · subst q1;exact⟨⟨_,_,rfl⟩,rfl⟩
theorem TL.recsLen{te e:Nat}{v:Value}{ls:List (List UInt8)}(k:Nat)(hk:Nat.blt k H.length=true)(hH:H.getD k (λ_=>True)=my te e v ls)(h:pn v ls.length→v.oneCell'=true→TL P w0 F n ops Q l D L H):TL P w0 F n ops Q l D L H:=
 yC (p:=pn v ls.length∧v.oneCell'=true) (λw ⟨h,d,e',x⟩=>by
  obtain⟨h1,h2,d',rfl,a,_⟩:=eZ k (lb hk) x;rw[hH]at a
  exact uE a) λ⟨h1,h2⟩=>h h1 h2
end
end Leg
namespace Leg
open Go Codec Api
section
variable {P:Program} {w0:World} {F:Hl} {n:Nat} {L:List (Nat×Value)} {H:List HP}
theorem TE.ret3{fn:Func}{post:Ending→List HP→Prop}{t t' t'':Nat}{v v' v'':Value}(hr:fn.results=#[.tmp t, .tmp t', .tmp t''])(e:lk L t=some v)(e':lk L t'=some v')(e'':lk L t''=some v'')(h:post (.returned (.tuple #[v,v',v''])) H):
 TE w0 F n (bodyPost P fn (jS post w0 F)) .ret [] L H:=λa w f s m=>by
 refine bodyPost_ret (results_tmp3 hr _ _ _) f.2.1 ⟨s,H,m,?_⟩;have h1:=f.eval (x:= .tmp t) e;have h2:=f.eval (x:= .tmp t') e';have h3:=f.eval (x:= .tmp t'') e'';rw[show a.tmps.getD t undef=v from h1,show a.tmps.getD t' undef=v' from h2,show a.tmps.getD t'' undef=v'' from h3];exact h
abbrev nq:= @TE.ret3
end
theorem q8{l:List UInt8}{j:Nat}(h:j<l.length):(ej l)[j]?=some (.int .u8 (((l.getD j 0).toNat:Nat):Int)):=by simp[ej,List.getD_eq_getElem?_getD,h]
theorem Kw{a:Addr}{m c k:Nat}(hc:0<c):j5 (.slice (some a) m c) 0 k= .slice (some a) k c:=by
 simp only[j5,if_neg (show ¬c=0 by omega),Option.map_some,PT];rfl
end Leg
namespace Leg
open Go Codec Api
section
variable {P:Program} {w0:World} {F:Hl} {n:Nat} {ops:Array Oper} {Q:QQ} {D:List Deferred} {L:List (Nat×Value)} {H:List HP} {o:Oper} {l:List Oper} {d:Nat} {S:World→Prop}
end
end Leg
end

section
namespace Go.Proofs.YtjblgopghhgflaaGreat
open Go Leg Codec Api
theorem tK:(Tryz.prog.info? 61).map (·.size)=some 870:=by kernel_rfl
theorem oc:(Tryz.prog.info? 116).map (·.size)=some 875:=by kernel_rfl
theorem wn:(Tryz.prog.info? 121).map (·.size)=some 870:=by kernel_rfl
theorem K7:NM 168:=nk Tryz.func168
theorem Nn:NM 179:=nk Tryz.func179
theorem ka(w:Int):
 DT 157 #[(.int .i64 (w))] T0 [] (RI (.bool (cN w)) []):=by
 refine BD 9 Tryz.func157 rfl rfl rfl λw0 F hF=>sr λ_ J1=>PS ?_
 refine nx J1 (sr λ_ J2=>P2 ?_);refine ao ?_ ?_<;>intro h4
 iterate 5 refine PS ?_
 refine nx J2 (ai (av rfl rfl ?_));exact⟨congrArg Value.bool (by unfold cN;first| (rw[decide_eq_decide];omega)| (symm;rw[decide_eq_false_iff_not];omega)| (symm;rw[decide_eq_true_iff];omega)),rfl⟩;refine PS ?_;refine UF ?_;refine UF ?_;refine P2 ?_;refine nx J2 (ai (av rfl rfl ?_));exact⟨congrArg Value.bool (by unfold cN;first| (rw[decide_eq_decide];omega)| (symm;rw[decide_eq_false_iff_not];omega)| (symm;rw[decide_eq_true_iff];omega)),rfl⟩
theorem ly(w:Int):
 DT 79 #[(.int .i64 (w))] T0 [] (RI (.bool (cN w)) []):=by
 refine BD 9 Tryz.func79 rfl rfl rfl λw0 F hF=>sr λ_ J1=>PS ?_
 refine nx J1 (sr λ_ J2=>P2 ?_);refine ao ?_ ?_<;>intro h4
 iterate 5 refine PS ?_
 refine nx J2 (ai (av rfl rfl ?_));exact⟨congrArg Value.bool (by unfold cN;first| (rw[decide_eq_decide];omega)| (symm;rw[decide_eq_false_iff_not];omega)| (symm;rw[decide_eq_true_iff];omega)),rfl⟩;refine PS ?_;refine UF ?_;refine UF ?_;refine P2 ?_;refine nx J2 (ai (av rfl rfl ?_));exact⟨congrArg Value.bool (by unfold cN;first| (rw[decide_eq_decide];omega)| (symm;rw[decide_eq_false_iff_not];omega)| (symm;rw[decide_eq_true_iff];omega)),rfl⟩
theorem iv(w:Int):
 DT 117 #[(.int .i64 (w))] T0 [] (RI (.bool (cN w)) []):=by
 refine BD 9 Tryz.func117 rfl rfl rfl λw0 F hF=>sr λ_ J1=>PS ?_
 refine nx J1 (sr λ_ J2=>P2 ?_);refine ao ?_ ?_<;>intro h4
 iterate 5 refine PS ?_
 refine nx J2 (ai (av rfl rfl ?_));exact⟨congrArg Value.bool (by unfold cN;first| (rw[decide_eq_decide];omega)| (symm;rw[decide_eq_false_iff_not];omega)| (symm;rw[decide_eq_true_iff];omega)),rfl⟩;refine PS ?_;refine UF ?_;refine UF ?_;refine P2 ?_;refine nx J2 (ai (av rfl rfl ?_));exact⟨congrArg Value.bool (by unfold cN;first| (rw[decide_eq_decide];omega)| (symm;rw[decide_eq_false_iff_not];omega)| (symm;rw[decide_eq_true_iff];omega)),rfl⟩
theorem rQ(key n:Int):
 DT 161 #[(.int .i64 (key)),(.int .i64 (n))] T0 [] (RI (.bool (xU key n)) []):=by
 refine BD 19 Tryz.func161 rfl rfl rfl λw0 F hF=>sr λ_ J1=>PS ?_
 refine nx J1 (sr λ_ J2=>P2 ?_);refine ao ?_ ?_<;>intro h6;refine P3 ?_;refine ao ?_ ?_<;>intro h9;refine P4 ?_;refine ao ?_ ?_<;>intro h13;refine P3 ?_;refine CE FJ (lD n) ID ?_;refine P2 ?_;refine nx J2 (ai (WK [] (av rfl rfl ?_)));exact⟨congrArg Value.bool (by simp[xU,lw, *]),rfl⟩;refine P2 ?_;refine UF ?_;refine UF ?_;refine P2 ?_;refine nx J2 (ai (WK [] (av rfl rfl ?_)));exact⟨congrArg Value.bool (by simp[xU,lw, *]),rfl⟩;refine P2 ?_;refine UF ?_;refine UF ?_;refine P2 ?_;refine UF ?_;refine UF ?_;refine P2 ?_;refine nx J2 (ai (WK [] (av rfl rfl ?_)));exact⟨congrArg Value.bool (by simp[xU,lw, *]),rfl⟩;refine PS ?_;refine UF ?_;refine UF ?_;refine P2 ?_;refine UF ?_;refine UF ?_;refine P2 ?_;refine UF ?_;refine UF ?_;refine P2 ?_;refine nx J2 (ai (WK [] (av rfl rfl ?_)));exact⟨congrArg Value.bool (by simp[xU,lw, *]),rfl⟩
theorem Hb(b off T:Nat)(cs:List Value)(n:Int)(h:cs[off]?=some (.int .i64 n)):
 DT 163 #[(.pointer (some ⟨b,off,none⟩))] T0 [ak b (cs) T] (RI (.tuple #[.int .i64 n, .pointer (some ⟨b,off,none⟩)]) [ak b cs T]):=by
 refine BD 11 Tryz.func163 rfl rfl rfl λw0 F hF=>sr λ_ J1=>P2 ?_
 refine nx J1 (aa λ_ J2=>D1 0 bm ?_);refine PD 0 ?_;refine PD 1 ?_;refine ta 2 rfl (aY (r:=off) rfl mV rfl aQ rfl rfl) ?_;refine LX 3 Y3 (.int .i64 (n)) ?_ (hc:=by exact h);refine PD 4 ?_;refine PD 5 ?_;refine ta 6 rfl (aY (r:=off) rfl mV rfl aQ rfl rfl) ?_;refine PD 7 ?_;refine PD 8 ?_;exact DN (ac J2 (ai (WK [0] (iP rfl rfl rfl ⟨rfl,rfl⟩))))
theorem Hq(b off T:Nat)(cs:List Value)(n:Int)(h:cs[off+1]?=some (.int .i64 n)):
 DT 164 #[(.pointer (some ⟨b,off,none⟩))] T0 [ak b (cs) T] (RI (.tuple #[.int .i64 n, .pointer (some ⟨b,off+1,none⟩)]) [ak b cs T]):=by
 refine BD 11 Tryz.func164 rfl rfl rfl λw0 F hF=>sr λ_ J1=>P2 ?_
 refine nx J1 (aa λ_ J2=>D1 0 bm ?_);refine PD 0 ?_;refine PD 1 ?_;refine ta 2 rfl (aY (r:=off+1) rfl mV rfl aQ rfl rfl) ?_;refine LX 3 Y3 (.int .i64 (n)) ?_ (hc:=by exact h);refine PD 4 ?_;refine PD 5 ?_;refine ta 6 rfl (aY (r:=off+1) rfl mV rfl aQ rfl rfl) ?_;refine PD 7 ?_;refine PD 8 ?_;exact DN (ac J2 (ai (WK [0] (iP rfl rfl rfl ⟨rfl,rfl⟩))))
theorem ED(b off T tb:Nat)(cs:List Value)(g:Vector Int 5)(to':Int)(ht:0≤to'∧to'<5)(h:(cs.drop (off+2)).take 5=ints g.toList):
 DT 165 #[(.pointer (some ⟨b,off,none⟩)),(.pointer (some ⟨tb,0,none⟩))] T0 [ak b (cs) T,ak tb [(.int .i64 (to'))] 3] (RI (.tuple #[.int .i64 (g.toList.foldl (λs g=>fY (s+g)) 0), .pointer (some ⟨b,off+2+to'.toNat,none⟩)]) [ak b cs T,ak tb [.int .i64 to'] 3]):=by
 refine BD 25 Tryz.func165 rfl rfl rfl λw0 F hF=>sr λ_ J1=>P2 ?_
 refine nx J1 (sr λ_ J2=>PS ?_);refine nx J2 (aa λ_ J3=>sr λ_ J4=>P2 ?_);refine tp (aY (r:=off+2) rfl mV rfl e8 rfl rfl) ?_;refine tp (aM (vs:=ints g.toList) rfl jU rfl e8 rfl (RO 0) (dv g) h) ?_;refine PS ?_;refine nx J4 (aq ?_)
 refine bw (α:=(Nat)×(Int)) (λ⟨k,s⟩=>k≤5∧s=(g.toList.take k).foldl (λs g=>fY (s+g)) 0) (λ⟨k,s⟩=>[(0,(.pointer (some ⟨b,off,none⟩))),(1,(.pointer (some ⟨tb,0,none⟩))),(3,(.int .i64 0)),(4,(.pointer none)),(5,(.int .i64 (s))),(11,(.agg (ints g.toList).toArray)),(12,(.int .i64 (((k:Nat):Int))))]) (λ⟨k,s⟩=>[ak b (cs) T,ak tb [(.int .i64 (to'))] 3]) (λ⟨k,s⟩=>5-k) (0,0)
  ⟨aN _,rfl⟩ SB
  (λ_ s=>s) (λ⟨k,s⟩ hinv=>?_)
 obtain⟨hk,hs⟩:=hinv;refine sr λ_ J5=>PS ?_
 refine ao ?_ ?_<;>intro h13;refine nx J5 (aa λ_ J6=>CY (qx J6 (aa λ_ J7=>aq (sr λ_ J8=>tp (kZ (cs:=ints g.toList) (v:=Value.int .i64 (g[k]'(by omega))) (r:=k) rfl jU Y3 rfl aQ rfl rfl (by omega) (by omega) (by omega) (kn g (by omega))) ?_))));refine PS ?_;refine nx J8 (ae (P2 ?_));refine tp (cC (r:=(fY (s+(g[k]'(by omega))))) rfl rfl rfl rfl) ?_;refine PS ?_;refine au (ag (ac J7 (ae (AD ?_))));refine PS ?_;refine au ?_
 exact aK ((k+1,(fY (s+(g[k]'(by omega))))):(Nat)×(Int)) ⟨by omega,by rw[cv (by simp;omega),ei,←hs];simp⟩ (by show 5- (k+1)<5-k;omega)
  SB
  (λ_ s=>s)
 refine nx J5 (aa λ_ J9=>CN (aX (aA (aA (br (ac J3 (aa λ_ J10=>D1 1 bm ?_)))))));refine PD 0 ?_;refine PD 1 ?_;refine LX 2 Y3 (.int .i64 (to')) ?_ (hc:=by exact rfl);refine PD 3 ?_;refine ta 4 rfl (aY (r:=off+2) rfl mV rfl e8 rfl rfl) ?_;refine IY 5 (off+2+(to').toNat) jU aQ ?_;refine PD 6 ?_;refine PD 7 ?_;refine DN (ac J10 (ai (WK [0,0] (iP rfl rfl rfl ?_))));exact⟨by rw[hs,az (by simp;omega)],rfl⟩
theorem AP(x:RowT)(key n:Int)(hk:0≤key∧key<4)(hn:1≤n∧n≤1099511627776):
 DT 162 #[(.agg (ints x.flat).toArray),(.int .i64 (key)),(.int .i64 (n)),(.func (.func 163) #[] #[])] T0 [] (RI (.tuple #[.agg (ints (kP x key n (dD x key).inn {dD x key with inn:=fY ((dD x key).inn+n)}).1.flat).toArray, .int .i64 (kP x key n (dD x key).inn {dD x key with inn:=fY ((dD x key).inn+n)}).2]) []):=by
 refine BD 36 Tryz.func162 rfl rfl rfl λw0 F hF=>?_
 have hkb:lw key=true:=decide_eq_true hk;have hcell:dD x key=x.cells[key.toNat]'(by omega):=by rw[dD,dif_pos hkb]
 refine sr λ_ J1=>XY (ints x.flat) λb4=>?_
 refine XZ vf (ints RowT.zero.flat) λb8=>?_
 refine PS ?_;refine nx J1 (sr λ_ J2=>P2 ?_);refine FA 1 ee lH ?_;refine IX (1+key.toNat*7) Bm fF ?_;refine TL.callRv (ab rfl) rfl rfl rfl rfl Nz rfl (Hb b4 (1+key.toNat*7) 60 (ints x.flat) x.cells[key.toNat].inn (vu x (key.toNat*7) (by omega) (by omega) (n5 bA x.cells (i:=key.toNat) 0 (by omega) (by omega) (by decide) (rX _ rfl)))) (λ_ s=>aC [1] rfl s) (λ_ _ _=>trivial) (λvR HR hR=>?_);obtain⟨rfl,rfl⟩:=hR;refine P4 ?_;refine PS ?_;refine nx J2 (aa λ_ J3=>sr λ_ J4=>P2 ?_);refine tp (jd (r:=(1099511627776-n)) rfl rfl rfl (bV (by omega) (by omega))) ?_;refine PS ?_;refine ao ?_ ?_<;>intro h23;refine nx J4 (CY (sr λ_ J5=>BV ((ints RowT.zero.flat).toArray) ?_));refine SW 1 be aj ?_;refine PS ?_;refine nx J5 (ai (af (RT 1 [] ee be (aj _) ?_)));exact⟨by rw[kP,hcell,if_pos h23],rfl⟩;refine nx J4 (CN (qx J3 (sr λ_ J6=>P2 ?_)));refine LT 0 Y3 (.int .i64 ((x.cells[key.toNat]'(by omega)).inn)) ?_ (hc:=by exact vu x (key.toNat*7) (by omega) (by omega) (n5 bA x.cells (i:=key.toNat) 0 (by omega) (by omega) (by decide) (rX (x.cells[key.toNat]'(by omega)) rfl)));refine PS ?_;refine tp (cC (r:=(fY (((x.cells[key.toNat]'(by omega)).inn)+n))) rfl rfl rfl rfl) ?_;refine PS ?_
 refine bF (i:=0) (ab rfl) rfl rfl rfl rfl rfl aQ rfl rfl (LB (aj _)) (Pt x (key.toNat*7) (by omega) (by omega) (HS bA x.cells (i:=key.toNat) 0 (by omega) (by omega) (by decide) (CellT.set_inn _ rfl _))) rfl (nx J6 (sr λ_ J7=>FA 0 ee aQ ?_));refine LT 0 Y3 (.int .i64 (x.version)) ?_ (hc:=by exact cH _ rfl);refine tp (cC (r:=(fY (x.version+1))) rfl rfl rfl rfl) ?_;refine FA 0 ee aQ ?_;refine bF (i:=0) (ab rfl) rfl rfl rfl rfl rfl aQ rfl rfl (LB (aj _)) (xY _ rfl _) rfl (nx J7 (sr λ_ J8=>LW 0 ee be aj ?_));refine SW 1 be aj ?_;refine PS ?_;refine nx J8 (ai (RT 1 [] ee be (aj _) ?_));refine⟨?_,rfl⟩;rw[kP,hcell,if_neg h23,iY,dif_pos hkb]
theorem AQ(x:RowT)(key n:Int)(hk:0≤key∧key<4)(hn:1≤n∧n≤1099511627776):
 DT 162 #[(.agg (ints x.flat).toArray),(.int .i64 (key)),(.int .i64 (n)),(.func (.func 164) #[] #[])] T0 [] (RI (.tuple #[.agg (ints (kP x key n (dD x key).out {dD x key with out:=fY ((dD x key).out+n)}).1.flat).toArray, .int .i64 (kP x key n (dD x key).out {dD x key with out:=fY ((dD x key).out+n)}).2]) []):=by
 refine BD 36 Tryz.func162 rfl rfl rfl λw0 F hF=>?_
 have hkb:lw key=true:=decide_eq_true hk;have hcell:dD x key=x.cells[key.toNat]'(by omega):=by rw[dD,dif_pos hkb]
 refine sr λ_ J1=>XY (ints x.flat) λb4=>?_
 refine XZ vf (ints RowT.zero.flat) λb8=>?_
 refine PS ?_;refine nx J1 (sr λ_ J2=>P2 ?_);refine FA 1 ee lH ?_;refine IX (1+key.toNat*7) Bm fF ?_;refine TL.callRv (ab rfl) rfl rfl rfl rfl Ny rfl (Hq b4 (1+key.toNat*7) 60 (ints x.flat) x.cells[key.toNat].out (vu x (key.toNat*7+1) (by omega) (by omega) (n5 bA x.cells (i:=key.toNat) 1 (by omega) (by omega) (by decide) (rW _ rfl)))) (λ_ s=>aC [1] rfl s) (λ_ _ _=>trivial) (λvR HR hR=>?_);obtain⟨rfl,rfl⟩:=hR;refine P4 ?_;refine PS ?_;refine nx J2 (aa λ_ J3=>sr λ_ J4=>P2 ?_);refine tp (jd (r:=(1099511627776-n)) rfl rfl rfl (bV (by omega) (by omega))) ?_;refine PS ?_;refine ao ?_ ?_<;>intro h23;refine nx J4 (CY (sr λ_ J5=>BV ((ints RowT.zero.flat).toArray) ?_));refine SW 1 be aj ?_;refine PS ?_;refine nx J5 (ai (af (RT 1 [] ee be (aj _) ?_)));exact⟨by rw[kP,hcell,if_pos h23],rfl⟩;refine nx J4 (CN (qx J3 (sr λ_ J6=>P2 ?_)));refine LT 0 Y3 (.int .i64 ((x.cells[key.toNat]'(by omega)).out)) ?_ (hc:=by exact vu x (key.toNat*7+1) (by omega) (by omega) (n5 bA x.cells (i:=key.toNat) 1 (by omega) (by omega) (by decide) (rW (x.cells[key.toNat]'(by omega)) rfl)));refine PS ?_;refine tp (cC (r:=(fY (((x.cells[key.toNat]'(by omega)).out)+n))) rfl rfl rfl rfl) ?_;refine PS ?_
 refine bF (i:=0) (ab rfl) rfl rfl rfl rfl rfl aQ rfl rfl (LB (aj _)) (Pt x (key.toNat*7+1) (by omega) (by omega) (HS bA x.cells (i:=key.toNat) 1 (by omega) (by omega) (by decide) (CellT.set_out _ rfl _))) rfl (nx J6 (sr λ_ J7=>FA 0 ee aQ ?_));refine LT 0 Y3 (.int .i64 (x.version)) ?_ (hc:=by exact cH _ rfl);refine tp (cC (r:=(fY (x.version+1))) rfl rfl rfl rfl) ?_;refine FA 0 ee aQ ?_;refine bF (i:=0) (ab rfl) rfl rfl rfl rfl rfl aQ rfl rfl (LB (aj _)) (xY _ rfl _) rfl (nx J7 (sr λ_ J8=>LW 0 ee be aj ?_));refine SW 1 be aj ?_;refine PS ?_;refine nx J8 (ai (RT 1 [] ee be (aj _) ?_));refine⟨?_,rfl⟩;rw[kP,hcell,if_neg h23,iY,dif_pos hkb]
theorem yn(x:RowT)(key n:Int)(hk:0≤key∧key<4)(hn:1≤n∧n≤1099511627776)(tb:Nat)(to':Int)(ht:0≤to'∧to'<5):
 DT 162 #[(.agg (ints x.flat).toArray),(.int .i64 (key)),(.int .i64 (n)),(.func (.func 165) #[] #[(.pointer (some ⟨tb,0,none⟩))])] T0 [ak tb [(.int .i64 (to'))] 3] (RI (.tuple #[.agg (ints (kP x key n (H0 (dD x key)) (xq (dD x key) to' (fY (lE (dD x key) to'+n)))).1.flat).toArray, .int .i64 (kP x key n (H0 (dD x key)) (xq (dD x key) to' (fY (lE (dD x key) to'+n)))).2]) [ak tb [.int .i64 to'] 3]):=by
 refine Leg.Does.body (vs:=[(.agg (ints x.flat).toArray),(.int .i64 (key)),(.int .i64 (n)),(.func (.func 165) #[] #[(.pointer (some ⟨tb,0,none⟩))])]) (n:=36) Tryz.func162 rfl rfl rfl (λw0 F hF=>?_);have hkb:lw key=true:=decide_eq_true hk;have hcell:dD x key=x.cells[key.toNat]'(by omega):=by rw[dD,dif_pos hkb]
 have htb:cN to'=true:=decide_eq_true ht;refine sr λ_ J1=>?_
 refine TL.box (ab rfl) rfl rfl rfl rfl (λb4=>?_);change TL _ _ _ _ _ _ _ _ _ [ak b4 (ints x.flat) 60,ak tb [(.int .i64 (to'))] 3];refine qn (ab rfl) rfl rfl rfl vf (λb8=>?_);change TL _ _ _ _ _ _ _ _ _ [ak b8 (ints RowT.zero.flat) 60,ak b4 (ints x.flat) 60,ak tb [(.int .i64 (to'))] 3];refine pC ?_;refine nx J1 ?_;refine sr λ_ J2=>?_
 refine mv ?_;refine mv ?_;refine tp (aY (r:=1) rfl ee rfl lH rfl rfl) ?_;refine tp (eT (r:=1+key.toNat*7) rfl Bm fF rfl rfl (by omega) (by omega) (by omega)) ?_;refine TL.callRv (ab rfl) rfl rfl rfl rfl Nx rfl (ED b4 (1+key.toNat*7) 60 tb (ints x.flat) x.cells[key.toNat].given to' ht (Ds x (key.toNat*7+2) (by omega) (by omega) (kE bA x.cells (i:=key.toNat) 2 (by omega) (by omega) (by decide) (CellT.sub_given (x.cells[key.toNat]'(by omega)) 0 rfl (by decide) (whole (dv ((x.cells[key.toNat]'(by omega)).given))))))) (λ_ s=>aC [1,1] rfl s) (λ_ _ _=>trivial) (λvR HR hR=>?_);obtain⟨rfl,rfl⟩:=hR;refine mv ?_;refine tp (l9 (vs:=[(.int .i64 ((H0 (x.cells[key.toNat]'(by omega))))),(.pointer (some ⟨b4,1+key.toNat*7+2+to'.toNat,none⟩))]) rfl rfl rfl) ?_;refine tp (l9 (vs:=[(.int .i64 ((H0 (x.cells[key.toNat]'(by omega))))),(.pointer (some ⟨b4,1+key.toNat*7+2+to'.toNat,none⟩))]) rfl rfl rfl) ?_;refine pC ?_;refine pC ?_;refine nx J2 ?_;refine aa λ_ J3=>?_
 refine sr λ_ J4=>?_
 refine mv ?_;refine mv ?_;refine tp (jd (r:=(1099511627776-n)) rfl rfl rfl (bV (by omega) (by omega))) ?_;refine tp (PV.gtr rfl rfl rfl) ?_;refine ao (λh23=>?_) (λh23=>?_);refine nx J4 ?_;refine ny rfl ?_;refine sr λ_ J5=>?_
 refine tp (j8 (cells:=(ints RowT.zero.flat).toArray) rfl rfl (by as_aux_lemma=>kernel_rfl)) ?_;refine bN (vs:=ints RowT.zero.flat) (i:=2) (ab rfl) rfl rfl rfl rfl rfl (by rw[(aj RowT.zero)];exact be) (bC _) rfl rfl (by have h0:=(aj RowT.zero);have h1:=(aj RowT.zero);omega) (ct ((aj RowT.zero).trans (aj RowT.zero).symm)) rfl ?_;refine pC ?_;refine nx J5 ?_;refine ai ?_;refine af ?_;refine l6 (H':=[ak tb [(.int .i64 (to'))] 3]) rfl rfl rfl ee rfl be (fi 2 rfl rfl) (aj RowT.zero) (λ_ s=>am [1] rfl s) ?_;exact⟨by rw[kP,hcell,if_pos h23],rfl⟩;refine nx J4 ?_;refine F2 rfl ?_;refine aU ?_;refine ac J3 ?_;refine sr λ_ J6=>?_
 refine mv ?_;refine tp (gk rfl rfl) ?_;refine tp (ii (v:=(.int .i64 ((((x.cells[key.toNat]'(by omega)).given)[to'.toNat]'(by omega))))) rfl Y3 rfl rfl (fi 0 rfl rfl) (vu x (key.toNat*7+2+to'.toNat) (by omega) (by omega) (n5 bA x.cells (i:=key.toNat) (2+to'.toNat) (by omega) (by omega) (by omega) (Ot (x.cells[key.toNat]'(by omega)) (to'.toNat) (by omega) (by omega) (kn ((x.cells[key.toNat]'(by omega)).given) (by omega)))))) ?_;refine mv ?_;refine tp (cC (r:=(fY ((((x.cells[key.toNat]'(by omega)).given)[to'.toNat]'(by omega))+n))) rfl rfl rfl rfl) ?_;refine tp (gk rfl rfl) ?_;refine bF (i:=0) (ab rfl) rfl rfl rfl rfl rfl aQ rfl rfl (by have h0:=(aj x);omega) (Pt x (key.toNat*7+2+to'.toNat) (by omega) (by omega) (HS bA x.cells (i:=key.toNat) (2+to'.toNat) (by omega) (by omega) (by omega) (CellT.st_given (x.cells[key.toNat]'(by omega)) (to'.toNat) (by omega) (by omega) (yV ((x.cells[key.toNat]'(by omega)).given) (by omega) _)))) rfl ?_;refine nx J6 ?_;refine sr λ_ J7=>?_
 refine tp (aY (r:=0) rfl ee rfl aQ rfl rfl) ?_;refine tp (ii (v:=(.int .i64 (x.version))) rfl Y3 rfl rfl (fi 0 rfl rfl) (cH (RowT.mk x.version (x.cells.set key.toNat (CellT.mk ((x.cells[key.toNat]'(by omega)).inn) ((x.cells[key.toNat]'(by omega)).out) (((x.cells[key.toNat]'(by omega)).given).set to'.toNat (fY ((((x.cells[key.toNat]'(by omega)).given)[to'.toNat]'(by omega))+n)) (by omega))) (by omega)) x.heir x.left) rfl)) ?_;refine tp (cC (r:=(fY (x.version+1))) rfl rfl rfl rfl) ?_;refine tp (aY (r:=0) rfl ee rfl aQ rfl rfl) ?_;refine bF (i:=0) (ab rfl) rfl rfl rfl rfl rfl aQ rfl rfl (by have h0:=(aj (RowT.mk x.version (x.cells.set key.toNat (CellT.mk ((x.cells[key.toNat]'(by omega)).inn) ((x.cells[key.toNat]'(by omega)).out) (((x.cells[key.toNat]'(by omega)).given).set to'.toNat (fY ((((x.cells[key.toNat]'(by omega)).given)[to'.toNat]'(by omega))+n)) (by omega))) (by omega)) x.heir x.left));omega) (xY (RowT.mk x.version (x.cells.set key.toNat (CellT.mk ((x.cells[key.toNat]'(by omega)).inn) ((x.cells[key.toNat]'(by omega)).out) (((x.cells[key.toNat]'(by omega)).given).set to'.toNat (fY ((((x.cells[key.toNat]'(by omega)).given)[to'.toNat]'(by omega))+n)) (by omega))) (by omega)) x.heir x.left) rfl _) rfl ?_;refine nx J7 ?_;refine sr λ_ J8=>?_
 refine tp (aM (vs:=ints (RowT.mk (fY (x.version+1)) (x.cells.set key.toNat (CellT.mk ((x.cells[key.toNat]'(by omega)).inn) ((x.cells[key.toNat]'(by omega)).out) (((x.cells[key.toNat]'(by omega)).given).set to'.toNat (fY ((((x.cells[key.toNat]'(by omega)).given)[to'.toNat]'(by omega))+n)) (by omega))) (by omega)) x.heir x.left).flat) rfl ee rfl be rfl (fi 0 rfl rfl) (aj (RowT.mk (fY (x.version+1)) (x.cells.set key.toNat (CellT.mk ((x.cells[key.toNat]'(by omega)).inn) ((x.cells[key.toNat]'(by omega)).out) (((x.cells[key.toNat]'(by omega)).given).set to'.toNat (fY ((((x.cells[key.toNat]'(by omega)).given)[to'.toNat]'(by omega))+n)) (by omega))) (by omega)) x.heir x.left)) (whole (aj (RowT.mk (fY (x.version+1)) (x.cells.set key.toNat (CellT.mk ((x.cells[key.toNat]'(by omega)).inn) ((x.cells[key.toNat]'(by omega)).out) (((x.cells[key.toNat]'(by omega)).given).set to'.toNat (fY ((((x.cells[key.toNat]'(by omega)).given)[to'.toNat]'(by omega))+n)) (by omega))) (by omega)) x.heir x.left)))) ?_
 refine bN (vs:=ints (RowT.mk (fY (x.version+1)) (x.cells.set key.toNat (CellT.mk ((x.cells[key.toNat]'(by omega)).inn) ((x.cells[key.toNat]'(by omega)).out) (((x.cells[key.toNat]'(by omega)).given).set to'.toNat (fY ((((x.cells[key.toNat]'(by omega)).given)[to'.toNat]'(by omega))+n)) (by omega))) (by omega)) x.heir x.left).flat) (i:=2) (ab rfl) rfl rfl rfl rfl rfl (by rw[(aj (RowT.mk (fY (x.version+1)) (x.cells.set key.toNat (CellT.mk ((x.cells[key.toNat]'(by omega)).inn) ((x.cells[key.toNat]'(by omega)).out) (((x.cells[key.toNat]'(by omega)).given).set to'.toNat (fY ((((x.cells[key.toNat]'(by omega)).given)[to'.toNat]'(by omega))+n)) (by omega))) (by omega)) x.heir x.left))];exact be) (bC _) rfl rfl (by have h0:=(aj RowT.zero);have h1:=(aj (RowT.mk (fY (x.version+1)) (x.cells.set key.toNat (CellT.mk ((x.cells[key.toNat]'(by omega)).inn) ((x.cells[key.toNat]'(by omega)).out) (((x.cells[key.toNat]'(by omega)).given).set to'.toNat (fY ((((x.cells[key.toNat]'(by omega)).given)[to'.toNat]'(by omega))+n)) (by omega))) (by omega)) x.heir x.left));omega) (ct ((aj RowT.zero).trans (aj (RowT.mk (fY (x.version+1)) (x.cells.set key.toNat (CellT.mk ((x.cells[key.toNat]'(by omega)).inn) ((x.cells[key.toNat]'(by omega)).out) (((x.cells[key.toNat]'(by omega)).given).set to'.toNat (fY ((((x.cells[key.toNat]'(by omega)).given)[to'.toNat]'(by omega))+n)) (by omega))) (by omega)) x.heir x.left)).symm)) rfl ?_;refine pC ?_;refine nx J8 ?_;refine ai ?_
 refine l6 (H':=[ak tb [(.int .i64 (to'))] 3]) rfl rfl rfl ee rfl be (fi 2 rfl rfl) (aj (RowT.mk (fY (x.version+1)) (x.cells.set key.toNat (CellT.mk ((x.cells[key.toNat]'(by omega)).inn) ((x.cells[key.toNat]'(by omega)).out) (((x.cells[key.toNat]'(by omega)).given).set to'.toNat (fY ((((x.cells[key.toNat]'(by omega)).given)[to'.toNat]'(by omega))+n)) (by omega))) (by omega)) x.heir x.left)) (λ_ s=>am [1] rfl s) ?_;refine⟨?_,rfl⟩;rw[kP,hcell,if_neg h23,iY,dif_pos hkb];simp[xq,lE,htb]
theorem B8(x:RowT)(key n:Int):
 DT 133 #[(.agg (ints x.flat).toArray),(.int .i64 (key)),(.int .i64 (n))] T0 [] (RI (.tuple #[.agg (ints (oN x key n).1.flat).toArray, .int .i64 (oN x key n).2]) []):=by
 refine BD 19 Tryz.func133 rfl rfl rfl λw0 F hF=>sr λ_ J1=>XY (ints x.flat) λb3=>?_
 refine XZ vf (ints RowT.zero.flat) λb6=>?_
 refine PS ?_;refine nx J1 (aa λ_ J2=>sr λ_ J3=>P2 ?_);refine CE It (rQ key n) ID ?_;refine bc ?_ ?_<;>intro h10;have hq:=h10;unfold xU lw Ik at hq;simp only[aw,decide_eq_true_iff]at hq;have hk:0≤key∧key<4:=hq.1.1;have hn:1≤n∧n≤1099511627776:=⟨hq.1.2,hq.2.2⟩;refine PS ?_;refine nx J3 (CN (qx J2 (sr λ_ J4=>LW 1 ee be aj ?_)));refine P2 ?_;refine CE Is (AP x key n hk hn) ID ?_;refine P2 ?_;refine SW 0 be aj ?_;refine PS ?_;refine nx J4 (ai (RT 0 [] ee be (aj _) ?_));exact⟨by simp[oN, *],rfl⟩;refine PS ?_;refine nx J3 (CY (sr λ_ J5=>BV ((ints RowT.zero.flat).toArray) ?_));refine SW 0 be aj ?_;refine PS ?_;refine nx J5 (ai (af (RT 0 [] ee be (aj _) ?_)));exact⟨by simp[oN, *],rfl⟩
theorem B9(x:RowT)(key n:Int):
 DT 134 #[(.agg (ints x.flat).toArray),(.int .i64 (key)),(.int .i64 (n))] T0 [] (RI (.tuple #[.agg (ints (oO x key n).1.flat).toArray, .int .i64 (oO x key n).2]) []):=by
 refine BD 19 Tryz.func134 rfl rfl rfl λw0 F hF=>sr λ_ J1=>XY (ints x.flat) λb3=>?_
 refine XZ vf (ints RowT.zero.flat) λb6=>?_
 refine PS ?_;refine nx J1 (aa λ_ J2=>sr λ_ J3=>P2 ?_);refine CE It (rQ key n) ID ?_;refine bc ?_ ?_<;>intro h10;have hq:=h10;unfold xU lw Ik at hq;simp only[aw,decide_eq_true_iff]at hq;have hk:0≤key∧key<4:=hq.1.1;have hn:1≤n∧n≤1099511627776:=⟨hq.1.2,hq.2.2⟩;refine PS ?_;refine nx J3 (CN (qx J2 (sr λ_ J4=>LW 1 ee be aj ?_)));refine P2 ?_;refine CE Is (AQ x key n hk hn) ID ?_;refine P2 ?_;refine SW 0 be aj ?_;refine PS ?_;refine nx J4 (ai (RT 0 [] ee be (aj _) ?_));exact⟨by simp[oO, *],rfl⟩;refine PS ?_;refine nx J3 (CY (sr λ_ J5=>BV ((ints RowT.zero.flat).toArray) ?_));refine SW 0 be aj ?_;refine PS ?_;refine nx J5 (ai (af (RT 0 [] ee be (aj _) ?_)));exact⟨by simp[oO, *],rfl⟩
theorem At(x:RowT)(key n to':Int):
 DT 135 #[(.agg (ints x.flat).toArray),(.int .i64 (key)),(.int .i64 (n)),(.int .i64 (to'))] T0 [] (RI (.tuple #[.agg (ints (lC x key n to').1.flat).toArray, .int .i64 (lC x key n to').2]) []):=by
 refine BD 27 Tryz.func135 rfl rfl rfl λw0 F hF=>sr λ_ J1=>XY (ints x.flat) λb4=>?_
 refine XB λb7=>?_
 refine XZ vf (ints RowT.zero.flat) λb8=>?_
 refine PS ?_;refine nx J1 (aa λ_ J2=>sr λ_ J3=>LA 1 Y3 ?_);refine CE FF (ka to') ID ?_;refine bc ?_ ?_<;>intro h11;refine PS ?_;refine P3 ?_;refine CE It (rQ key n) ID ?_;refine bc ?_ ?_<;>intro h16;have hq:=h16;unfold xU lw Ik at hq;simp only[aw,decide_eq_true_iff]at hq;have hk:0≤key∧key<4:=hq.1.1;have hn:1≤n∧n≤1099511627776:=⟨hq.1.2,hq.2.2⟩;have ht:0≤to'∧to'<5:=of_decide_eq_true h11;refine PS ?_;refine PS ?_;refine nx J3 (CN (qx J2 (sr λ_ J4=>LW 2 ee be aj ?_)));refine P2 ?_;refine tp (PH rfl rfl) ?_;refine CE Is (yn x key n hk hn b7 to' ht) (SM [1]) ?_;refine P2 ?_;refine SW 1 be aj ?_;refine PS ?_;refine nx J4 (ai (RT 1 [] ee be (aj _) ?_));exact⟨by simp[lC, *],rfl⟩;refine PS ?_;refine PS ?_;refine nx J3 (CY (sr λ_ J5=>BV ((ints RowT.zero.flat).toArray) ?_));refine SW 0 be aj ?_;refine PS ?_;refine nx J5 (ai (af (RT 0 [] ee be (aj _) ?_)));exact⟨by simp[lC, *],rfl⟩;refine PS ?_;refine PS ?_
 iterate 4 refine UT ?_
 refine PS ?_;refine nx J3 (CY (sr λ_ J6=>BV ((ints RowT.zero.flat).toArray) ?_));refine SW 0 be aj ?_;refine PS ?_;refine nx J6 (ai (af (RT 0 [] ee be (aj _) ?_)));exact⟨by simp[lC, *],rfl⟩
theorem B7(x:RowT)(who:Int):
 DT 115 #[(.agg (ints x.flat).toArray),(.int .i64 (who))] T0 [] (dz (λr' H=>∃u,r'=u∧H=[own u (gq x who).length (ints (gq x who)) 3 1])):=by
 refine BD 27 Tryz.func115 rfl rfl rfl λw0 F hF=>sr λ_ J1=>XY (ints x.flat) λb2=>?_
 refine PS ?_;refine nx J1 (sr λ_ J2=>PS ?_);refine nx J2 (aa λ_ J3=>sr λ_ J4=>FA 29 ee e8 ?_);refine tp (aM (vs:=ints x.heir.toList) rfl jU rfl e8 rfl (RO 0) (dv x.heir) (Pr x 0 rfl (by decide) (whole (dv x.heir)))) ?_;refine PS ?_;refine nx J4 (aq ?_)
 refine bw (α:=(Nat)×(Value)) (λ⟨k,u⟩=>k≤5∧u.oneCell'=true) (λ⟨k,u⟩=>[(1,(.int .i64 (who))),(4,(.slice none 0 0)),(5,u),(9,(.agg (ints x.heir.toList).toArray)),(10,(.int .i64 (((k:Nat):Int))))]) (λ⟨k,u⟩=>[own u ((iE x who k).length) (ints (iE x who k)) 3 1]) (λ⟨k,u⟩=>5-k) (0,(.slice none 0 0))
  ⟨aN _,rfl⟩ SB
  (λ_ s=>gV 3 1 (am [] rfl s)) (λ⟨k,u⟩ hinv=>?_)
 obtain⟨hk,hu⟩:=hinv;have hol:=GM x who k;refine sr λ_ J5=>PS ?_
 refine ao ?_ ?_<;>intro h11;refine nx J5 (aa λ_ J6=>CY (qx J6 (aa λ_ J7=>aq (sr λ_ J8=>PS ?_))));refine tp (kZ (cs:=ints x.heir.toList) (v:=Value.int .i64 (x.heir[k]'(by omega))) (r:=k) rfl jU Y3 rfl aQ rfl rfl (by omega) (by omega) (by omega) (kn x.heir (by omega))) ?_;refine P2 ?_;refine nx J8 (sr λ_ J9=>P3 ?_);refine ao ?_ ?_<;>intro h16;refine PS ?_;refine UT ?_;refine UT ?_;refine PS ?_;refine nx J9 (CY (ae (P2 ?_)));refine aW (cells:=#[(.int .i64 (((k:Nat):Int)))]) (ab rfl) rfl rfl rfl kl rG rfl rfl rfl (by as_aux_lemma=>kernel_rfl) (λb23=>cL (k:=1) (news:=[(.int .i64 (((k:Nat):Int)))]) (nn':=(iE x who k).length+1) (xs':=ints (iE x who k)++[(.int .i64 (((k:Nat):Int)))]) (ab rfl) rfl rfl rfl kl rG rfl rfl rfl rfl rfl rfl (λ_ _=>jK rfl (RO 0) rfl) (by simp[Value.oneCell']) (by simp only[maxLen];omega) (by omega) (by simp) (by simp) (λv24 ov24=>PS ?_));refine au (ag (ac J7 (ae (AD ?_))));refine PS ?_;refine au ?_
 exact aK ((k+1,v24):(Nat)×(Value)) ⟨by omega,ov24⟩ (by show 5- (k+1)<5-k;omega)
  SB
  (λ_ s=>by
   show bG [own v24 (iE x who (k+1)).length (ints (iE x who (k+1))) 3 1] _;rw[show iE x who (k+1)=iE x who k++[((k:Nat):Int)]by rw[ru,if_pos (by rw[wX x who (by omega)];simp;omega)],ah,ez]
   exact am [1] rfl s)
 refine P3 ?_;refine ao ?_ ?_<;>intro h19;refine PS ?_;refine nx J9 (CY (ae (P2 ?_)));refine aW (cells:=#[(.int .i64 (((k:Nat):Int)))]) (ab rfl) rfl rfl rfl kl rG rfl rfl rfl (by as_aux_lemma=>kernel_rfl) (λb23=>cL (k:=1) (news:=[(.int .i64 (((k:Nat):Int)))]) (nn':=(iE x who k).length+1) (xs':=ints (iE x who k)++[(.int .i64 (((k:Nat):Int)))]) (ab rfl) rfl rfl rfl kl rG rfl rfl rfl rfl rfl rfl (λ_ _=>jK rfl (RO 0) rfl) (by simp[Value.oneCell']) (by simp only[maxLen];omega) (by omega) (by simp) (by simp) (λv24 ov24=>PS ?_));refine au (ag (ac J7 (ae (AD ?_))));refine PS ?_;refine au ?_
 exact aK ((k+1,v24):(Nat)×(Value)) ⟨by omega,ov24⟩ (by show 5- (k+1)<5-k;omega)
  SB
  (λ_ s=>by
   show bG [own v24 (iE x who (k+1)).length (ints (iE x who (k+1))) 3 1] _;rw[show iE x who (k+1)=iE x who k++[((k:Nat):Int)]by rw[ru,if_pos (by rw[wX x who (by omega)];simp;omega)],ah,ez]
   exact am [1] rfl s)
 refine PS ?_;refine nx J9 (CN (aU (ag (ac J7 (ae (AD ?_))))));refine PS ?_;refine au ?_
 exact aK ((k+1,u):(Nat)×(Value)) ⟨by omega,hu⟩ (by show 5- (k+1)<5-k;omega)
  SB
  (λ_ s=>by
   show bG [own u (iE x who (k+1)).length (ints (iE x who (k+1))) 3 1] _;rw[show iE x who (k+1)=iE x who k by rw[ru,if_neg (by rw[wX x who (by omega)];simp;omega),aP]]
   exact am [0] rfl s)
 refine nx J5 (aa λ_ J10=>CN (aX (aA (aA (br (ac J3 (sr λ_ J11=>P2 ?_)))))));refine nx J11 (ai (WK [0] (av rfl rfl ?_)));obtain rfl:k=5:=by omega
 exact⟨u,rfl,rfl⟩
theorem Au(x:RowT)(who of' key:Int):
 DT 116 #[(.agg (ints x.flat).toArray),(.int .i64 (who)),(.int .i64 (of')),(.int .i64 (key))] T0 [] (RI (.tuple #[.agg (ints (iW x who of' key).1.flat).toArray, .int .i64 (iW x who of' key).2]) []):=by
 refine BD 53 Tryz.func116 rfl rfl rfl λw0 F hF=>sr λ_ J1=>XY (ints x.flat) λb4=>?_
 refine XZ Jv (ints CellT.zero.flat) λb8=>?_
 refine PS ?_;refine nx J1 (aa λ_ J2=>sr λ_ J3=>PS ?_);refine CE FF (ka who) ID ?_;refine bc ?_ ?_<;>intro h11;refine PS ?_;refine P2 ?_;refine CE FF (ka of') ID ?_;refine bc ?_ ?_<;>intro h15;refine PS ?_;refine P4 ?_;refine ao ?_ ?_<;>intro h20;have hkb:lw key=false:=decide_eq_false (by omega);refine P2 ?_;refine UT ?_;refine UT ?_;refine PS ?_;refine nx J3 (CY (sr λ_ J4=>BV ((ints CellT.zero.flat).toArray) ?_));refine SW 0 fF bu ?_;refine PS ?_;refine nx J4 (ai (af (RT 0 [] mV fF (bu _) ?_)));exact⟨by simp[iW, *],rfl⟩;refine P4 ?_;refine ao ?_ ?_<;>intro h24;have hkb:lw key=false:=decide_eq_false (by omega);refine PS ?_;refine nx J3 (CY (sr λ_ J5=>BV ((ints CellT.zero.flat).toArray) ?_));refine SW 0 fF bu ?_;refine PS ?_;refine nx J5 (ai (af (RT 0 [] mV fF (bu _) ?_)));exact⟨by simp[iW, *],rfl⟩;have hw:cN who=true:=by simpa using h11
 have ho:cN of'=true:=by simpa using h15
 have hw2:0≤who∧who<5:=of_decide_eq_true hw;have ho2:0≤of'∧of'<5:=of_decide_eq_true ho;have hkb:lw key=true:=decide_eq_true ⟨by omega,by omega⟩;have e1:fN x of'=x.heir[of'.toNat]'(by omega):=by rw[fN,dif_pos ho]
 have e2:xf x of' key=(x.left[of'.toNat]'(by omega))[key.toNat]'(by omega):=by rw[xf,dif_pos ⟨ho,hkb⟩]
 have e3:dD x key=x.cells[key.toNat]'(by omega):=by rw[dD,dif_pos hkb]
 refine PS ?_;refine nx J3 (CN (qx J2 (aa λ_ J6=>sr λ_ J7=>P3 ?_)));refine ao ?_ ?_<;>intro h29;refine nx J7 (CY (aa λ_ J8=>D1 1 bm ?_));refine PD 0 ?_;refine FD 1 1 ee lH ?_;refine IY 2 (1+key.toNat*7) Bm fF ?_;refine ta 3 rfl (aM (vs:=ints (x.cells[key.toNat]'(by omega)).flat) rfl mV rfl fF rfl (λ_ h=>h.2.1) (bu (x.cells[key.toNat]'(by omega))) (Ds x (key.toNat*7) (by omega) (by omega) (kE bA x.cells (i:=key.toNat) 0 (by omega) (by omega) (by decide) (whole (bu (x.cells[key.toNat]'(by omega))))))) ?_;refine FD 4 0 ee aQ ?_;refine LR 5 Y3 (cH x rfl) ?_;refine AL 6 ?_;refine SW 0 fF bu ?_;refine EN (PD 7 ?_);refine DN (ac J8 (ai (af (RT 0 [] mV fF (bu _) ?_))));exact⟨by simp[iW, *],rfl⟩;refine nx J7 (CN (qx J6 (aa λ_ J9=>sr λ_ J10=>PS ?_)));refine FA 29 ee e8 ?_;refine IX (29+(of').toNat) jU aQ ?_;refine LT 1 Y3 (.int .i64 ((x.heir[(of').toNat]'(by omega)))) ?_ (hc:=by exact rS x ((of').toNat) (by omega) (by omega) (kn x.heir (by omega)));refine PS ?_;refine ao ?_ ?_<;>intro h40;refine nx J10 (CY (aa λ_ J11=>D1 1 bm ?_));refine PD 0 ?_;refine PD 1 ?_;refine FD 2 34 ee BC ?_;refine IY 3 (34+((of').toNat)*28) Lx lH ?_;refine IY 4 (34+((of').toNat)*28+key.toNat*7) Bm fF ?_
 refine ta 5 rfl (aM (vs:=ints ((x.left[(of').toNat]'(by omega))[key.toNat]'(by omega)).flat) rfl mV rfl fF rfl (λ_ h=>h.2.1) (bu ((x.left[(of').toNat]'(by omega))[key.toNat]'(by omega))) (F3 x (((of').toNat)*28+key.toNat*7) (by omega) (by omega) (kE tH x.left (i:=(of').toNat) (key.toNat*7) (by omega) (by omega) (by omega) (kE bA (x.left[(of').toNat]'(by omega)) (i:=key.toNat) 0 (by omega) (by omega) (by decide) (whole (bu ((x.left[(of').toNat]'(by omega))[key.toNat]'(by omega)))))))) ?_;refine PD 6 ?_;refine FD 7 29 ee e8 ?_;refine IY 8 (29+(of').toNat) jU aQ ?_;refine LX 9 Y3 (.int .i64 ((x.heir[(of').toNat]'(by omega)))) ?_ (hc:=by exact rS x ((of').toNat) (by omega) (by omega) (kn x.heir (by omega)));refine ta 10 rfl (jd (r:=(fY ((x.heir[(of').toNat]'(by omega))-1))) rfl rfl rfl rfl) ?_;refine AL 11 ?_;refine SW 0 fF bu ?_;refine EN (PD 12 ?_);refine DN (ac J11 (ai (af (RT 0 [] mV fF (bu _) ?_))));exact⟨by simp[iW, *],rfl⟩;refine nx J10 (CN (qx J9 (sr λ_ J12=>BV ((ints CellT.zero.flat).toArray) ?_)));refine SW 0 fF bu ?_;refine PS ?_;refine nx J12 (ai (RT 0 [] mV fF (bu _) ?_));exact⟨by simp[iW, *],rfl⟩;refine PS ?_;refine P2 ?_;refine UT ?_;refine UT ?_;refine P2 ?_;refine UT ?_;refine UT ?_;refine PS ?_;refine nx J3 (CY (sr λ_ J13=>BV ((ints CellT.zero.flat).toArray) ?_));refine SW 0 fF bu ?_;refine PS ?_;refine nx J13 (ai (af (RT 0 [] mV fF (bu _) ?_)));exact⟨by simp[iW, *],rfl⟩;refine PS ?_;refine PS ?_
 iterate 3 refine UT ?_
 refine P2 ?_;refine UT ?_;refine UT ?_;refine P2 ?_;refine UT ?_;refine UT ?_;refine PS ?_;refine nx J3 (CY (sr λ_ J14=>BV ((ints CellT.zero.flat).toArray) ?_));refine SW 0 fF bu ?_;refine PS ?_;refine nx J14 (ai (af (RT 0 [] mV fF (bu _) ?_)));exact⟨by simp[iW, *],rfl⟩
theorem pH(who:Int):
 DT 34 #[(.int .i64 (who))] T0 [] (dz (λr' H=>∃u,r'=u∧H=[own u (hO who).length (ints (hO who)) 3 1])):=by
 refine BD 20 Tryz.func34 rfl rfl rfl λw0 F hF=>sr λ_ J1=>PS ?_
 refine nx J1 (aa λ_ J2=>sr λ_ J3=>PS ?_);refine CE Ip (jW who) ID ?_;refine bc ?_ ?_<;>intro h6;have hm:0≤who∧who<5:=of_decide_eq_true h6;refine PS ?_;refine nx J3 (CN (qx J2 (sr λ_ J4=>Od 3 1 (λon=>?_))));clear on;refine PS ?_;refine nx J4 (aa λ_ J5=>sr λ_ J6=>PS ?_);refine nx J6 (aq (rY 3 (aa λ_ J7=>sr λ_ J8=>P2 ?_)));refine nx J8 (CY (qx J7 (aa λ_ J9=>aq (ae (P3 ?_)))));refine tp (cC (r:=(who+1)) rfl rfl rfl (bV (by omega) (by omega))) ?_;refine tp (PV.rem (r:=((who+1)%5)) rfl rfl rfl (by omega) (FB (by omega))) ?_;refine aW (cells:=#[(.int .i64 (((who+1)%5)))]) (ab rfl) rfl rfl rfl kl rG rfl rfl rfl (by as_aux_lemma=>kernel_rfl) (λb17=>cL (k:=1) (news:=[(.int .i64 (((who+1)%5)))]) (nn':=1) (xs':=[(.int .i64 (((who+1)%5)))]) (ab rfl) rfl rfl rfl kl rG rfl rfl rfl rfl rfl rfl (λ_ _=>jK rfl (RO 0) rfl) (by simp[Value.oneCell']) (by simp only[maxLen];omega) (by omega) (by simp) (by simp) (λv18 ov18=>PS ?_));refine au (ag (ac J9 (ae (PS ?_))));refine tp (cC (r:=2) rfl rfl rfl (by decide)) ?_;refine PS ?_;refine au (eA (aa λ_ J10=>sr λ_ J11=>P2 ?_));refine nx J11 (CY (qx J10 (aa λ_ J12=>aq (ae (P3 ?_)))));refine tp (cC (r:=(who+2)) rfl rfl rfl (bV (by omega) (by omega))) ?_;refine tp (PV.rem (r:=((who+2)%5)) rfl rfl rfl (by omega) (FB (by omega))) ?_
 refine cA (H':=[own v18 (1) ([(.int .i64 (((who+1)%5)))]) 3 1]) (λ_ s=>am [1] rfl s) (aW (cells:=#[(.int .i64 (((who+2)%5)))]) (ab rfl) rfl rfl rfl kl rG rfl rfl rfl (by as_aux_lemma=>kernel_rfl) (λb17=>cL (k:=1) (news:=[(.int .i64 (((who+2)%5)))]) (nn':=1+1) (xs':=[(.int .i64 (((who+1)%5)))]++[(.int .i64 (((who+2)%5)))]) (ab rfl) rfl rfl rfl kl rG rfl rfl rfl rfl rfl rfl (λ_ _=>jK rfl (RO 0) rfl) (by simp[Value.oneCell']) (by simp only[maxLen];omega) (by omega) (by simp) (by simp) (λv18 ov18=>PS ?_)));refine au (ag (ac J12 (ae (PS ?_))));refine tp (cC (r:=3) rfl rfl rfl (by decide)) ?_;refine PS ?_;refine au (eA (aa λ_ J13=>sr λ_ J14=>P2 ?_));refine nx J14 (CN (aX (aA (aA (br (ac J5 (sr λ_ J15=>P2 ?_)))))));refine nx J15 (ai (WK [1] (av rfl rfl ?_)));exact⟨_,rfl,by rw[hO,if_pos h6];rfl⟩;refine PS ?_;refine nx J3 (CY (sr λ_ J16=>PS ?_));refine nx J16 (ai (af (aF (H':=[own (.slice none 0 0) 0 [] 3 1]) (dK _) (λ_ s=>gV 3 1 s) (av rfl rfl ?_))));exact⟨_,rfl,by rw[hO,if_neg (by simp[h6])];rfl⟩
theorem mP(b off T:Nat)(cs:BookT→List Value)(hA:Arnd cs (λx=>ints x.flat) off)(B:BookT)(who:Int):
 DT 43 #[(.pointer (some ⟨b,off,none⟩)),(.int .i64 (who))] T0 [ak b (cs B) T] (RI (.agg (ints (cr B who).flat).toArray) [ak b (cs B) T]):=by
 refine BD 15 Tryz.func43 rfl rfl rfl λw0 F hF=>sr λ_ J1=>XZ vf (ints RowT.zero.flat) λb4=>?_
 refine nx J1 (aa λ_ J2=>sr λ_ J3=>PS ?_);refine CE Ma (ly who) ID ?_;refine bc ?_ ?_<;>intro h6;have hm:0≤who∧who<5:=of_decide_eq_true h6;refine PS ?_;refine nx J3 (CN (qx J2 (sr λ_ J4=>P3 ?_)));refine tp (aY (r:=off) rfl Jm rfl tK rfl rfl) ?_;refine IX (off+who.toNat*174) HA be ?_;refine tp (aM (vs:=ints (B.rows[who.toNat]'(by omega)).flat) rfl ee rfl be rfl (RO 1) (aj (B.rows[who.toNat]'(by omega))) (OA hA (j:=who.toNat*174) (by omega) (LB (x8 _)) (Ow B (who.toNat*174) (by omega) (by omega) (kE dE B.rows (i:=who.toNat) 0 (by omega) (by omega) (by decide) (whole (aj (B.rows[who.toNat]'(by omega)))))))) ?_;refine SW 0 be aj ?_;refine nx J4 (ai (RC 0 [1] ee be (aj _) ?_));exact⟨by rw[cr,dif_pos h6],rfl⟩;refine PS ?_;refine nx J3 (CY (sr λ_ J5=>BV ((ints RowT.zero.flat).toArray) ?_));refine SW 0 be aj ?_;refine nx J5 (ai (af (RC 0 [1] ee be (aj _) ?_)));exact⟨by rw[cr,dif_neg (by simp[h6])],rfl⟩
theorem kW(b off T:Nat)(cs:BookT→List Value)(hA:Arnd cs (λx=>ints x.flat) off)(B:BookT)(who:Int)(x:RowT)(hx:WF x.flat):
 DT 75 #[(.pointer (some ⟨b,off,none⟩)),(.int .i64 (who)),(.agg (ints x.flat).toArray)] T0 [ak b (cs B) T] (RI (.bool (fc B who x).2) [ak b (cs (fc B who x).1) T]):=by
 refine BD 33 Tryz.func75 rfl rfl rfl λw0 F hF=>sr λ_ J1=>XY (ints x.flat) λb5=>?_
 refine PS ?_;refine nx J1 (aa λ_ J2=>aa λ_ J3=>D2 0 1 bm ?_);refine PD 0 ?_;refine AL 1 ?_;refine CE Ma (ly who) ID ?_;refine bc ?_ ?_<;>intro h8;have hm:0≤who∧who<5:=of_decide_eq_true h8;have hrow:cr B who=B.rows[who.toNat]'(by omega):=by rw[cr,dif_pos h8]
 refine au (E2 0 1 (PD 2 ?_));refine PD 3 ?_;refine LY 4 ee be aj ?_;refine AL 5 ?_;refine CE GY (iL x hx) ID ?_;refine bc ?_ ?_<;>intro h12;refine au (E2 0 1 (PD 6 ?_));refine PD 7 ?_;refine PD 8 ?_;refine FD 9 0 ee aQ ?_;refine LR 10 Y3 (cH x rfl) ?_;refine PD 11 ?_;refine PD 12 ?_;refine PD 13 ?_;refine tb 14 rfl (aY (r:=off) rfl Jm rfl tK rfl rfl) ?_;refine IY 15 (off+who.toNat*174) HA be ?_;refine tb 16 rfl (aY (r:=off+who.toNat*174) rfl ee rfl aQ rfl rfl) ?_;refine LX 17 Y3 (.int .i64 ((B.rows[who.toNat]'(by omega)).version)) ?_ (hc:=by exact Arnd.at hA (j:=who.toNat*174) (by omega) (LB (x8 _)) (BookT.pt_rows B (who.toNat*174) (by omega) (by omega) (n5 dE B.rows (i:=who.toNat) 0 (by omega) (by omega) (by decide) (cH _ rfl))));refine PD 18 ?_;refine jc ?_ ?_<;>intro h25;refine PD 19 ?_;refine DN (ac J3 (CY (sr λ_ J4=>PS ?_)));refine nx J4 (ai (af (WK [1] (av rfl rfl ?_))));have e:fc B who x=(B,false):=by rw[fc,if_neg (λh=>by simp only[aw,decide_eq_true_iff]at h;rw[hrow]at h;omega)]
 exact⟨by rw[e],by rw[e];rfl⟩;refine PD 19 ?_;refine DN (ac J3 (CN (qx J2 (aa λ_ J5=>D1 0 bm ?_))));refine PD 0 ?_;refine PD 1 ?_;refine LY 2 ee be aj ?_;refine PD 3 ?_;refine ta 4 rfl (aY (r:=off) rfl Jm rfl tK rfl rfl) ?_;refine IY 5 (off+who.toNat*174) HA be ?_;refine AL 6 ?_;refine bN (vs:=ints x.flat) (i:=1) (ab rfl) rfl rfl rfl rfl rfl (by rw[(aj x)];exact be) (bC _) rfl rfl (by have h0:=(x8 B);have h2:=Arnd.le hA B;have h1:=(aj x);omega) (Arnd.wr hA (x:=B) (x':=(BookT.mk (B.rows.set who.toNat x (by omega)))) (j:=who.toNat*174) (by omega) (LC (x8 _) (aj _)) (BookT.wr_rows_ B (who.toNat*174) (by omega) (by have h1:=(aj x);omega) (uy dE B.rows (i:=who.toNat) 0 (by omega) (by omega) (by have h1:=(aj x);omega) (ct ((aj (B.rows[who.toNat]'(by omega))).trans (aj x).symm))))) rfl (au (E1 0 (DN (ac J5 (sr λ_ J6=>PS ?_)))));refine nx J6 (ai (WK [1] (av rfl rfl ?_)));have e:fc B who x=(wS B who x,true):=by rw[fc,if_pos (by simp only[aw,decide_eq_true_iff,hrow];exact⟨⟨h8,h12⟩,by omega⟩)]
 exact⟨by rw[e],by rw[e,wS,dif_pos h8];rfl⟩;refine au (E2 0 1 (PD 6 ?_));refine PD 7 ?_;refine PD 8 ?_;refine NT 9 ?_;refine NT 10 ?_;refine NT 11 ?_;refine NT 12 ?_;refine NT 13 ?_;refine NT 14 ?_;refine NT 15 ?_;refine NT 16 ?_;refine NT 17 ?_;refine NT 18 ?_;refine PD 19 ?_;refine DN (ac J3 (CY (sr λ_ J7=>PS ?_)));refine nx J7 (ai (af (WK [1] (av rfl rfl ?_))));have e:fc B who x=(B,false):=by rw[fc,if_neg (λh=>by simp only[aw,decide_eq_true_iff]at h;rw[h12]at h;exact absurd h.1.2 (by decide))]
 exact⟨by rw[e],by rw[e];rfl⟩;refine au (E2 0 1 (PD 2 ?_));refine PD 3 ?_;refine NT 4 ?_;refine NT 5 ?_;refine NT 6 ?_;refine PD 7 ?_;refine PD 8 ?_;refine NT 9 ?_;refine NT 10 ?_;refine NT 11 ?_;refine NT 12 ?_;refine NT 13 ?_;refine NT 14 ?_;refine NT 15 ?_;refine NT 16 ?_;refine NT 17 ?_;refine NT 18 ?_;refine PD 19 ?_;refine DN (ac J3 (CY (sr λ_ J8=>PS ?_)));refine nx J8 (ai (af (WK [1] (av rfl rfl ?_))));have e:fc B who x=(B,false):=by rw[fc,if_neg (λh=>by simp only[aw,decide_eq_true_iff]at h;rw[h8]at h;exact absurd h.1.1 (by decide))]
 exact⟨by rw[e],by rw[e];rfl⟩
theorem nW(b off T:Nat)(cs:BookT→List Value)(hA:Arnd cs (λx=>ints x.flat) off)(B:BookT)(of' key:Int):
 DT 74 #[(.pointer (some ⟨b,off,none⟩)),(.int .i64 (of')),(.int .i64 (key))] T0 [ak b (cs B) T] (RI (.agg (ints (cW B of' key).flat).toArray) [ak b (cs B) T]):=by
 refine BD 35 Tryz.func74 rfl rfl rfl λw0 F hF=>sr λ_ J1=>XZ Jv (ints CellT.zero.flat) λb6=>?_
 refine nx J1 (sr λ_ J2=>XZ Jv (ints CellT.zero.flat) λb7=>?_);refine nx J2 (sr λ_ J3=>PS ?_);refine nx J3 (aa λ_ J4=>sr λ_ J5=>PS ?_);refine nx J5 (aq ?_)
 refine bw (α:=(Nat)×(CellT)×(Int)) (λ⟨k,c,n⟩=>k≤5∧(c,n)=ut B of' key k) (λ⟨k,c,n⟩=>[(0,(.pointer (some ⟨b,off,none⟩))),(1,(.int .i64 (of'))),(2,(.int .i64 (key))),(6,(.pointer (some ⟨b6,0,none⟩))),(7,(.pointer (some ⟨b7,0,none⟩))),(8,(.int .i64 (n))),(12,(.int .i64 (((k:Nat):Int))))]) (λ⟨k,c,n⟩=>[ak b7 (ints c.flat) 56,ak b6 (ints CellT.zero.flat) 56,ak b (cs B) T]) (λ⟨k,c,n⟩=>5-k) (0,CellT.zero, -1)
  ⟨aN _,rfl⟩ SB
  (λ_ s=>s) (λ⟨k,c,n⟩ hinv=>?_)
 obtain⟨hk,hc⟩:=hinv;refine sr λ_ J6=>PS ?_
 refine ao ?_ ?_<;>intro h13;refine nx J6 (aa λ_ J7=>CY (qx J7 (aa λ_ J8=>aq (sr λ_ J9=>P2 ?_))));refine nx J9 (sr λ_ J10=>P3 ?_);refine tp (aY (r:=off) rfl Jm rfl tK rfl rfl) ?_;refine IX (off+k*174) HA be ?_;refine tp (aM (vs:=ints (B.rows[k]'(by omega)).flat) rfl ee rfl be rfl (RO 2) (aj (B.rows[k]'(by omega))) (OA hA (j:=k*174) (by omega) (LB (x8 _)) (Ow B (k*174) (by omega) (by omega) (kE dE B.rows (i:=k) 0 (by omega) (by omega) (by decide) (whole (aj (B.rows[k]'(by omega)))))))) ?_;refine P3 ?_;refine CE NQ (Au (B.rows[k]'(by omega)) ((k:Nat):Int) of' key) ID ?_;refine P3 ?_;refine XZ Jv (ints CellT.zero.flat) λb10=>?_
 refine SW 0 fF bu ?_;refine PS ?_;refine nx J10 (sr λ_ J11=>P3 ?_);refine ao ?_ ?_<;>intro h30;refine nx J11 (CY (ae (LW 0 mV fF bu ?_)));refine PS ?_;refine SW 1 fF bu ?_;refine PS ?_;refine au (ag (ac J8 (ae (AD ?_))));refine PS ?_;refine au ?_
 exact aK ((k+1,(iW (B.rows[k]'(by omega)) ((k:Nat):Int) of' key).1,(iW (B.rows[k]'(by omega)) ((k:Nat):Int) of' key).2):(Nat)×(CellT)×(Int)) ⟨by omega,by rw[qh,←hc,qi,xP B (by omega)];simp[h30]⟩ (by show 5- (k+1)<5-k;omega)
  SB
  (λ_ s=>am [1,1,1] rfl s)
 refine nx J11 (CN (aU (ag (ac J8 (ae (AD ?_))))));refine PS ?_;refine au ?_
 exact aK ((k+1,c,n):(Nat)×(CellT)×(Int)) ⟨by omega,by rw[qh,←hc,qi,xP B (by omega)];simp[h30]⟩ (by show 5- (k+1)<5-k;omega)
  SB
  (λ_ s=>am [1,1,1] rfl s)
 refine nx J6 (aa λ_ J12=>CN (aX (aA (aA (br (ac J4 (sr λ_ J13=>LW 0 mV fF bu ?_)))))));refine SW 1 fF bu ?_;refine nx J13 (ai (RC 1 [2] mV fF (bu _) ?_));obtain rfl:k=5:=by omega
 exact⟨by rw[cW,←hc],rfl⟩
theorem ni(b off T:Nat)(cs:BookT→List Value)(hA:Arnd cs (λx=>ints x.flat) off)(B:BookT)(key:Int):
 DT 39 #[(.pointer (some ⟨b,off,none⟩)),(.int .i64 (key))] T0 [ak b (cs B) T] (RI (.int .i64 (kx B key)) [ak b (cs B) T]):=by
 refine BD 24 Tryz.func39 rfl rfl rfl λw0 F hF=>sr λ_ J1=>PS ?_
 refine nx J1 (sr λ_ J2=>PS ?_);refine nx J2 (aa λ_ J3=>sr λ_ J4=>PS ?_);refine nx J4 (aq ?_)
 refine bw (α:=(Nat)×(Int)) (λ⟨k,n⟩=>k≤5∧n=qv B key k) (λ⟨k,n⟩=>[(0,(.pointer (some ⟨b,off,none⟩))),(1,(.int .i64 (key))),(4,(.int .i64 0)),(5,(.int .i64 (n))),(8,(.int .i64 (((k:Nat):Int))))]) (λ⟨k,n⟩=>[ak b (cs B) T]) (λ⟨k,n⟩=>5-k) (0,0)
  ⟨aN _,rfl⟩ SB
  (λ_ s=>s) (λ⟨k,n⟩ hinv=>?_)
 obtain⟨hk,hc⟩:=hinv;refine sr λ_ J5=>PS ?_
 refine ao ?_ ?_<;>intro h9;refine nx J5 (aa λ_ J6=>CY (qx J6 (aa λ_ J7=>aq (sr λ_ J8=>P2 ?_))));refine nx J8 (sr λ_ J9=>P3 ?_);refine CE Mc (nW b off T cs hA B ((k:Nat):Int) key) ID ?_;refine XZ Jv (ints CellT.zero.flat) λb7=>?_
 refine SW 0 fF bu ?_;refine nx J9 (ae (PS ?_));refine FA 0 mV aQ ?_;refine LT 0 Y3 (.int .i64 ((cW B ((k:Nat):Int) key).inn)) ?_ (hc:=by exact rX _ rfl);refine FA 1 mV aQ ?_;refine LT 0 Y3 (.int .i64 ((cW B ((k:Nat):Int) key).out)) ?_ (hc:=by exact rW _ rfl);refine tp (jd (r:=(fY (((cW B ((k:Nat):Int) key).inn)- ((cW B ((k:Nat):Int) key).out)))) rfl rfl rfl rfl) ?_;refine tp (cC (r:=(fY (n+(fY (((cW B ((k:Nat):Int) key).inn)- ((cW B ((k:Nat):Int) key).out)))))) rfl rfl rfl rfl) ?_;refine PS ?_;refine au (ag (ac J7 (ae (AD ?_))));refine PS ?_;refine au ?_
 exact aK ((k+1,(fY (n+(fY (((cW B ((k:Nat):Int) key).inn)- ((cW B ((k:Nat):Int) key).out)))))):(Nat)×(Int)) ⟨by omega,by rw[sx,←hc]⟩ (by show 5- (k+1)<5-k;omega)
  SB
  (λ_ s=>am [1] rfl s)
 refine nx J5 (aa λ_ J10=>CN (aX (aA (aA (br (ac J3 (sr λ_ J11=>P2 ?_)))))));refine nx J11 (ai (WK [0] (av rfl rfl ?_)));obtain rfl:k=5:=by omega
 exact⟨by rw[hc];rfl,rfl⟩
theorem pm(b off T:Nat)(cs:BookT→List Value)(hA:Arnd cs (λx=>ints x.flat) off)(B:BookT)(who key:Int):
    DT 73 #[(.pointer (some ⟨b,off,none⟩)),(.int .i64 (who)),(.int .i64 (key))] T0 [ak b (cs B) T] (RI (.int .i64 (pc B who key)) [ak b (cs B) T]):=by
 refine BD 71 Tryz.func73 rfl rfl rfl λw0 F hF=>sr λ_ J1=>PS ?_
 refine nx J1 (aa λ_ J2=>sr λ_ J3=>PS ?_);refine CE Ma (ly who) ID ?_;refine bc ?_ ?_<;>intro h14;have hm:0≤who∧who<5:=of_decide_eq_true h14;refine PS ?_;refine nx J3 (CN (qx J2 (sr λ_ J4=>XZ MN (ints ((#v[CellT.zero,CellT.zero,CellT.zero,CellT.zero,CellT.zero]).toList.flatMap CellT.flat)) λb7=>?_)));refine nx J4 (aa λ_ J5=>sr λ_ J6=>PS ?_);refine nx J6 (aq ?_)
 refine bw (α:=(Nat)×(Vector CellT 5)) (λ⟨k,C⟩=>k≤5∧∀(j:Nat) (h:j<5),j<k→C[j]=cW B j key) (λ⟨k,C⟩=>[(0,(.pointer (some ⟨b,off,none⟩))),(1,(.int .i64 (who))),(2,(.int .i64 (key))),(6,(.int .i64 0)),(7,(.pointer (some ⟨b7,0,none⟩))),(16,(.int .i64 (((k:Nat):Int))))]) (λ⟨k,C⟩=>[ak b7 (ints (C.toList.flatMap CellT.flat)) 132,ak b (cs B) T]) (λ⟨k,C⟩=>5-k) (0, #v[CellT.zero,CellT.zero,CellT.zero,CellT.zero,CellT.zero])
     ⟨aN _,λj _ h=>absurd h (by omega)⟩ SB
     (λ_ s=>am [0,0] rfl s) (λ⟨k,C⟩ hinv=>?_)
 obtain⟨hk,hC⟩:=hinv;refine sr λ_ J7=>PS ?_
 refine ao ?_ ?_<;>intro h17;refine nx J7 (aa λ_ J8=>CY (qx J8 (aa λ_ J9=>aq (sr λ_ J10=>P2 ?_))));refine nx J10 (ae (P4 ?_));refine CE Mc (nW b off T cs hA B ((k:Nat):Int) key) (SM [1]) ?_;refine IX (k*7) yB fF ?_;refine bN (vs:=ints (cW B ((k:Nat):Int) key).flat) (i:=1) (ab rfl) rfl rfl rfl rfl rfl (by rw[(bu (cW B ((k:Nat):Int) key))];exact fF) (bC _) rfl rfl (by have h0:=(JK C);have h1:=(bu (cW B ((k:Nat):Int) key));omega) (uy bA C (i:=k) 0 (by omega) (by omega) (by have h1:=(bu (cW B ((k:Nat):Int) key));omega) (ct ((bu (C[k]'(by omega))).trans (bu (cW B ((k:Nat):Int) key)).symm))) rfl (au (ag (ac J9 (ae (AD ?_)))));refine PS ?_;refine au ?_
 exact aK ((k+1,(C.set k (cW B ((k:Nat):Int) key) (by omega))):(Nat)×(Vector CellT 5)) ⟨by omega,λj h hj=>by
        rw[Vector.getElem_set];split
        · subst_vars;rfl
        · exact hC j h (by omega)⟩ (by show 5- (k+1)<5-k;omega)
   SB
   (λ_ s=>am [1,0] rfl s)
 refine nx J7 (aa λ_ J11=>CN (aX (aA (aA (br (ac J5 (sr λ_ J12=>PS ?_)))))));refine nx J12 (aa λ_ J13=>sr λ_ J14=>P3 ?_);refine tp (aY (r:=off) rfl Jm rfl tK rfl rfl) ?_;refine IX (off+who.toNat*174) HA be ?_;refine tp (aM (vs:=ints (B.rows[who.toNat]'(by omega)).flat) rfl ee rfl be rfl (RO 1) (aj (B.rows[who.toNat]'(by omega))) (OA hA (j:=who.toNat*174) (by omega) (LB (x8 _)) (Ow B (who.toNat*174) (by omega) (by omega) (kE dE B.rows (i:=who.toNat) 0 (by omega) (by omega) (by decide) (whole (aj (B.rows[who.toNat]'(by omega)))))))) ?_;refine PS ?_;have hbr:B.rows[who.toNat]'(by omega)=cr B who:=by rw[cr,dif_pos h14]
 rw[hbr];refine CR NR (B7 (cr B who) who) ID λvR HR hR=>?_
 obtain⟨_,rfl,rfl⟩:=hR;revert vR;intro ul1;refine kY 0 rfl rfl (λhlul1 houl1=>tp (eh rfl kl rfl hlul1) ?_);refine PS ?_;refine nx J14 (aq ?_)
 refine bw (α:=(Nat)×(Int)) (λ⟨i,r⟩=>i≤(gq (cr B who) who).length∧r=((gq (cr B who) who).take i).foldl (oP B key) 0) (λ⟨i,r⟩=>[(0,(.pointer (some ⟨b,off,none⟩))),(6,(.int .i64 0)),(7,(.pointer (some ⟨b7,0,none⟩))),(9,(.int .i64 (r))),(33,ul1),(34,(.int .i64 ((((gq (cr B who) who).length:Nat):Int)))),(35,(.int .i64 (((i:Nat):Int))))]) (λ⟨i,r⟩=>[own ul1 ((gq (cr B who) who).length) (ints (gq (cr B who) who)) 3 1,ak b7 (ints (C.toList.flatMap CellT.flat)) 132,ak b (cs B) T]) (λ⟨i,r⟩=>(gq (cr B who) who).length-i) (0,0)
     ⟨aN _,rfl⟩ SB
     (λ_ s=>am [0,0,0] rfl s) (λ⟨i,r⟩ hinv=>?_)
 obtain⟨hi,hr⟩:=hinv;have hE: ∀(j:Nat) (h:j<5),C[j]=cW B j key:=λj h=>hC j h (by omega)
 refine sr λ_ J15=>PS ?_
 refine ao ?_ ?_<;>intro h36;refine nx J15 (aa λ_ J16=>CY (qx J16 (aa λ_ J17=>aq (sr λ_ J18=>j7 0 rfl rfl (by omega) (λga capa hva hcapa=>?_)))));obtain⟨q,hq,hq5⟩: ∃q:Nat,(gq (cr B who) who)[i]=((q:Nat):Int)∧q<5:=by have:=Ea (cr B who) who _ (ec (show i< (gq (cr B who) who).length by omega));exact⟨(gq (cr B who) who)[i].toNat,by omega,by omega⟩
 have hE2:C[q]=cW B (gq (cr B who) who)[i] key:=by rw[hE q hq5,hq]
 refine tp (bU (r:=i) hva rfl kl aQ rfl rfl (by omega) (by omega) (by omega)) ?_;refine tp (di (v:=(.int .i64 (((q:Nat):Int)))) rfl Y3 rfl rfl (gm 0 rfl hva rfl) (by rw[←hq];simp[ints,show i< (gq (cr B who) who).length by omega])) ?_;refine PS ?_;refine nx J18 (aa λ_ J19=>D1 1 bm ?_);refine PD 0 ?_;refine PD 1 ?_;refine IY 2 (q*7) yB fF ?_;refine ta 3 rfl (aY (r:=q*7) rfl mV rfl aQ rfl rfl) ?_;refine LX 4 Y3 (.int .i64 ((C[q]'(by omega)).inn)) ?_ (hc:=by exact n5 bA C (i:=q) 0 (by omega) (by omega) (by decide) (rX _ rfl));refine PD 5 ?_;refine IY 6 (q*7) yB fF ?_;refine ta 7 rfl (aY (r:=q*7+1) rfl mV rfl aQ rfl rfl) ?_;refine LX 8 Y3 (.int .i64 ((C[q]'(by omega)).out)) ?_ (hc:=by exact n5 bA C (i:=q) 1 (by omega) (by omega) (by decide) (rW _ rfl));refine ta 9 rfl (jd (r:=(fY (((C[q]'(by omega)).inn)- ((C[q]'(by omega)).out)))) rfl rfl rfl rfl) ?_;refine ta 10 rfl (cC (r:=(fY (r+(fY (((C[q]'(by omega)).inn)- ((C[q]'(by omega)).out)))))) rfl rfl rfl rfl) ?_;refine PD 11 ?_;refine DN (ac J19 (sr λ_ J20=>PS ?_));refine nx J20 (aq ?_)
 refine bw (α:=(Nat)×(Int)) (λ⟨o,r3⟩=>o≤5∧r3=p2 B key (gq (cr B who) who)[i] (fY (r+fY (C[q].inn-C[q].out))) o) (λ⟨o,r3⟩=>[(0,(.pointer (some ⟨b,off,none⟩))),(6,(.int .i64 0)),(7,(.pointer (some ⟨b7,0,none⟩))),(9,(.int .i64 (r3))),(11,(.int .i64 (((q:Nat):Int)))),(33,ul1),(34,(.int .i64 ((((gq (cr B who) who).length:Nat):Int)))),(35,(.int .i64 (((i:Nat):Int)))),(50,(.int .i64 (((o:Nat):Int))))]) (λ⟨o,r3⟩=>[own ul1 ((gq (cr B who) who).length) (ints (gq (cr B who) who)) 3 1,ak b7 (ints (C.toList.flatMap CellT.flat)) 132,ak b (cs B) T]) (λ⟨o,r3⟩=>5-o) (0,(fY (r+(fY (((C[q]'(by omega)).inn)- ((C[q]'(by omega)).out))))))
     ⟨aN _,rfl⟩ SB
     (λ_ s=>am [0,0,0] rfl s) (λ⟨o,r3⟩ hinv=>?_)
 obtain⟨ho,hr3⟩:=hinv;refine sr λ_ J21=>PS ?_
 refine ao ?_ ?_<;>intro h51;refine nx J21 (aa λ_ J22=>CY (qx J22 (aa λ_ J23=>aq (sr λ_ J24=>P2 ?_))));refine nx J24 (D1 1 bm ?_);refine PD 0 ?_;refine PD 1 ?_;refine PD 2 ?_;refine IY 3 (o*7) yB fF ?_;refine ta 4 rfl (aY (r:=o*7+2) rfl mV rfl e8 rfl rfl) ?_;refine IY 5 (o*7+2+q) jU aQ ?_;refine LX 6 Y3 (.int .i64 ((((C[o]'(by omega)).given)[q]'(by omega)))) ?_ (hc:=by exact n5 bA C (i:=o) (2+q) (by omega) (by omega) (by omega) (Ot (C[o]'(by omega)) q (by omega) (by omega) (kn ((C[o]'(by omega)).given) (by omega))));refine PD 7 ?_;refine PD 8 ?_;refine IY 9 (q*7) yB fF ?_;refine ta 10 rfl (aY (r:=q*7+2) rfl mV rfl e8 rfl rfl) ?_;refine IY 11 (q*7+2+o) jU aQ ?_;refine LX 12 Y3 (.int .i64 ((((C[q]'(by omega)).given)[o]'(by omega)))) ?_ (hc:=by exact n5 bA C (i:=q) (2+o) (by omega) (by omega) (by omega) (Ot (C[q]'(by omega)) o (by omega) (by omega) (kn ((C[q]'(by omega)).given) (by omega))));refine ta 13 rfl (jd (r:=(fY ((((C[o]'(by omega)).given)[q]'(by omega))- (((C[q]'(by omega)).given)[o]'(by omega))))) rfl rfl rfl rfl) ?_;refine ta 14 rfl (cC (r:=(fY (r3+(fY ((((C[o]'(by omega)).given)[q]'(by omega))- (((C[q]'(by omega)).given)[o]'(by omega))))))) rfl rfl rfl rfl) ?_;refine PD 15 ?_;refine DN (ag (ac J23 (ae (AD ?_))));refine PS ?_;refine au ?_
 exact aK ((o+1,(fY (r3+(fY ((((C[o]'(by omega)).given)[q]'(by omega))- (((C[q]'(by omega)).given)[o]'(by omega))))))):(Nat)×(Int)) ⟨by omega,by rw[yh,←hr3,xp _ (by omega),hq,xp _ hq5,←hE o (by omega),←hE q hq5]⟩ (by show 5- (o+1)<5-o;omega)
   SB
   (λ_ s=>am [0,0,0] rfl s)
 refine nx J21 (aa λ_ J25=>CN (aX (aA (aA (br (ag (ac J17 (ae (AD ?_)))))))));refine PS ?_;refine au ?_
 exact aK ((i+1,r3):(Nat)×(Int)) ⟨by omega,by
          have h5:o=5:=by omega
          rw[cv (by omega),ei,←hr];show r3=oP B key r _
          rw[hr3,h5,oP,←hE2]⟩ (by show(gq (cr B who) who).length- (i+1)< (gq (cr B who) who).length-i;omega)
   SB
   (λ_ s=>am [0,0,0] rfl s)
 refine nx J15 (aa λ_ J26=>CN (aX (aA (aA (br (ac J13 (sr λ_ J27=>P2 ?_)))))));refine nx J27 (ai (WK [2] (av rfl rfl ?_)));obtain rfl:i=(gq (cr B who) who).length:=by omega
 exact⟨by rw[pc,if_pos h14,hr,iA],rfl⟩;refine PS ?_;refine nx J3 (CY (sr λ_ J28=>PS ?_));refine nx J28 (ai (af (WK [0] (av rfl rfl ?_))));exact⟨by rw[pc,if_neg (by simp[h14])],rfl⟩
theorem lT(b off T:Nat)(cs:MirT→List Value)(hA:Arnd cs MirT.cells off)(M:MirT)(who:Int):
 DT 77 #[(.pointer (some ⟨b,off,none⟩)),(.int .i64 (who))] T0 [ak b (cs M) T] (RI (.agg (ints (cQ M who).flat).toArray) [ak b (cs M) T]):=by
 refine BD 15 Tryz.func77 rfl rfl rfl λw0 F hF=>sr λ_ J1=>XZ vf (ints RowT.zero.flat) λb4=>?_
 refine nx J1 (aa λ_ J2=>sr λ_ J3=>PS ?_);refine CE FK (iv who) ID ?_;refine bc ?_ ?_<;>intro h6;have hm:0≤who∧who<5:=of_decide_eq_true h6;refine PS ?_;refine nx J3 (CN (qx J2 (sr λ_ J4=>P3 ?_)));refine tp (aY (r:=off) rfl Ff rfl tK rfl rfl) ?_;refine IX (off+who.toNat*174) HA be ?_;refine tp (aM (vs:=ints (M.rows[who.toNat]'(by omega)).flat) rfl ee rfl be rfl (RO 1) (aj (M.rows[who.toNat]'(by omega))) (OA hA (j:=who.toNat*174) (by omega) (LB (qo _)) (MirT.sub_rows M (who.toNat*174) (by omega) (by omega) (kE dE M.rows (i:=who.toNat) 0 (by omega) (by omega) (by decide) (whole (aj (M.rows[who.toNat]'(by omega)))))))) ?_;refine SW 0 be aj ?_;refine nx J4 (ai (RC 0 [1] ee be (aj _) ?_));exact⟨by rw[cQ,dif_pos h6],rfl⟩;refine PS ?_;refine nx J3 (CY (sr λ_ J5=>BV ((ints RowT.zero.flat).toArray) ?_));refine SW 0 be aj ?_;refine nx J5 (ai (af (RC 0 [1] ee be (aj _) ?_)));exact⟨by rw[cQ,dif_neg (by simp[h6])],rfl⟩
theorem nd(b off T:Nat)(cs:MirT→List Value)(hA:Arnd cs MirT.cells off)(M:MirT)(who:Int):
 DT 78 #[(.pointer (some ⟨b,off,none⟩)),(.int .i64 (who))] T0 [ak b (cs M) T] (RI (.bool (fp M who)) [ak b (cs M) T]):=by
 refine BD 15 Tryz.func78 rfl rfl rfl λw0 F hF=>sr λ_ J1=>PS ?_
 refine nx J1 (sr λ_ J2=>PS ?_);refine CE FK (iv who) ID ?_;refine bc ?_ ?_<;>intro h6;have hm:0≤who∧who<5:=of_decide_eq_true h6;refine P4 ?_;refine tq (aY (r:=off+870) rfl Ff rfl LP rfl rfl) ?_;refine IX (off+870+who.toNat) Tryz.underlying96 k9 ?_;refine LT 0 Y4 (.bool ((M.sealed[who.toNat]'(by omega)))) ?_ (hc:=by exact Arnd.at hA (j:=870+who.toNat) (by omega) (LB (qo _)) (MirT.pt_sealed M (who.toNat) (by omega) (by omega) (KQ M.sealed (by omega))));refine P2 ?_;refine nx J2 (ai (WK [0] (av rfl rfl ?_)));exact⟨by simp[fp, *],rfl⟩;refine PS ?_
 iterate 6 refine UF ?_
 refine P2 ?_;refine nx J2 (ai (WK [0] (av rfl rfl ?_)));exact⟨by simp[fp, *],rfl⟩
theorem qR(b off T:Nat)(cs:MirT→List Value)(hA:Arnd cs MirT.cells off)(M:MirT)(who:Int)(x:RowT)(hx:WF x.flat):
 DT 160 #[(.pointer (some ⟨b,off,none⟩)),(.int .i64 (who)),(.agg (ints x.flat).toArray)] T0 [ak b (cs M) T] (RI (.bool (lS M who x)) [ak b (cs M) T]):=by
 refine BD 34 Tryz.func160 rfl rfl rfl λw0 F hF=>sr λ_ J1=>XY (ints x.flat) λb5=>?_
 refine PS ?_;refine nx J1 (aa λ_ J2=>D2 1 0 bm ?_);refine PD 0 ?_;refine AL 1 ?_;refine CE FK (iv who) ID ?_;refine bc ?_ ?_<;>intro h8;have hm:0≤who∧who<5:=of_decide_eq_true h8;refine EN (PD 2 ?_);refine PD 3 ?_;refine PD 4 ?_;refine PD 5 ?_;refine tb 6 rfl (aY (r:=off+870) rfl Ff rfl LP rfl rfl) ?_;refine IY 7 (off+870+who.toNat) Tryz.underlying96 k9 ?_;refine LX 8 Y4 (.bool ((M.sealed[who.toNat]'(by omega)))) ?_ (hc:=by exact Arnd.at hA (j:=870+who.toNat) (by omega) (LB (qo _)) (MirT.pt_sealed M (who.toNat) (by omega) (by omega) (KQ M.sealed (by omega))));refine oA ?_ ?_<;>intro h15;refine PD 9 ?_;refine PD 10 ?_;refine PD 11 ?_;refine NT 12 ?_;refine NT 13 ?_;refine PD 14 ?_;refine PD 15 ?_;refine NT 16 ?_;refine NT 17 ?_;refine NT 18 ?_;refine NT 19 ?_;refine NT 20 ?_;refine NT 21 ?_;refine NT 22 ?_;refine NT 23 ?_;refine NT 24 ?_;refine NT 25 ?_;refine PD 26 ?_;refine PD 27 ?_;refine DN (ac J2 (ai (WK [1] (av rfl rfl ?_))));exact⟨by simp[lS,fp,cQ, *],rfl⟩;refine PD 9 ?_;refine PD 10 ?_;refine PD 11 ?_;refine LY 12 ee be aj ?_;refine AL 13 ?_;refine CE GY (iL x hx) ID ?_;refine bc ?_ ?_<;>intro h20;refine EN (PD 14 ?_);refine PD 15 ?_;refine FD 16 0 ee aQ ?_;refine LR 17 Y3 (cH x rfl) ?_;refine PD 18 ?_;refine PD 19 ?_;refine PD 20 ?_;refine tb 21 rfl (aY (r:=off) rfl Ff rfl tK rfl rfl) ?_;refine IY 22 (off+who.toNat*174) HA be ?_;refine tb 23 rfl (aY (r:=off+who.toNat*174) rfl ee rfl aQ rfl rfl) ?_
 refine LX 24 Y3 (.int .i64 ((M.rows[who.toNat]'(by omega)).version)) ?_ (hc:=by exact Arnd.at hA (j:=who.toNat*174) (by omega) (LB (qo _)) (MirT.pt_rows M (who.toNat*174) (by omega) (by omega) (n5 dE M.rows (i:=who.toNat) 0 (by omega) (by omega) (by decide) (cH _ rfl))));refine PD 25 ?_;refine PD 26 ?_;refine PD 27 ?_;refine DN (ac J2 (ai (WK [1] (av rfl rfl ?_))));exact⟨by simp[lS,fp,cQ, *],rfl⟩;refine EN (PD 14 ?_);refine PD 15 ?_;refine NT 16 ?_;refine NT 17 ?_;refine NT 18 ?_;refine NT 19 ?_;refine NT 20 ?_;refine NT 21 ?_;refine NT 22 ?_;refine NT 23 ?_;refine NT 24 ?_;refine NT 25 ?_;refine PD 26 ?_;refine PD 27 ?_;refine DN (ac J2 (ai (WK [1] (av rfl rfl ?_))));exact⟨by simp[lS,fp,cQ, *],rfl⟩;refine EN (PD 2 ?_);refine NT 3 ?_;refine NT 4 ?_;refine NT 5 ?_;refine NT 6 ?_;refine NT 7 ?_;refine NT 8 ?_;refine NT 9 ?_;refine PD 10 ?_;refine PD 11 ?_;refine NT 12 ?_;refine NT 13 ?_;refine PD 14 ?_;refine PD 15 ?_;refine NT 16 ?_;refine NT 17 ?_;refine NT 18 ?_;refine NT 19 ?_;refine NT 20 ?_;refine NT 21 ?_;refine NT 22 ?_;refine NT 23 ?_;refine NT 24 ?_;refine NT 25 ?_;refine PD 26 ?_;refine PD 27 ?_;refine DN (ac J2 (ai (WK [1] (av rfl rfl ?_))));exact⟨by simp[lS,fp,cQ, *],rfl⟩
theorem sY(b off T:Nat)(cs:MirT→List Value)(hA:Arnd cs MirT.cells off)(M:MirT)(who:Int)(x:RowT)(hx:WF x.flat):
 DT 131 #[(.pointer (some ⟨b,off,none⟩)),(.int .i64 (who)),(.agg (ints x.flat).toArray)] T0 [ak b (cs M) T] (RI (.bool (kR M who x).2) [ak b (cs (kR M who x).1) T]):=by
 refine BD 18 Tryz.func131 rfl rfl rfl λw0 F hF=>sr λ_ J1=>XY (ints x.flat) λb5=>?_
 refine PS ?_;refine nx J1 (aa λ_ J2=>sr λ_ J3=>P2 ?_);refine LW 0 ee be aj ?_;refine CE K9 (qR b off T cs hA M who x hx) (SM [1]) ?_;refine bc ?_ ?_<;>intro h10;have hm0:cN who=true:=by have:=h10;simp only[lS,aw]at this;exact this.1.1.1
 have hm:0≤who∧who<5:=of_decide_eq_true hm0;refine PS ?_;refine nx J3 (CN (qx J2 (aa λ_ J4=>D1 1 bm ?_)));refine PD 0 ?_;refine PD 1 ?_;refine LY 2 ee be aj ?_;refine PD 3 ?_;refine ta 4 rfl (aY (r:=off) rfl Ff rfl tK rfl rfl) ?_;refine IY 5 (off+who.toNat*174) HA be ?_;refine AL 6 ?_;refine bN (vs:=ints x.flat) (i:=0) (ab rfl) rfl rfl rfl rfl rfl (by rw[(aj x)];exact be) (bC _) rfl rfl (by have h0:=(qo M);have h2:=Arnd.le hA M;have h1:=(aj x);omega) (Arnd.wr hA (x:=M) (x':=(MirT.mk (M.rows.set who.toNat x (by omega)) M.sealed)) (j:=who.toNat*174) (by omega) (LC (qo _) (aj _)) (MirT.wr_rows_ M (who.toNat*174) (by omega) (by have h1:=(aj x);omega) (uy dE M.rows (i:=who.toNat) 0 (by omega) (by omega) (by have h1:=(aj x);omega) (ct ((aj (M.rows[who.toNat]'(by omega))).trans (aj x).symm))))) rfl (au (E1 1 (DN (ac J4 (sr λ_ J5=>PS ?_)))));refine nx J5 (ai (WK [0] (av rfl rfl ?_)));have e:kR M who x=(xa M who x,true):=by rw[kR,if_pos h10]
 exact⟨by rw[e],by rw[e,xa,dif_pos hm0];rfl⟩;refine PS ?_;refine nx J3 (CY (sr λ_ J6=>PS ?_));refine nx J6 (ai (af (WK [0] (av rfl rfl ?_))));have e:kR M who x=(M,false):=by rw[kR,if_neg (by simp[h10])]
 exact⟨by rw[e],by rw[e];rfl⟩
theorem sX(b off T:Nat)(cs:MirT→List Value)(hA:Arnd cs MirT.cells off)(M:MirT)(who:Int):
 DT 132 #[(.pointer (some ⟨b,off,none⟩)),(.int .i64 (who))] T0 [ak b (cs M) T] (RI (.tuple #[.agg (ints (cQ M who).flat).toArray, .bool (cN who)]) [ak b (cs (lU M who)) T]):=by
 refine Leg.Does.body (vs:=[(.pointer (some ⟨b,off,none⟩)),(.int .i64 (who))]) (n:=21) Tryz.func132 rfl rfl rfl (λw0 F hF=>?_);refine sr λ_ J1=>?_
 refine qn (ab rfl) rfl rfl rfl vf (λb4=>?_);change TL _ _ _ _ _ _ _ _ _ [ak b4 (ints RowT.zero.flat) 60,ak b (cs M) T];refine pC ?_;refine nx J1 ?_;clear J1;refine aa λ_ J2=>?_
 refine sr λ_ J3=>?_
 refine mv ?_;refine kX (ab rfl) rfl rfl rfl FK rfl (iv who) (λ_ s=>s) (λ_ _ _=>trivial) (λvR HR hR=>?_);obtain⟨rfl,rfl⟩:=hR;refine bc (λh7=>?_) (λh7=>?_);have hm:0≤who∧who<5:=of_decide_eq_true h7;refine tp (oB (r:=false) rfl rfl rfl) ?_;refine nx J3 ?_;clear J3;refine F2 rfl ?_;refine aU ?_;refine ac J2 ?_;clear J2;refine sr λ_ J4=>?_
 refine mv ?_;refine mv ?_;refine tp (gk rfl rfl) ?_;refine tp (aY (r:=off+870) rfl Ff rfl LP rfl rfl) ?_;refine tp (eT (r:=off+870+who.toNat) rfl Tryz.underlying96 k9 rfl rfl (by omega) (by omega) (by omega)) ?_;refine bF (i:=1) (ab rfl) rfl rfl rfl rfl rfl k9 rfl rfl (by have h0:=(qo M);have h2:=Arnd.le hA M;omega) (Arnd.set hA (x:=M) (x':=(MirT.mk M.rows (M.sealed.set who.toNat true (by omega)))) (j:=870+who.toNat) (by omega) (by have h0:=(qo M);omega) (MirT.st_sealed M (who.toNat) (by omega) (by omega) (MR M.sealed (by omega) _))) rfl ?_;refine nx J4 ?_;clear J4;refine sr λ_ J5=>?_
 refine mv ?_;refine mv ?_;refine tp (gk rfl rfl) ?_;refine tp (aY (r:=off) rfl Ff rfl tK rfl rfl) ?_;refine tp (eT (r:=off+who.toNat*174) rfl HA be rfl rfl (by omega) (by omega) (by omega)) ?_;refine tp (aM (vs:=ints (M.rows[who.toNat]'(by omega)).flat) rfl ee rfl be rfl (fi 1 rfl rfl) (aj (M.rows[who.toNat]'(by omega))) (OA hA (j:=who.toNat*174) (by omega) (by have h0:=(qo (MirT.mk M.rows (M.sealed.set who.toNat true (by omega))));omega) (MirT.sub_rows (MirT.mk M.rows (M.sealed.set who.toNat true (by omega))) (who.toNat*174) (by omega) (by omega) (kE dE M.rows (i:=who.toNat) 0 (by omega) (by omega) (by decide) (whole (aj (M.rows[who.toNat]'(by omega)))))))) ?_;refine bN (vs:=ints (M.rows[who.toNat]'(by omega)).flat) (i:=0) (ab rfl) rfl rfl rfl rfl rfl (by rw[(aj (M.rows[who.toNat]'(by omega)))];exact be) (bC _) rfl rfl (by have h0:=(aj RowT.zero);have h1:=(aj (M.rows[who.toNat]'(by omega)));omega) (ct ((aj RowT.zero).trans (aj (M.rows[who.toNat]'(by omega))).symm)) rfl ?_;refine pC ?_;refine nx J5 ?_;clear J5;refine ai ?_;refine l6 (H':=[ak b (cs (MirT.mk M.rows (M.sealed.set who.toNat true (by omega)))) T]) rfl rfl rfl ee rfl be (fi 0 rfl rfl) (aj (M.rows[who.toNat]'(by omega))) (λ_ s=>am [1] rfl s) ?_;exact⟨by simp[cQ, *],by simp[lU, *]⟩;refine tp (oB (r:=true) rfl rfl rfl) ?_;refine nx J3 ?_;clear J3;refine ny rfl ?_;refine sr λ_ J6=>?_
 refine tp (j8 (cells:=(ints RowT.zero.flat).toArray) rfl rfl (by as_aux_lemma=>kernel_rfl)) ?_;refine bN (vs:=ints RowT.zero.flat) (i:=0) (ab rfl) rfl rfl rfl rfl rfl (by rw[(aj RowT.zero)];exact be) (bC _) rfl rfl (by have h0:=(aj RowT.zero);have h1:=(aj RowT.zero);omega) (ct ((aj RowT.zero).trans (aj RowT.zero).symm)) rfl ?_;refine pC ?_;refine nx J6 ?_;clear J6;refine ai ?_;refine af ?_;clear J2;refine l6 (H':=[ak b (cs M) T]) rfl rfl rfl ee rfl be (fi 0 rfl rfl) (aj RowT.zero) (λ_ s=>am [1] rfl s) ?_;exact⟨by simp[cQ, *],by simp[lU, *]⟩
end Go.Proofs.YtjblgopghhgflaaGreat
end

section
namespace Api
open Go Leg Codec
def ek(k:Int):Bool:=decide (k=0∨k=2∨k=9)
def e5(k:Int):Bool:=decide (k=3∨k=6)
def cM:Ps (MsgT×Bool):=pb (fx 10) λk=>
 if ek k then pb (fx 5) λw=>pb vg λx=>pr (⟨k,w,x,0,0, .zero, .zero, .zero, .zero⟩,gD x)
 else if k=1 then pb nv λn=>pr (⟨k,0, .zero,n,0, .zero, .zero, .zero, .zero⟩,true)
 else if e5 k then pb nv λn=>pb kf λb=>pr (⟨k,0, .zero,0,n,b, .zero, .zero, .zero⟩,true)
 else if k=4 then pb nv λn=>pb kf λb=>pb kf λd=>pb lF λc=>pr (⟨k,0, .zero,0,n,b,d,c, .zero⟩,true)
 else if k=5 then pb nv λn=>pb kf λb=>pb lF λc=>pr (⟨k,0, .zero,0,n,b, .zero,c, .zero⟩,true)
 else if k=7 then pb mY λv=>pr (⟨k,0, .zero,0,0, .zero, .zero, .zero,v⟩,ki v)
 else if k=8 then pb (fx 5) λw=>pb mY λv=>pr (⟨k,w, .zero,0,0, .zero, .zero, .zero,v⟩,ki v)
 else pr (⟨k,0, .zero,0,0, .zero, .zero, .zero, .zero⟩,true)
def dx:Ps (RecT×Bool):=pb (fx 6) λk=>
 if k=0 then pb vg λx=>pr (⟨k,0,x,0, .zero, .zero, .zero⟩,gD x)
 else if k=1 then pb (fx 5) λw=>pb vg λx=>pr (⟨k,w,x,0, .zero, .zero, .zero⟩,gD x)
 else if k=2 then pb (fx 5) λw=>pr (⟨k,w, .zero,0, .zero, .zero, .zero⟩,true)
 else if k=3 then pb nv λn=>pb kf λb=>pr (⟨k,0, .zero,n,b, .zero, .zero⟩,true)
 else if k=4 then pb nv λn=>pb kf λb=>pb lF λc=>pr (⟨k,0, .zero,n,b,c, .zero⟩,true)
 else if k=5 then pb mY λv=>pr (⟨k,0, .zero,0, .zero, .zero,v⟩,ki v)
 else pr (⟨k,0, .zero,0, .zero, .zero, .zero⟩,true)
def gE(bs:List UInt8):MsgT×Int:=match cM bs with
 |some ((m,true),[])=>(m,0)
 |_=>(.zero,1)
def jH(bs:List UInt8):RecT×Int:=match dx bs with
 |some ((m,true),[])=>(m,0)
 |_=>(.zero,1)
def cS(m:MsgT):List UInt8:=
 if ek m.kind then bj [m.kind,m.whose]++dQ m.row
 else if m.kind=1 then bj [m.kind,m.version]
 else if e5 m.kind then bj [m.kind,m.epoch]++bj m.ballot.flat
 else if m.kind=4 then bj [m.kind,m.epoch]++bj m.ballot.flat++bj m.had.flat++bj m.change.flat
 else if m.kind=5 then bj [m.kind,m.epoch]++bj m.ballot.flat++bj m.change.flat
 else if m.kind=7 then bj [m.kind]++bj m.view.flat
 else if m.kind=8 then bj [m.kind,m.whose]++bj m.view.flat
 else []
def fO(m:RecT):List UInt8:=
 if m.kind=0 then bj [m.kind]++dQ m.row
 else if m.kind=1 then bj [m.kind,m.whose]++dQ m.row
 else if m.kind=2 then bj [m.kind,m.whose]
 else if m.kind=3 then bj [m.kind,m.epoch]++bj m.ballot.flat
 else if m.kind=4 then bj [m.kind,m.epoch]++bj m.ballot.flat++bj m.change.flat
 else if m.kind=5 then bj [m.kind]++bj m.view.flat
 else []
theorem sv{v:ViewT}{bs r:List UInt8}(h:mY bs=some (v,r)):Rng v:=λi hi=>by
 have:=(n7 h).1.2.2 i hi;exact⟨this.1,by omega⟩
theorem Ar{x:RowT}{bs r:List UInt8}(h:vg bs=some (x,r)):WF x.flat:=(sO h).1.wf
def Nm(n:Int):Prop:=0≤n∧n<9223372036854775808
def OkB(b:BallotT):Prop:=Nm b.round∧0≤b.who∧b.who<5
def OkC(c:ChangeT):Prop:=(0≤c.kind∧c.kind<2)∧(0≤c.who∧c.who<5)∧(0≤c.heir∧c.heir<5)
def PL(v:ViewT):Prop:=Nm v.epoch∧(0≤v.members∧v.members<32)∧∀(i:Nat) (h:i<5),0≤v.heirs[i]∧v.heirs[i]<6
def Jw(m:MsgT):Bool:=if ek m.kind then gD m.row else if m.kind=7∨m.kind=8 then ki m.view else true
structure OkM(m:MsgT):Prop where
 kind:0≤m.kind∧m.kind<10
 whose:0≤m.whose∧m.whose<5
 row:TameR m.row
 version:Nm m.version
 epoch:Nm m.epoch
 ballot:OkB m.ballot
 had:OkB m.had
 change:OkC m.change
 view:PL m.view
theorem Mr(i:Nat)(hi:i<5):RowT.zero.heir[i]=0:=by match i,hi with|0,_|1,_|2,_|3,_|4,_=>rfl
theorem xL(k:Nat)(hk:k<4):RowT.zero.cells[k]=CellT.zero:=by match k,hk with|0,_|1,_|2,_|3,_=>rfl
theorem AS(i:Nat)(hi:i<5):RowT.zero.left[i]=RowT.zero.cells:=by match i,hi with|0,_|1,_|2,_|3,_|4,_=>rfl
theorem tame_rzero:TameR RowT.zero:=⟨⟨by decide,by decide⟩,λk hk=>by rw[xL k hk];exact tJ,λi hi=>by rw[Mr i hi];decide,λi k hi hk=>by rw[show RowT.zero.left[i][k]=RowT.zero.cells[k]from by rw[AS i hi],xL k hk];exact tJ,λi hi _=>by rw[AS i hi,AS 0 (by decide)]⟩
theorem xm{k:Int}(h: ¬ek k=true)(h2: ¬e5 k=true):k≠0∧k≠2∧k≠9∧k≠3∧k≠6:=by
 have n0: ¬(k=0∨k=2∨k=9):=λe=>h (decide_eq_true e)
 have n2: ¬(k=3∨k=6):=λe=>h2 (decide_eq_true e)
 omega
theorem IL{m:MsgT}{g:Bool}{bs r:List UInt8}(h:cM bs=some ((m,g),r)):bs=cS m++r∧Jw m=g∧(0≤m.kind∧m.kind<10)∧(0≤m.whose∧m.whose<5)∧TameR m.row:=by
 obtain⟨k,r1,h1,h2⟩:=bl h;clear h;obtain⟨k1,rfl⟩:=cU h1;have tz:=tame_rzero;have kz:(0:Int)≤0∧(0:Int)<5:=by omega
 by_cases c0:ek k=true
 · simp only[if_pos c0]at h2
   obtain⟨w,r2,h3,h4⟩:=bl h2;obtain⟨k3,rfl⟩:=cU h3;obtain⟨x,r3,h5,h6⟩:=bl h4;obtain⟨k5,rfl⟩:=sO h5;obtain⟨e,rfl⟩:=fL h6;injection e with e1 e2;subst e1;subst e2
   exact⟨by simp[cS,c0,bj],by simp[Jw,c0],⟨k1.1,k1.2.1⟩,⟨k3.1,k3.2.1⟩,k5⟩
 simp only[if_neg c0]at h2;have fin: ∀{m:MsgT} {bs':List UInt8},m.kind=k→iz k++bs'=cS m++r→Jw m=g→(0≤m.whose∧m.whose<5)→TameR m.row→iz k++bs'=cS m++r∧Jw m=g∧(0≤m.kind∧m.kind<10)∧(0≤m.whose∧m.whose<5)∧TameR m.row:=λe a b c d=>⟨a,b,by rw[e];exact⟨k1.1,k1.2.1⟩,c,d⟩
 by_cases c1:k=1
 · simp only[if_pos c1]at h2
   subst c1;obtain⟨n,r2,h3,h4⟩:=bl h2;obtain⟨_,_,rfl⟩:=ic h3;obtain⟨e,rfl⟩:=fL h4;injection e with e1 e2;subst e1;subst e2
   exact fin rfl (by simp[cS,ek,e5,bj]) (by simp[Jw,ek]) kz tz
 simp only[if_neg c1]at h2
 by_cases c2:e5 k=true
 · simp only[if_pos c2]at h2
   obtain⟨n,r2,h3,h4⟩:=bl h2;obtain⟨_,_,rfl⟩:=ic h3;obtain⟨b,r3,h5,h6⟩:=bl h4;obtain⟨_,rfl⟩:=jz h5;obtain⟨e,rfl⟩:=fL h6;injection e with e1 e2;subst e1;subst e2
   have:=of_decide_eq_true c2;exact fin rfl (by simp[cS,c0,c1,c2,bj]) (by simp[Jw,c0];omega) kz tz
 simp only[if_neg c2]at h2
 by_cases c3:k=4
 · simp only[if_pos c3]at h2
   subst c3;obtain⟨n,r2,h3,h4⟩:=bl h2;obtain⟨_,_,rfl⟩:=ic h3;obtain⟨b,r3,h5,h6⟩:=bl h4;obtain⟨_,rfl⟩:=jz h5;obtain⟨d,r4,h7,h8⟩:=bl h6;obtain⟨_,rfl⟩:=jz h7;obtain⟨c,r5,h9,h10⟩:=bl h8;obtain⟨_,rfl⟩:=nL h9;obtain⟨e,rfl⟩:=fL h10;injection e with e1 e2;subst e1;subst e2
   exact fin rfl (by simp[cS,ek,e5,bj]) (by simp[Jw,ek]) kz tz
 simp only[if_neg c3]at h2
 by_cases c4:k=5
 · simp only[if_pos c4]at h2
   subst c4;obtain⟨n,r2,h3,h4⟩:=bl h2;obtain⟨_,_,rfl⟩:=ic h3;obtain⟨b,r3,h5,h6⟩:=bl h4;obtain⟨_,rfl⟩:=jz h5;obtain⟨c,r5,h9,h10⟩:=bl h6;obtain⟨_,rfl⟩:=nL h9;obtain⟨e,rfl⟩:=fL h10;injection e with e1 e2;subst e1;subst e2
   exact fin rfl (by simp[cS,ek,e5,bj]) (by simp[Jw,ek]) kz tz
 simp only[if_neg c4]at h2
 by_cases c5:k=7
 · simp only[if_pos c5]at h2
   subst c5;obtain⟨v,r3,h5,h6⟩:=bl h2;obtain⟨_,rfl⟩:=n7 h5;obtain⟨e,rfl⟩:=fL h6;injection e with e1 e2;subst e1;subst e2
   exact fin rfl (by simp[cS,ek,e5,bj]) (by simp[Jw,ek]) kz tz
 simp only[if_neg c5]at h2;have c6:k=8:=by have:=xm c0 c2;omega
 simp only[if_pos c6]at h2;subst c6;obtain⟨w,r2,h3,h4⟩:=bl h2;obtain⟨k3,rfl⟩:=cU h3;obtain⟨v,r3,h5,h6⟩:=bl h4;obtain⟨_,rfl⟩:=n7 h5;obtain⟨e,rfl⟩:=fL h6;injection e with e1 e2;subst e1;subst e2
 exact fin rfl (by simp[cS,ek,e5,bj]) (by simp[Jw,ek]) ⟨k3.1,k3.2.1⟩ tz
def Ej(m:RecT):Bool:=if m.kind=0∨m.kind=1 then gD m.row else if m.kind=5 then ki m.view else true
structure OkRc(m:RecT):Prop where
 kind:0≤m.kind∧m.kind<6
 whose:0≤m.whose∧m.whose<5
 row:TameR m.row
 epoch:Nm m.epoch
 ballot:OkB m.ballot
 change:OkC m.change
 view:PL m.view
theorem Cd{m:RecT}{g:Bool}{bs r:List UInt8}(h:dx bs=some ((m,g),r)):bs=fO m++r∧Ej m=g∧(0≤m.kind∧m.kind<6)∧(0≤m.whose∧m.whose<5)∧TameR m.row:=by
 obtain⟨k,r1,h1,h2⟩:=bl h;clear h;obtain⟨k1,rfl⟩:=cU h1;have tz:=tame_rzero;have kz:(0:Int)≤0∧(0:Int)<5:=by omega
 by_cases c0:k=0
 · simp only[if_pos c0]at h2
   subst c0;obtain⟨x,r3,h5,h6⟩:=bl h2;obtain⟨k5,rfl⟩:=sO h5;obtain⟨e,rfl⟩:=fL h6;injection e with e1 e2;subst e1;subst e2
   exact⟨by simp[fO,bj],by simp[Ej],⟨k1.1,k1.2.1⟩,kz,k5⟩
 simp only[if_neg c0]at h2
 by_cases c1:k=1
 · simp only[if_pos c1]at h2
   subst c1;obtain⟨w,r2,h3,h4⟩:=bl h2;obtain⟨k3,rfl⟩:=cU h3;obtain⟨x,r3,h5,h6⟩:=bl h4;obtain⟨k5,rfl⟩:=sO h5;obtain⟨e,rfl⟩:=fL h6;injection e with e1 e2;subst e1;subst e2
   exact⟨by simp[fO,bj],by simp[Ej],⟨k1.1,k1.2.1⟩,⟨k3.1,k3.2.1⟩,k5⟩
 simp only[if_neg c1]at h2
 by_cases c2:k=2
 · simp only[if_pos c2]at h2
   subst c2;obtain⟨w,r2,h3,h4⟩:=bl h2;obtain⟨k3,rfl⟩:=cU h3;obtain⟨e,rfl⟩:=fL h4;injection e with e1 e2;subst e1;subst e2
   exact⟨by simp[fO,bj],by simp[Ej],⟨k1.1,k1.2.1⟩,⟨k3.1,k3.2.1⟩,tz⟩
 simp only[if_neg c2]at h2
 by_cases c3:k=3
 · simp only[if_pos c3]at h2
   subst c3;obtain⟨n,r2,h3,h4⟩:=bl h2;obtain⟨_,_,rfl⟩:=ic h3;obtain⟨b,r3,h5,h6⟩:=bl h4;obtain⟨_,rfl⟩:=jz h5;obtain⟨e,rfl⟩:=fL h6;injection e with e1 e2;subst e1;subst e2
   exact⟨by simp[fO,bj],by simp[Ej],⟨k1.1,k1.2.1⟩,kz,tz⟩
 simp only[if_neg c3]at h2
 by_cases c4:k=4
 · simp only[if_pos c4]at h2
   subst c4;obtain⟨n,r2,h3,h4⟩:=bl h2;obtain⟨_,_,rfl⟩:=ic h3;obtain⟨b,r3,h5,h6⟩:=bl h4;obtain⟨_,rfl⟩:=jz h5;obtain⟨c,r5,h9,h10⟩:=bl h6;obtain⟨_,rfl⟩:=nL h9;obtain⟨e,rfl⟩:=fL h10;injection e with e1 e2;subst e1;subst e2
   exact⟨by simp[fO,bj],by simp[Ej],⟨k1.1,k1.2.1⟩,kz,tz⟩
 simp only[if_neg c4]at h2;have c5:k=5:=by omega
 simp only[if_pos c5]at h2;subst c5;obtain⟨v,r3,h5,h6⟩:=bl h2;obtain⟨_,rfl⟩:=n7 h5;obtain⟨e,rfl⟩:=fL h6;injection e with e1 e2;subst e1;subst e2
 exact⟨by simp[fO,bj],by simp[Ej],⟨k1.1,k1.2.1⟩,kz,tz⟩
theorem Rng.zeros{v:ViewT}(h:v.heirs= #v[0,0,0,0,0]):Rng v:=λi hi=>by
 have:v.heirs[i]=0:=by
  rw[show v.heirs[i]=(#v[0,0,0,0,0]:Vector Int 5)[i]from by rw[h]]
  match i,hi with|0,_|1,_|2,_|3,_|4,_=>rfl
 omega
theorem Rng.zero:Rng ViewT.zero:=Rng.zeros rfl
theorem Rng.first:Rng firstV:=Rng.zeros rfl
structure GoodV(v:ViewT):Prop where
 epoch:1≤v.epoch
 mem:1≤v.members∧v.members<32
 ok: ∀(i:Nat) (h:i<5),KW v v.heirs[i] i=true
 rng:Rng v
def wL(x:RepT):MsgT:= {MsgT.zero with kind:=0,whose:=x.id,row:=x.own}
def qB(id:Int)(x:RowT):MsgT:= {MsgT.zero with kind:=2,whose:=id,row:=x}
def Bh(k w:Int):Bool:=decide (k.fdiv (2^min w.toNat IntKind.i64.bits)%2=0)
def n9(x:RepT):List SaidT:=((hO x.id).filter λw=>Bh x.kept w).map λw=>⟨w,wL x⟩
end Api
namespace Api
open Go Leg Codec
def gi(x:RepT)(o:OpT):RowT×Int:=
 if o.kind=0 then oN x.own o.key o.n else if o.kind=1 then oO x.own o.key o.n else if o.kind=2 then(if o.to'≠x.id then lC x.own o.key o.n o.to' else(.zero,5))else(.zero,5)
def jN(x:RepT)(o:OpT):RowT×Int×Int:=
 if iZ x.view x.id=false then(.zero,0,9)else if lw o.key=false then(.zero,0,5)else if o.kind=3 then(.zero,kx x.book o.key,0)else if x.busy then(.zero,0,8)
 else if(gi x o).2≠0 then(.zero,0,(gi x o).2)else if o.kind≠0∧pc x.book x.id o.key<o.n then(.zero,0,7)else((gi x o).1,0,0)
def iQ(y:RowT):RecT:= {RecT.zero with kind:=0,row:=y}
end Api
namespace Api
open Go Leg Codec
end Api
namespace Api
open Go Leg Codec
end Api
namespace Api
open Go Leg Codec
end Api
namespace Api
open Go Leg Codec
end Api
end

section
namespace Leg
open Go Go.ChangeShapes Go.WideShapes Codec Api
section
variable {P:Program} {W:World} {H:Type} {enc:TypeId×Value→H} {B0:Nat} {spare:Nat→Bool} {held:Bool}
theorem DO{t:TypeId}{fuel:Nat}{cs:List Value}{x:DataW H×List MemPlace}(ht:P.underlying t=some .bool)(h:DataW.trod enc P W B0 spare held fuel t cs=some x): ∃b,cs=[.bool b]:=by
 cases fuel with
 |zero=>simp[DataW.trod]at h
 |succ n=>
  unfold DataW.trod at h;rw[ht]at h;split at h<;>simp_all
theorem Fits.append{a b:List (Option IntKind)}{x y:List Lit}(h:Fits a x)(g:Fits b y):Fits (a++b) (x++y):=
 ⟨by rw[da,da,h.1,g.1],λl hl=>(cg.1 hl).elim (h.2 l) (g.2 l)⟩
theorem zB{d:Nat}(ih: ∀t ks,lj P d t=some ks→∀fuel cs x,DataW.trod enc P W B0 spare held fuel t cs=some x→∃ls,Fits ks ls∧cs=ls.map iq)(cs:List Value)(n:Nat):
 ∀(fs:List Field) (o:Nat) (ks:List (Option IntKind)),qb P (lj P d) fs o=some ks→cs.length=o+ks.length→
  (∀f∈fs,∃y,DataW.trod enc P W B0 spare held n f.type ((cs.drop f.offset).take (P.cellsOf f.type))=some y)→∃ls,Fits ks ls∧cs.drop o=ls.map iq
 | [],o,ks,h,hl,_=>by
  simp only[qb,Option.some.injEq]at h;subst h;exact⟨[],⟨rfl,λ_ h=>by cases h⟩,by rw[ci (by simpa using c7 hl)];rfl⟩
 |f::fs,o,ks,h,hl,hf=>by
  simp only[qb]at h;split at h
  · rename_i c hc
    split at h
    · rename_i hh
      obtain⟨m,hm,rfl⟩:=Option.map_eq_some_iff.1 h;rw[ah]at hl;obtain⟨y,hy⟩:=hf f (by simp);rw[hh.1,hh.2]at hy;obtain⟨l1,f1,e1⟩:=ih f.type c hc n _ _ hy;obtain⟨l2,f2,e2⟩:=zB ih cs n fs (o+c.length) m hm (by omega) (λg hg=>hf g (by simp[hg]));refine⟨l1++l2,f1.append f2,?_⟩;rw[da,←e1,←e2,←iI];exact(lc _ _).symm
    · cases h
  · cases h
theorem flat_in: ∀(d:Nat) (t:TypeId) (ks:List (Option IntKind)),lj P d t=some ks→∀fuel cs x,DataW.trod enc P W B0 spare held fuel t cs=some x→∃ls,Fits ks ls∧cs=ls.map iq
 |0,_,_,h=>by simp[lj]at h
 |d+1,t,ks,h=>λfuel cs x hx=>by
  have ih:=flat_in d;simp only[lj]at h;split at h
  · rename_i q hu
    simp only[Option.some.injEq]at h;subst h;obtain⟨n,rfl,_,hw⟩:=DataW.trod_int hu hx;exact⟨[.int q n],⟨rfl,by simpa using hw⟩,rfl⟩
  · rename_i hu
    simp only[Option.some.injEq]at h;subst h;obtain⟨b,rfl⟩:=DO hu hx;exact⟨[.bool b],⟨rfl,by simp[Lit.wf]⟩,rfl⟩
  · rename_i n e hu
    split at h
    · rename_i c hc
      split at h
      · rename_i hh
        simp only[Option.some.injEq]at h;subst h;obtain⟨xs,m,_,_,hl,hxl,hxi⟩:=DataW.trod_array hu hx;rw[hh.2]at hl
        have each: ∀k,k≤n→∃ls,Fits (List.replicate k c).flatten ls∧cs.take (k*c.length)=ls.map iq:=by
         intro k
         induction k with
         |zero=>intro _;exact⟨[],⟨rfl,λ_ h=>by cases h⟩,by simp⟩
         |succ k ihk=>
          intro hk;obtain⟨l1,f1,e1⟩:=ihk (by omega);have hy:=hxi k (by omega);rw[List.getElem?_eq_getElem (by omega),hh.1]at hy;obtain⟨l2,f2,e2⟩:=ih e c hc m _ _ hy;refine⟨l1++l2,?_,?_⟩
          · rw[List.replicate_succ',List.flatten_append]
            simpa using f1.append f2
          · rw[da,←e1,←e2,fQ,Nat.one_mul,List.take_add]
        obtain⟨ls,f,e⟩:=each n (aH _);rw[az (by omega)]at e;exact⟨ls,f,e⟩
      · cases h
    · cases h
  · rename_i fs hu
    split at h
    · rename_i m' hc
      split at h
      · rename_i hh
        simp only[Option.some.injEq]at h;subst h;obtain⟨xs,m,_,_,hl,hxl,hxi⟩:=DataW.trod_struct hu hx
        have:=zB (λt ks h=>ih t ks h) cs m fs.toList 0 _ hc (by rw[hl,hh.1,bg]) (λf hf=>by
         obtain⟨i,hi⟩:=List.getElem?_of_mem hf;have hi':fs[i]?=some f:=by simpa using hi
         have:=hxi i f hi';have hlt:=(Array.getElem?_eq_some_iff.1 hi').1;rw[List.getElem?_eq_getElem (by omega)]at this
         exact⟨_,this⟩)
        simpa using this
      · cases h
    · cases h
  · cases h
theorem fits_ints{c:Nat}{ls:List Lit}(h:Fits (List.replicate c (some .i64)) ls): ∃l,ls=nw l∧l.length=c∧WF l:=by
 obtain⟨h1,h2⟩:=h
 have e: ∀x∈ls,∃n,x= .int .i64 n:=λx hx=>by
  have:zp x∈ls.map zp:=List.mem_map_of_mem hx;rw[h1,List.map_replicate]at this;have:=List.eq_of_mem_replicate this;cases x<;>simp only[zp,Option.some.injEq,reduceCtorEq]at this;subst this;exact⟨_,rfl⟩
 refine⟨ls.map λx=>match x with| .int _ n=>n|_=>0,?_,?_,?_⟩
 · rw[nw,PX]
   conv=>lhs;rw[←List.map_id ls]
   refine dX λx hx=>?_
   obtain⟨n,rfl⟩:=e x hx;rfl
 · have:=congrArg List.length h1
   simpa using this
 · intro n hn
   obtain⟨x,hx,rfl⟩:=eG.1 hn;obtain⟨n,rfl⟩:=e x hx;exact h2 _ hx
theorem litI_cells(l:List Int):(nw l).map iq=ints l:=by simp[nw,ints,iq]
theorem yz{a:Addr}{v:Value}(h:W.cell? a=some v): ∃b o cs T z,a=⟨b,o,none⟩∧W.heap[b]?=some (.cells (List.toArray cs) T z)∧cs[o]?=some v:=by
 obtain⟨b,o,s⟩:=a;simp only[World.cell?]at h;split at h
 · rename_i cs T z hb
   cases s with
   |some s=>simp at h
   |none=>exact⟨b,o,cs.toList,T,z,rfl,by simpa using hb,by simpa using h⟩
 · cases h
theorem IN{t e:TypeId}{fuel size:Nat}{α:Type}{E:List Value→α→Hl→Prop}{cs:List Value}{x:DataW H×List MemPlace}(ht:P.underlying t=some (.slice e))(hc:P.cellsOf e=size)(hs:0<size)
 (hE: ∀fuel cs x,DataW.trod enc P W B0 spare held fuel e cs=some x→∃a,E cs a (hp W)) (h:DataW.trod enc P W B0 spare held fuel t cs=some x): ∃u l,cs=[u]∧IsL size E u l (hp W):=by
 classical
 rcases Deep.open_slice ht h with⟨rfl,_⟩| ⟨a,len,cap,m,n,D,Pl,rfl,_,hl,hm,hmm,_,hx⟩
 · exact⟨_,[],rfl, .inl ⟨rfl,rfl⟩⟩
 · have hlm:len≤m:=by rw[hmm];split<;>omega
   by_cases h0:len=0
   · subst h0
     exact⟨_,[],rfl, .inr (.inl ⟨a,cap,rfl,rfl⟩)⟩
   · have first: ∃v,W.cell? a=some v:=by
      obtain⟨cs',h1,_⟩:=hx 0 (by omega);obtain⟨_,h2,h3⟩:=World.cells?_some h1;have:=h3 0 (by omega);rw[gI,show(a.add 0).add 0=a from rfl,List.getElem?_eq_getElem (by omega)]at this;exact⟨_,this⟩
     obtain⟨v,hv⟩:=first;obtain⟨b,o,bs,T,z,rfl,hb,_⟩:=yz hv
     have each: ∀i,i<len→∃us,us.length=size∧(bs.drop (o+i*size)).take size=us∧∃x,E us x (hp W):=λi hi=>by
      obtain⟨cs',h1,h2⟩:=hx i (by omega);obtain⟨_,h3,h4⟩:=World.cells?_some h1;rw[hc]at h3 h4;refine⟨cs',h3,?_,hE _ _ _ h2⟩;apply List.ext_getElem?;intro k;rw[List.getElem?_take];split
      · rename_i hk
        have:=h4 k hk;rw[qk,qk]at this;simp only[World.cell?,hb,Option.isSome_none,Bool.false_eq_true,if_false]at this;rw[List.getElem?_drop]
        simpa using this
      · rw[List.getElem?_eq_none (by omega)]
     obtain⟨f,hf⟩: ∃f:Nat→α,∀i,i<len→E ((bs.drop (o+i*size)).take size) (f i) (hp W):=by
      have each': ∀i,i<len→∃x,E ((bs.drop (o+i*size)).take size) x (hp W):=λi hi=>by
       obtain⟨us,_,e2,q⟩:=each i hi;rw[e2];exact q
      obtain⟨x,_⟩:=each' 0 (by omega)
      haveI:Inhabited α:=⟨x⟩
      exact Deep.choose_lt each'
     refine⟨_,(List.range len).map f,rfl, .inr (.inr ⟨b,o,cap,bs,T,z,by simp,by simpa using hl,by simpa [maxLen]using hm,hb,λj hj=>?_⟩)⟩;have hj':j<len:=by simpa using hj
     obtain⟨us,e1,e2,_⟩:=each j hj';exact⟨us,e1,e2,by rw[←e2];simpa using hf j hj'⟩
theorem listV_in{t e:TypeId}{size:Nat}{α:Type}{E:List Value→α→Hl→Prop}{v:Value}{d:DataW H}{ps:List MemPlace}(ht:P.underlying t=some (.slice e))(hc:P.cellsOf e=size)(hs:0<size)(hv:Value.okWide P W .any B0 t v)
 (hE: ∀fuel cs x,DataW.trod enc P W 0 spare held fuel e cs=some x→∃a,E cs a (hp W)) (hd:DataW.Trod enc P W 0 spare held t v d ps): ∃l,IsL size E v l (hp W):=by
 obtain⟨fuel,hf⟩:=hd;obtain⟨u,l,h1,h2⟩:=IN ht hc hs hE hf;obtain⟨a,len,cap,rfl⟩:=WideShapes.okWide_slice ht hv;simp[Value.cells]at h1;subst h1;exact⟨l,h2⟩
end
section
variable {P:Program} {w0:World} {F:Hl} {n:Nat} {ops:Array Oper} {Q:QQ} {D:List Deferred} {L:List (Nat×Value)} {H:List HP} {o:Oper} {l:List Oper} {d:Nat} {S:World→Prop}
def x7(P:Program)(t:TypeId)(rv:Value)(nm:String)(f:FuncId):Prop:=∀w,(method (P.types.size+Made.depth) t rv nm).run P w= .ok (f,rv) w
theorem TL.callI{recv:Operand}{nm:String}{t:TypeId}{rv:Value}{f:FuncId}{xs:Array Operand}{ts:Array TypeId}{vs:List Value}{R:Hl→Prop}{A B:List HP}{p:Value→List HP→Prop}(hw:Want n D ops o L)
 (ho:o.op= .call {callee:= .invoke recv nm,args:=xs,argTypes:=ts}) (hd:o.dst=some d) (hn:Nat.blt d n=true) (hr:cK L recv=some (.iface t rv)) (hm:x7 P t rv nm f) (hf:Named P f) (hx:AW L xs.toList=some vs)
 (sp:Does P f (rv::vs).toArray R A (dz p)) (hp: ∀h,bG H h→bG (A++B) h) (hR: ∀g,Dj g F→bG B g→R (jn g F))
 (hret: ∀v H',p v H'→TL P w0 F n ops Q l D ((d,v)::L) (H'++B)):TL P w0 F n ops Q (o::l) D L H:=
 TL.callw hw (λa w g=>by
  have e:xs.map a.eval=vs.toArray:=g.evals hx;have e2:a.eval recv= .iface t rv:=g.eval hr;have e3:=hm w
  simp[execOp,ho,resolve,invoke,callMethod,e,e2,e3,mF hf])
  sp hp hR (λv H' q a g w s m=>by rw[hd];exact hret v H' q _ w (g.put (lb hn) v) s m) (λ_ _ h=>h.elim) (λ_ h=>h)
theorem TE.retCTT{H':List HP}{fn:Func}{post:Ending→List HP→Prop}{t t' t2 ty e m b:Nat}{cs:List Value}{z:Nat×Nat}{dt:TypeDesc}{v' v2:Value}(hr:fn.results=#[.cell t ty, .tmp t', .tmp t2])(he:lk L t=some (.pointer (some ⟨b,0,none⟩)))(e':lk L t'=some v')(e2:lk L t2=some v2)
 (hu:P.underlying ty=some dt) (hp:ey dt=false) (hm:(P.info? ty).map (·.size)=some m) (hR:Rd (Sat H F) b (.cells cs.toArray e z)) (hl:cs.length=m) (hk: ∀h,bG H h→bG H' h)
 (h:post (.returned (.tuple #[.agg cs.toArray,v',v2])) H'):TE w0 F n (bodyPost P fn (jS post w0 F)) .ret [] L H:=λa w f s q=>by
 have h1:a.tmps.getD t undef= .pointer (some ⟨b,0,none⟩):=f.eval (x:= .tmp t) he;have h2:a.tmps.getD t' undef=v':=f.eval (x:= .tmp t') e';have h4:a.tmps.getD t2 undef=v2:=f.eval (x:= .tmp t2) e2
 have h3:(results fn a.tmps).run P w= .ok (.tuple #[.agg cs.toArray,v',v2]) w:=by
  have h1':a.tmps[t]?.getD undef= .pointer (some ⟨b,0,none⟩):=by simpa using h1
  have h2':a.tmps[t']?.getD undef=v':=by simpa using h2
  have h4':a.tmps[t2]?.getD undef=v2:=by simpa using h4
  simp[results,hr,h1',h2',h4',asAddr,run_loadVar_row w b e ty cs.toArray z dt (hR w q) hu (by cases dt<;>simp[ey]at hp ⊢) (by simp[hm,hl])]
 exact bodyPost_ret h3 f.2.1 ⟨s,H',q.mono hk,h⟩
theorem PV.ifaceNotNil{t t' u:TypeId}{x:Operand}{v:Value}{ms:Array (String×TypeId)}(ho:o.op= .binOp .neq t x (.const .nilIface) t')(ht:P.underlying t=some (.interface ms))(hx:cK L x=some (.iface u v)):PV P n D L S o (.bool true):=
 gl ho hx rfl λw=>by
  have:=qT (P:=P) (w:=w) 9999 (u:=u) (v:=v) ht;simp[eqGuard,binOp,Op.equal,Op.maxDepth,this]
end
theorem FV(i:Nat){v:Value}{l:List Int}{e:Nat}{B:List HP}{F:Hl}(hi:Nat.blt i B.length=true)(hH:B.getD i (λ_=>True)=own v l.length (Api.ints l) e 1): ∀g,Dj g F→bG B g→IsI .i64 v l (jn g F):=λg _ s=>by
 obtain⟨h1,h2,d',rfl,a,_⟩:=eZ i (lb hi) s;rw[hH]at a;rcases a with⟨_,⟨h0,hn,_⟩| ⟨g,cap,cur,hv,hh,h3,h4,h5,h6⟩⟩
 · exact .inl ⟨h0,List.eq_nil_of_length_eq_zero hn⟩
 · refine .inr ⟨g,0,cap,cur.toList,e,(0,0),hv,h3,by simp only[maxLen]at h4;omega,hY (hY (by rw[hh];simp[sg])),λj hj=>?_⟩
   rw[fP]at h6;have e1:(cur.toList.take l.length)[j]?=some (.int .i64 (l.getD j 0)):=by rw[h6];exact Api.ints_get l j hj
   rw[List.getElem?_take,if_pos hj]at e1
   simpa using e1
variable {P:Program} {w0:World} {F:Hl} {n:Nat} {ops:Array Oper} {Q:QQ} {D:List Deferred} {L:List (Nat×Value)} {H:List HP} {d:Nat} {o:Oper} {l:List Oper}
theorem RU{fn:Func}{post:Ending→List HP→Prop}{t t' t2 ty e m b:Nat}{cs:List Value}{dt:TypeDesc}{v' v2:Value}(k:Nat)(is:List Nat)(hu:P.underlying ty=some dt)(hm:(P.info? ty).map (·.size)=some m)(hl:cs.length=m)(h:post (.returned (.tuple #[.agg cs.toArray,v',v2])) ((B2 H is).take is.length))(hr:fn.results=#[.cell t ty, .tmp t', .tmp t2]:=by exact rfl)(he:lk L t=some (.pointer (some ⟨b,0,none⟩)):=by exact rfl)(e':lk L t'=some v':=by exact rfl)(e2:lk L t2=some v2:=by exact rfl)(hp:ey dt=false:=by exact rfl)(hk:Nat.blt k H.length=true:=by exact rfl)(hH:H.getD k (λ_=>True)=ak b cs e:=by exact rfl)(hs:Kb H.length is=true:=by exact rfl):TE w0 F n (bodyPost P fn (jS post w0 F)) .ret [] L H:=TE.retCTT hr he e' e2 hu hp hm (fi k hk hH) hl (λ_ s=>am is hs s) h
end Leg
end

section
namespace Dsk
open Go Leg Codec Api
abbrev hJ:=List UInt8
def zs:hJ:=List.replicate 64 0
def B3(b:hJ):Value:= .agg (ej b).toArray
abbrev fo:=List (Int×hJ)
def eU(s:fo)(k:Int):hJ:=match s with
 | []=>zs
 | (a,b)::s=>if k=a then b else eU s k
def od(s:fo)(k:Int)(v:hJ):fo:=match s with
 | []=>[(k,v)]
 | (a,b)::s=>if k=a then(a,v)::s else(a,b)::od s k v
theorem kK(s:fo)(k j:Int)(v:hJ):eU (od s k v) j=if j=k then v else eU s j:=by
 induction s with
 |nil=>simp[od,eU]
 |cons p s ih=>
  obtain⟨a,b⟩:=p;simp only[od]
  by_cases h:k=a
  · subst h
    rw[if_pos rfl]
    by_cases h2:j=k
    · simp[eU,h2]
    · simp[eU,h2]
  · rw[if_neg h]
    simp only[eU]
    by_cases h2:j=a
    · subst h2
      rw[if_pos rfl,if_pos rfl,if_neg (by omega)]
    · rw[if_neg h2,if_neg h2,ih]
def rF(s:fo):List (Int×Value):=s.map λp=>(p.1,B3 p.2)
theorem xj(s:fo)(k:Int):(G8 (rF s) k).getD (B3 zs)=B3 (eU s k):=by
 induction s with
 |nil=>rfl
 |cons p s ih=>
  obtain⟨a,b⟩:=p;simp only[rF,fE,G8,eU]at ih ⊢;split
  · rfl
  · exact ih
theorem IR(s:fo)(k:Int)(v:hJ):xi (rF s) k (B3 v)=rF (od s k v):=by
 induction s with
 |nil=>rfl
 |cons p s ih=>
  obtain⟨a,b⟩:=p;simp only[rF,fE,xi,od]at ih ⊢;split
  · rfl
  · rw[ih];rfl
def db(p:Int×hJ):List Value:= .int .i64 p.1::ej p.2
def dO(ws:fo):List Value:=ws.flatMap db
def eJ(b:List UInt8):hJ:=b++List.replicate (64-b.length) 0
theorem dH{b:List UInt8}(h:b.length≤64):(eJ b).length=64:=by simp[eJ];omega
def Whole(s:fo):Prop:=∀p∈s,p.2.length=64
theorem cm{p:Int×hJ}(h:p.2.length=64):(db p).length=65:=by simp[db,ej,h]
theorem F9{ws:fo}(h:Whole ws){k:Nat}(hk:k<ws.length):((dO ws).drop (k*65)).take 65=db ws[k]:=by
 induction ws generalizing k with
 |nil=>simp at hk
 |cons p ws ih=>
  have h1:=cm (h p (by simp));simp only[dO,c8]at ih ⊢;cases k with
  |zero=>
   simp only[gI,bd,oE];rw[bZ (by omega),az (by omega)]
  |succ k=>
   rw[gz,ci (by omega),h1,show(k+1)*65-65=k*65 by omega,bO]
   simpa using ih (λq hq=>h q (by simp[hq])) (by simpa using hk)
theorem cj{s:fo}(h:Whole s)(k:Int):(eU s k).length=64:=by
 induction s with
 |nil=>simp[eU,zs]
 |cons p s ih=>
  obtain⟨a,b⟩:=p;simp only[eU];split
  · exact h (a,b) (by simp)
  · exact ih λq hq=>h q (by simp[hq])
theorem Whole.put{s:fo}(h:Whole s)(k:Int){v:hJ}(hv:v.length=64):Whole (od s k v):=by
 induction s with
 |nil=>intro p hp;simp only[od,cF]at hp;subst hp;exact hv
 |cons p s ih=>
  obtain⟨a,b⟩:=p;intro q hq;simp only[od]at hq;split at hq
  · rcases co.1 hq with rfl|hq
    · exact hv
    · exact h q (by simp[hq])
  · rcases co.1 hq with rfl|hq
    · exact h (a,b) (by simp)
    · exact ih (λq hq=>h q (by simp[hq])) q hq
theorem Whole.add{s:fo}(h:Whole s)(k:Int){v:hJ}(hv:v.length=64):Whole (s++[(k,v)]):=λp hp=>by
 rcases cg.1 hp with hp|hp
 · exact h p hp
 · simp only[cF]at hp;subst hp;exact hv
section
variable {P:Program} {n:Nat} {D:List Deferred} {L:List (Nat×Value)} {S:World→Prop} {o:Oper}
theorem PV.mapNil{t t' k e m:TypeId}{x y:Operand}(ho:o.op= .binOp .eql t x y t')(hu:P.underlying t=some (.map k e))(hx:cK L x=some (.map (some m)))(hy:cK L y=some (.map none)):PV P n D L S o (.bool false):=
 gl ho hx hy λw=>by
  have e:(Op.equal t (.map (some m)) (.map none)).run P w= .ok false w:=run_equalIn_map_nil w 9999 t k e (some m) hu;simp[eqGuard,binOp,e]
end
end Dsk
namespace Dsk
open Go Leg Codec Api
theorem zW{k:Int}{b:List UInt8}(h:b.length≤64):wr (.int .i64 k::ej zs) 1 ((ej b).take (min b.length 64))=db (k,eJ b):=by
 have e:(ej b).take (min b.length 64)=ej b:=az (by rw[ba];omega);rw[e,wr,ba]
 have e2:(Value.int IntKind.i64 k::ej zs).drop (1+b.length)=ej (List.replicate (64-b.length) 0):=by
  rw[show 1+b.length=b.length+1 by omega,ij];rw[ej,ej,zs,←k0,Fi]
 rw[e2];simp only[db,eJ,ej,da,List.take_succ_cons,List.take_zero,pB,bO]
theorem IZ(vs:List Value): ∀(j:Nat) (pre zeros:List Value),pre.length=j→zeros.length=vs.length→
 ((vs.zipIdx j).foldl (λ(cs:Array Value) (c,i)=>cs.setIfInBounds (0+i) c) (pre++zeros).toArray)=(pre++vs).toArray:=by
 induction vs with
 |nil=>intro j pre zeros _ h;rw[List.eq_nil_of_length_eq_zero h];rfl
 |cons v vs ih=>
  intro j pre zeros hp hz
  match zeros,hz with
  |z::zeros,hz=>
   rw[List.zipIdx_cons,List.foldl_cons]
   have e:(pre++z::zeros).toArray.setIfInBounds (0+j) v=((pre++[v])++zeros).toArray:=by
    rw[bg,List.setIfInBounds_toArray,gx _ _ (by omega),hp,yN,bY,aR];rfl
   simp only[e];rw[ih (j+1) (pre++[v]) zeros (by simp[hp]) (by simpa using hz),aR];rfl
theorem EH{zeros:Array Value}{vs:List Value}(h:zeros.size=vs.length):Instr.fill (λi=>some (i*vs.length,vs.length)) zeros [(0, .agg vs.toArray)]=some vs.toArray:=by
 have e:=IZ vs 0 [] zeros.toList rfl (by simpa using h);simp only[bO,Array.toArray_toList]at e;simp only[Instr.fill,Value.cells,List.size_toArray,gI,bg,ne_eq,not_true_eq_false,false_or,decide_false,Bool.false_or];rw[if_neg (by simp[h])];rw[←Array.foldl_toList,Array.toList_zipIdx];simp only[bg]at e;rw[e]
theorem mK{zeros:Array Value}{vs:List Value}{size:Nat}(h:vs.length=size)(hz:zeros.size=size):Instr.fill (λi=>some (i*size,size)) zeros [(0, .agg vs.toArray)]=some vs.toArray:=by
 subst h;exact EH hz
theorem iK(p:Int×hJ): ∀u∈db p,u.oneCell'=true:=by
 intro u hu;rcases co.1 hu with rfl|hu
 · rfl
 · exact eY _ u hu
end Dsk
namespace Leg
open Go
section
variable {P:Program} {w0:World} {F:Hl} {n:Nat} {ops:Array Oper} {Q:QQ} {D:List Deferred} {L:List (Nat×Value)} {H:List HP} {l:List Oper}
end
end Leg
namespace Dsk
open Go Leg Codec Api
def km(ws:fo)(k:Nat):Int×hJ:=ws.getD k (0,zs)
theorem tG{ws:fo}{k:Nat}(hk:k<ws.length):km ws k=ws[k]:=by simp[km,List.getD_eq_getElem?_getD,hk]
theorem dR{ws:fo}(h:Whole ws){k:Nat}(hk:k<ws.length):(km ws k).2.length=64:=by rw[tG hk];exact h _ (ec hk)
theorem qu{ws:fo}(h:Whole ws){k:Nat}(hk:k<ws.length):((dO ws).drop (k*65)).take 65=db (km ws k):=by rw[tG hk];exact F9 h hk
theorem Gb{ws:fo}(h:Whole ws){k:Nat}(hk:k<ws.length):(dO ws)[k*65]?=some (.int .i64 (km ws k).1):=by
 have e:=congrArg (λl:List Value=>l[0]?) (qu h hk)
 simpa [db]using e
theorem Ga{ws:fo}(h:Whole ws){k:Nat}(hk:k<ws.length):((dO ws).drop (k*65+1)).take 64=ej (km ws k).2:=by
 have e:=congrArg (λl:List Value=>l.drop 1) (qu h hk);simp only[oF,iI,db,ij,bd]at e;exact e
theorem vY{p:Int×hJ}(h:p.2.length=64):((db p).drop 1).take 64=ej p.2:=by
 simp only[db,ij,bd];exact az (by rw[ba,h];exact aH _)
theorem Bv{p:Int×hJ}{c:Nat}(h:p.2.length=64)(hc:c≤64):((db p).drop 1).take (min c 64)=(ej p.2).take c:=by
 simp only[db,ij,bd];congr 1;omega
theorem wi{l:List Value}{n:Nat}(h:l.length=n):(l.drop 0).take n=l:=by rw[bd,az (by omega)]
def Cw(s ws:fo):Nat→fo
 |0=>s
 |k+1=>od (Cw s ws k) (km ws k).1 (km ws k).2
theorem Whole.lay{s ws:fo}(h:Whole s)(hw:Whole ws): ∀k,k≤ws.length→Whole (Cw s ws k)
 |0,_=>h
 |k+1,hk=>(Whole.lay h hw k (by omega)).put _ (dR hw (by omega))
def lh(old new:hJ)(c:Nat):hJ:=new.take c++old.drop c
theorem n8{old new:hJ}{c:Nat}(h1:old.length=64)(h2:new.length=64):(lh old new c).length=64:=by simp[lh];omega
def mN(n:Int):Nat:=(min (max n 0) 64).toNat
theorem Kv(n:Int):min (max n 0) 64=((mN n:Nat):Int):=by unfold mN;omega
theorem mM(n:Int):mN n≤64:=by unfold mN;omega
def jI(mask torn:Int)(c:Nat)(s:fo)(k:Nat)(p:Int×hJ):fo:=
 if(k:Int)=torn then od s p.1 (lh (eU s p.1) p.2 c)else if mask.fdiv (2^ (k%32))%2=1 then od s p.1 p.2 else s
def gv(mask torn:Int)(c:Nat)(s ws:fo):Nat→fo
 |0=>s
 |k+1=>jI mask torn c (gv mask torn c s ws k) k (km ws k)
theorem Whole.crash{mask torn:Int}{c:Nat}{s ws:fo}(h:Whole s)(hw:Whole ws): ∀k,k≤ws.length→Whole (gv mask torn c s ws k)
 |0,_=>h
 |k+1,hk=>by
  have ih:=Whole.crash (mask:=mask) (torn:=torn) (c:=c) h hw k (by omega);simp only[gv,jI];split
  · exact ih.put _ (n8 (cj ih _) (dR hw (by omega)))
  · split
    · exact ih.put _ (dR hw (by omega))
    · exact ih
def iC(s ws:fo)(at':Int):Nat→hJ
 |0=>eU s at'
 |k+1=>if(km ws k).1=at' then(km ws k).2 else iC s ws at' k
theorem zb{s ws:fo}(h:Whole s)(hw:Whole ws)(at':Int): ∀k,k≤ws.length→(iC s ws at' k).length=64
 |0,_=>cj h _
 |k+1,hk=>by
  simp only[iC];split
  · exact dR hw (by omega)
  · exact zb h hw at' k (by omega)
theorem GC{s ws:fo}{at':Int}{k:Nat}(h:(km ws k).1=at'):iC s ws at' (k+1)=(km ws k).2:=by simp[iC,h]
theorem Ee{s ws:fo}{at':Int}{k:Nat}(h:(km ws k).1≠at'):iC s ws at' (k+1)=iC s ws at' k:=by simp[iC,h]
theorem Gg{old new:hJ}{c m:Nat}(hc:c≤64)(h1:old.length=64)(h2:new.length=64)(hm:m=c):wr (ej old) 0 (((ej new).take c).take m)=ej (lh old new c):=by
 subst hm;have:((ej new).take m).length=m:=by rw[bo,ba];omega
 rw[az (by omega),wr,this,List.take_zero,bO,bg];simp[ej,lh,pF,k0]
structure DS where
 s:fo
 ws:fo
 ar:Bool
 lf:Int
 dn:Bool
structure DS.Ok(D:DS):Prop where
 s:Whole D.s
 ws:Whole D.ws
 lf:0≤D.lf∧D.lf≤9223372036854775807
def DS.new:DS:=⟨[],[],false,0,false⟩
def DS.arm(D:DS)(n:Int):DS:= {D with ar:=true,lf:=max n 0}
def DS.write(D:DS)(at':Int)(bs:List UInt8):Int×DS:=
 if at'<0∨2048≤at'∨64<bs.length then(5,D)
 else if D.dn=true∨(D.ar=true∧D.lf=0)then(4,{D with dn:=true})
 else(0,{D with ws:=D.ws++[(at',eJ bs)],lf:=if D.ar=true then D.lf-1 else D.lf,dn:=false})
def DS.sync(D:DS):Int×DS:=if D.dn=true then(4,D)else(0,{D with s:=Cw D.s D.ws D.ws.length,ws:=[]})
def DS.crash(D:DS)(mask torn n:Int):DS:=⟨gv mask torn (mN n) D.s D.ws D.ws.length,[],false,0,false⟩
def DS.read(D:DS)(at':Int):hJ:=iC D.s D.ws at' D.ws.length
theorem mR:Whole []:=λ_ h=>absurd h (by simp)
theorem DS.new_ok:DS.new.Ok:=⟨mR,mR,⟨by decide,by decide⟩⟩
theorem DS.arm_ok{D:DS}(h:D.Ok){n:Int}(hn:n≤9223372036854775807):(D.arm n).Ok:=⟨h.s,h.ws,by simp only[DS.arm];omega⟩
abbrev PM:= @DS.arm_ok
theorem DS.write_ok{D:DS}(h:D.Ok)(at':Int)(bs:List UInt8):(D.write at' bs).2.Ok:=by
 unfold DS.write;split
 · exact h
 · split
   · exact⟨h.s,h.ws,h.lf⟩
   · rename_i h1 h2
     refine⟨h.s,h.ws.add _ (dH (by omega)),?_⟩;have:=h.lf;show 0≤(if D.ar=true then D.lf-1 else D.lf)∧(if D.ar=true then D.lf-1 else D.lf)≤9223372036854775807;split<;>rename_i h3
     · have:D.lf≠0:=λq=>h2 (.inr ⟨h3,q⟩)
       exact⟨by omega,by omega⟩
     · exact this
theorem DS.sync_ok{D:DS}(h:D.Ok):D.sync.2.Ok:=by
 unfold DS.sync;split
 · exact h
 · exact⟨h.s.lay h.ws _ (aH _),mR,h.lf⟩
abbrev On:= @DS.sync_ok
theorem DS.crash_ok{D:DS}(h:D.Ok)(mask torn n:Int):(D.crash mask torn n).Ok:=⟨h.s.crash h.ws _ (aH _),mR,⟨by simp[DS.crash],by simp[DS.crash]⟩⟩
theorem DS.read_len{D:DS}(h:D.Ok)(at':Int):(D.read at').length=64:=zb h.s h.ws _ _ (aH _)
abbrev mg:= @DS.read_len
theorem DS.write_ws{D:DS}{at':Int}{bs:List UInt8}:(D.write at' bs).2.ws.length≤D.ws.length+1:=by
 unfold DS.write;split
 · simp
 · split
   · simp
   · simp
abbrev N5(DT WT:Nat)(d:Nat)(D:DS):HP:=pack λx:Nat×Value=>[ak d [.map (some x.1),x.2, .bool D.ar, .int .i64 D.lf, .bool D.dn] DT,jZ x.1 (rF D.s),own x.2 D.ws.length (dO D.ws) WT 65]
end Dsk
end

section
namespace Go.Proofs.YtjblgopghhgflaaGreat
open Go Leg Codec Api Dsk
theorem A1(d m:Nat)(wv:Value)(ar dn:Bool)(lf:Int):
 DT 57 #[(.pointer (some ⟨d,0,none⟩))] T0 [ak d [(.map (some m)),wv,(.bool (ar)),(.int .i64 (lf)),(.bool (dn))] 161] (RI (.bool dn) [ak d [(.map (some m)),wv,(.bool (ar)),(.int .i64 (lf)),(.bool (dn))] 161]):=by
 refine BD 7 Tryz.func57 rfl rfl rfl λw0 F hF=>sr λ_ J1=>PS ?_
 refine nx J1 (sr λ_ J2=>P2 ?_);refine FA 4 gP k9 ?_;refine LA 0 Y4 ?_;refine PS ?_;exact nx J2 (ai (WK [0] (av rfl rfl ⟨rfl,rfl⟩)))
theorem C1(d m:Nat)(wv:Value)(ar dn:Bool)(lf n:Int):
 DT 61 #[(.pointer (some ⟨d,0,none⟩)),(.int .i64 (n))] T0 [ak d [(.map (some m)),wv,(.bool (ar)),(.int .i64 (lf)),(.bool (dn))] 161] (dz (λ_ H=>H=[ak d [(.map (some m)),wv,(.bool true),(.int .i64 ((max n 0))),(.bool (dn))] 161])):=by
 refine BD 12 Tryz.func61 rfl rfl rfl λw0 F hF=>ae (P3 ?_)
 refine tp (yK rfl rfl rfl) ?_;refine PS ?_;refine FA 2 gP k9 ?_;refine S0 0 k9 ?_;refine PS ?_;refine FA 3 gP aQ ?_;refine S0 0 aQ ?_;exact au (WK [0] (bD rfl rfl))
theorem C0:
 DT 54 #[] T0 [] (dz (λv H=>∃d m,v= .pointer (some ⟨d,0,none⟩)∧H=[ak d [(.map (some m)),(.slice none 0 0),(.bool false),(.int .i64 0),(.bool false)] 161,jZ m ([])])):=by
 refine BD 4 Tryz.func54 rfl rfl rfl λw0 F hF=>sr λ_ J1=>PS ?_
 refine nx J1 (sr λ_ J2=>TL.makeMap (ab rfl) rfl rfl rfl (λm1=>BV #[(.map (some m1)),(.slice none 0 0),(.bool false),(.int .i64 0),(.bool false)] ?_));refine XB λb3=>?_
 refine PS ?_;exact nx J2 (ai (WK [0,0] (av rfl rfl ⟨b3,m1,rfl,rfl⟩)))
theorem AZ(d m:Nat)(wv:Value)(s:fo)(ar dn:Bool)(lf at':Int)(hs:Whole s):
 DT 68 #[(.pointer (some ⟨d,0,none⟩)),(.int .i64 (at'))] T0 [ak d [(.map (some m)),wv,(.bool (ar)),(.int .i64 (lf)),(.bool (dn))] 161,jZ m (rF s)] (RI (B3 (eU s at')) [ak d [(.map (some m)),wv,(.bool (ar)),(.int .i64 (lf)),(.bool (dn))] 161,jZ m (rF s)]):=by
 refine BD 11 Tryz.func68 rfl rfl rfl λw0 F hF=>sr λ_ J1=>XA DH λb4=>?_
 refine nx J1 (sr λ_ J2=>P2 ?_);refine FA 0 gP BE ?_;refine LA 1 yA ?_;refine PS ?_;refine tp (PV.lookup rfl yA Y3 DH rfl rfl (RdM.own 2 rfl rfl) (xj _ _)) ?_;exact bN (vs:=ej (eU s at')) (i:=0) (ab rfl) rfl rfl rfl rfl rfl (by rw[ba,cj hs];exact jM) (eY _) rfl rfl (by rw[ba,cj hs];exact aH _) (fX (by rw[ba,cj hs];rfl)) rfl (nx J2 (ai (yD (H':=[ak d [(.map (some m)),wv,(.bool (ar)),(.int .i64 (lf)),(.bool (dn))] 161,jZ m (rF s)]) rfl rfl py rfl jM (RO 0) (by rw[ba];exact cj hs _) (λ_ s=>am [1,1] rfl s) ⟨rfl,rfl⟩)))
theorem dN:Tryz.prog.follows .mixedOrders=true:=by kernel_rfl
theorem o8(d m:Nat)(wv:Value)(s:fo)(ar dn:Bool)(lf at':Int)(b:List UInt8)(hb:b.length=64):
 DT 114 #[(.pointer (some ⟨d,0,none⟩)),(.int .i64 (at')),(.agg (ej b).toArray)] T0 [ak d [(.map (some m)),wv,(.bool (ar)),(.int .i64 (lf)),(.bool (dn))] 161,jZ m (rF s)] (dz (λ_ H=>H=[ak d [(.map (some m)),wv,(.bool (ar)),(.int .i64 (lf)),(.bool (dn))] 161,jZ m (rF (od s at' b))])):=by
 refine BD 21 Tryz.func114 rfl rfl rfl λw0 F hF=>sr λ_ J1=>XY (ej b) λb5=>?_
 refine nx J1 (aa λ_ J2=>sr λ_ J3=>P2 ?_);refine FA 0 gP BE ?_;refine LA 1 yA ?_;refine tp (PV.mapNil rfl yA rfl rfl) ?_;refine nx J3 (CN (qx J2 (D2 1 0 dN ?_)));refine PD 0 ?_;refine PD 1 ?_;refine FD 2 0 gP BE ?_;refine LX 3 yA (.map (some m)) ?_ (hc:=by exact rfl);refine PD 4 ?_;refine ta 5 rfl (aM (vs:=ej b) rfl py rfl jM rfl (λ_ h=>h.2.2.1) (by rw[ba];exact hb) (by rw[bd,az (by rw[ba,hb];exact aH _)])) ?_;refine AL 6 ?_;exact TL.mapUpdate (i:=2) (H':=[ak b5 (ej b) 128,ak d [(.map (some m)),wv,(.bool (ar)),(.int .i64 (lf)),(.bool (dn))] 161,jZ m (rF (od s at' b))]) (ab rfl) rfl rfl yA Y3 rfl rfl rfl rfl rfl (congrArg (λq=>List.set _ 2 (jZ m q)) (IR _ _ _)) (EN (DN (WK [1,1] (bD rfl rfl))))
theorem yt(d m:Nat)(wv:Value)(ws:fo)(ar dn:Bool)(lf at':Int)(x:Value)(bs:List UInt8)(hl:0≤lf∧lf≤9223372036854775807)(hw:ws.length≤1000000000):
 DT 70 #[(.pointer (some ⟨d,0,none⟩)),(.int .i64 (at')),x] (IsW x bs) [ak d [(.map (some m)),wv,(.bool (ar)),(.int .i64 (lf)),(.bool (dn))] 161,own wv (ws.length) (dO ws) 187 65] (dz (λv H=>if at'<0∨2048≤at'∨64<bs.length then v= .int .i64 5∧H=[ak d [(.map (some m)),wv,(.bool (ar)),(.int .i64 (lf)),(.bool (dn))] 161,own wv (ws.length) (dO ws) 187 65]else if dn=true∨(ar=true∧lf=0)then v= .int .i64 4∧H=[ak d [(.map (some m)),wv,(.bool (ar)),(.int .i64 (lf)),(.bool true)] 161,own wv (ws.length) (dO ws) 187 65]else v= .int .i64 0∧∃wv',H=[ak d [(.map (some m)),wv',(.bool (ar)),(.int .i64 ((if ar=true then lf-1 else lf))),(.bool false)] 161,own wv' ((ws++[(at',eJ bs)]).length) (dO (ws++[(at',eJ bs)])) 187 65])):=by
 refine BD 64 Tryz.func70 rfl rfl rfl λw0 F hF=>sr λ_ J1=>PS ?_
 refine nx J1 (aa λ_ J2=>sr λ_ J3=>P2 ?_);refine ao ?_ ?_<;>intro h9;refine PS ?_;refine UT ?_;refine UT ?_;refine P2 ?_
 iterate 3 refine UT ?_
 refine PS ?_;refine nx J3 (CY (sr λ_ J4=>PS ?_));refine nx J4 (ai (af (WK [0,0] (av rfl rfl ?_))));show(if _ then _ else _)
 first
  | (rw[if_pos (by omega)];exact⟨rfl,rfl⟩)
  | (rw[if_neg (by omega),if_pos (by simp_all)];exact⟨rfl,by simp_all<;>rfl⟩)
  | (rw[if_neg (by omega),if_neg (by simp_all)];exact⟨rfl,v61,by simp_all<;>rfl⟩)
 refine P3 ?_;refine ao ?_ ?_<;>intro h12;refine P2 ?_
 iterate 3 refine UT ?_
 refine PS ?_;refine nx J3 (CY (sr λ_ J5=>PS ?_));refine nx J5 (ai (af (WK [0,0] (av rfl rfl ?_))));show(if _ then _ else _)
 first
  | (rw[if_pos (by omega)];exact⟨rfl,rfl⟩)
  | (rw[if_neg (by omega),if_pos (by simp_all)];exact⟨rfl,by simp_all<;>rfl⟩)
  | (rw[if_neg (by omega),if_neg (by simp_all)];exact⟨rfl,v61,by simp_all<;>rfl⟩)
 refine P3 ?_;refine tq (eh rfl gO rfl hF.len) ?_;refine PS ?_;refine ao ?_ ?_<;>intro h17;refine PS ?_;refine nx J3 (CY (sr λ_ J6=>PS ?_));refine nx J6 (ai (af (WK [0,0] (av rfl rfl ?_))));show(if _ then _ else _)
 first
  | (rw[if_pos (by omega)];exact⟨rfl,rfl⟩)
  | (rw[if_neg (by omega),if_pos (by simp_all)];exact⟨rfl,by simp_all<;>rfl⟩)
  | (rw[if_neg (by omega),if_neg (by simp_all)];exact⟨rfl,v61,by simp_all<;>rfl⟩)
 refine PS ?_;refine nx J3 (CN (qx J2 (aa λ_ J7=>sr λ_ J8=>P2 ?_)));refine FA 2 gP k9 ?_;refine LA 0 Y4 ?_;refine bc ?_ ?_<;>intro h22;refine P3 ?_;refine FA 3 gP aQ ?_;refine LA 0 Y3 ?_;refine PS ?_;refine ao ?_ ?_<;>intro h28;refine PS ?_;refine nx J8 (CY (ae (P2 ?_)));refine FA 4 gP k9 ?_;refine S0 0 k9 ?_;refine nx J7 (aa λ_ J9=>sr λ_ J10=>P2 ?_);refine FA 4 gP k9 ?_;refine LA 0 Y4 ?_;refine nx J10 (CY (sr λ_ J11=>PS ?_));refine nx J11 (ai (af (WK [0,0] (av rfl rfl ?_))));show(if _ then _ else _)
 first
  | (rw[if_pos (by omega)];exact⟨rfl,rfl⟩)
  | (rw[if_neg (by omega),if_pos (by simp_all)];exact⟨rfl,by simp_all<;>rfl⟩)
  | (rw[if_neg (by omega),if_neg (by simp_all)];exact⟨rfl,v61,by simp_all<;>rfl⟩)
 refine PS ?_;refine nx J8 (CN (qx J7 (aa λ_ J12=>sr λ_ J13=>P2 ?_)));refine FA 4 gP k9 ?_;refine LA 0 Y4 ?_;refine bc ?_ ?_<;>intro h36;refine nx J13 (CY (sr λ_ J14=>PS ?_));refine nx J14 (ai (af (WK [0,0] (av rfl rfl ?_))));show(if _ then _ else _)
 first
  | (rw[if_pos (by omega)];exact⟨rfl,rfl⟩)
  | (rw[if_neg (by omega),if_pos (by simp_all)];exact⟨rfl,by simp_all<;>rfl⟩)
  | (rw[if_neg (by omega),if_neg (by simp_all)];exact⟨rfl,v61,by simp_all<;>rfl⟩)
 refine nx J13 (CN (qx J12 (aa λ_ J15=>sr λ_ J16=>P2 ?_)));refine FA 2 gP k9 ?_;refine LA 0 Y4 ?_;refine bc ?_ ?_<;>intro h40;refine nx J16 (CY (ae (P2 ?_)));refine FA 3 gP aQ ?_;refine LA 0 Y3 ?_;refine tp (jd rfl rfl rfl (bV (by omega) (by omega))) ?_;refine PS ?_;refine FA 3 gP aQ ?_;refine S0 0 aQ ?_;refine nx J15 (sr λ_ J17=>PS ?_);refine BV (((.int .i64 (at'))::List.replicate 64 (.int .u8 0)).toArray) ?_;refine XA F6 λb7=>?_
 refine bN (vs:=((.int .i64 (at'))::List.replicate 64 (.int .u8 0))) (i:=0) (ab rfl) rfl rfl rfl rfl rfl mu (by simp[Value.oneCell']) rfl rfl (Kl rfl) rfl rfl (nx J17 (sr λ_ J18=>FA 1 pe jM ?_));refine tp (nO rfl py lB rfl) ?_;refine PS ?_;refine MH (i:=0) (m:=bs.length) (news:=(ej bs)) (H':=[ak b7 (db (at',eJ bs)) 187,ak d [(.map (some m)),wv,(.bool (ar)),(.int .i64 (lf-1)),(.bool (dn))] 161,own wv (ws.length) (dO ws) 187 65]) (ab rfl) rfl rfl rfl gO lB rfl rfl rfl rfl (λ_ _=>hF.src (λ_ h=>fu h)) (eY _) (by show 1+min bs.length 64≤65;omega) (zW (by omega)) rfl (nx J18 (aa λ_ J19=>D1 0 dN ?_));refine PD 0 ?_;refine PD 1 ?_;refine PD 2 ?_;refine FD 3 1 gP gK ?_;refine ta 5 rfl (aM (vs:=db (at',eJ bs)) rfl pe rfl mu rfl (λ_ h=>h.2.1) (cm (dH (by omega))) (by rw[bd,az (by rw[(cm (dH (by omega)))];exact aH _)])) ?_;refine cT [4,6] (by kernel_rfl) rfl (aG rfl ?_ ?_);refine LA 1 ja ?_;refine EN (AL 6 ?_);refine aW (cells:=(db (at',eJ bs)).toArray) (ab rfl) rfl rfl rfl ja mz rfl rfl rfl (mK (cm (dH (by omega))) (by simp)) (λb60=>?_);change TL _ _ _ _ _ _ _ _ _ [ak b60 (db (at',eJ bs)) 187,ak b7 (db (at',eJ bs)) 187,ak d [(.map (some m)),wv,(.bool (ar)),(.int .i64 (lf-1)),(.bool (dn))] 161,own wv (ws.length) (dO ws) 187 65];refine EN (AL 7 ?_)
 refine cL (k:=3) (news:=db (at',eJ bs)) (nn':=(ws++[(at',eJ bs)]).length) (xs':=dO (ws++[(at',eJ bs)])) (ab rfl) rfl rfl rfl ja mz rfl rfl rfl rfl rfl rfl (λ_ _=>jK (cm (dH (by omega))) (RO 0) (by rw[bd,az (aH _)])) (iK _) (by simp only[maxLen];omega) (by omega) (by simp) (by simp[dO]) (λv61 ov61=>EN (PD 8 ?_));refine FD 9 1 gP gK ?_;refine AL 10 ?_;refine bF (i:=2) (ab rfl) rfl rfl rfl rfl ov61 gK rfl rfl (lb rfl) rfl rfl (EN (DN (ac J19 (sr λ_ J20=>PS ?_))));refine nx J20 (ai (WK [2,2] (av rfl rfl ?_)));show(if _ then _ else _)
 first
  | (rw[if_pos (by omega)];exact⟨rfl,rfl⟩)
  | (rw[if_neg (by omega),if_pos (by simp_all)];exact⟨rfl,by simp_all<;>rfl⟩)
  | (rw[if_neg (by omega),if_neg (by simp_all)];exact⟨rfl,v61,by simp_all<;>rfl⟩)
 refine aG rfl ?_ ?_;refine aW (cells:=(db (at',eJ bs)).toArray) (ab rfl) rfl rfl rfl ja mz rfl rfl rfl (mK (cm (dH (by omega))) (by simp)) (λb60=>?_);change TL _ _ _ _ _ _ _ _ _ [ak b60 (db (at',eJ bs)) 187,ak b7 (db (at',eJ bs)) 187,ak d [(.map (some m)),wv,(.bool (ar)),(.int .i64 (lf-1)),(.bool (dn))] 161,own wv (ws.length) (dO ws) 187 65];refine EN (AL 4 ?_);refine LA 2 ja ?_;refine EN (AL 7 ?_);refine cL (k:=3) (news:=db (at',eJ bs)) (nn':=(ws++[(at',eJ bs)]).length) (xs':=dO (ws++[(at',eJ bs)])) (ab rfl) rfl rfl rfl ja mz rfl rfl rfl rfl rfl rfl (λ_ _=>jK (cm (dH (by omega))) (RO 0) (by rw[bd,az (aH _)])) (iK _) (by simp only[maxLen];omega) (by omega) (by simp) (by simp[dO]) (λv61 ov61=>EN (PD 8 ?_));refine FD 9 1 gP gK ?_;refine AL 10 ?_;refine bF (i:=2) (ab rfl) rfl rfl rfl rfl ov61 gK rfl rfl (lb rfl) rfl rfl (EN (DN (ac J19 (sr λ_ J21=>PS ?_))));refine nx J21 (ai (WK [2,2] (av rfl rfl ?_)));show(if _ then _ else _)
 first
  | (rw[if_pos (by omega)];exact⟨rfl,rfl⟩)
  | (rw[if_neg (by omega),if_pos (by simp_all)];exact⟨rfl,by simp_all<;>rfl⟩)
  | (rw[if_neg (by omega),if_neg (by simp_all)];exact⟨rfl,v61,by simp_all<;>rfl⟩)
 exact bJ;refine nx J16 (CN (qx J15 (sr λ_ J22=>PS ?_)));refine BV (((.int .i64 (at'))::List.replicate 64 (.int .u8 0)).toArray) ?_;refine XA F6 λb7=>?_
 refine bN (vs:=((.int .i64 (at'))::List.replicate 64 (.int .u8 0))) (i:=0) (ab rfl) rfl rfl rfl rfl rfl mu (by simp[Value.oneCell']) rfl rfl (Kl rfl) rfl rfl (nx J22 (sr λ_ J23=>FA 1 pe jM ?_));refine tp (nO rfl py lB rfl) ?_;refine PS ?_;refine MH (i:=0) (m:=bs.length) (news:=(ej bs)) (H':=[ak b7 (db (at',eJ bs)) 187,ak d [(.map (some m)),wv,(.bool (ar)),(.int .i64 (lf)),(.bool (dn))] 161,own wv (ws.length) (dO ws) 187 65]) (ab rfl) rfl rfl rfl gO lB rfl rfl rfl rfl (λ_ _=>hF.src (λ_ h=>fu h)) (eY _) (by show 1+min bs.length 64≤65;omega) (zW (by omega)) rfl (nx J23 (aa λ_ J24=>D1 0 dN ?_));refine PD 0 ?_;refine PD 1 ?_;refine PD 2 ?_;refine FD 3 1 gP gK ?_;refine ta 5 rfl (aM (vs:=db (at',eJ bs)) rfl pe rfl mu rfl (λ_ h=>h.2.1) (cm (dH (by omega))) (by rw[bd,az (by rw[(cm (dH (by omega)))];exact aH _)])) ?_;refine cT [4,6] (by kernel_rfl) rfl (aG rfl ?_ ?_);refine LA 1 ja ?_;refine EN (AL 6 ?_);refine aW (cells:=(db (at',eJ bs)).toArray) (ab rfl) rfl rfl rfl ja mz rfl rfl rfl (mK (cm (dH (by omega))) (by simp)) (λb60=>?_);change TL _ _ _ _ _ _ _ _ _ [ak b60 (db (at',eJ bs)) 187,ak b7 (db (at',eJ bs)) 187,ak d [(.map (some m)),wv,(.bool (ar)),(.int .i64 (lf)),(.bool (dn))] 161,own wv (ws.length) (dO ws) 187 65];refine EN (AL 7 ?_)
 refine cL (k:=3) (news:=db (at',eJ bs)) (nn':=(ws++[(at',eJ bs)]).length) (xs':=dO (ws++[(at',eJ bs)])) (ab rfl) rfl rfl rfl ja mz rfl rfl rfl rfl rfl rfl (λ_ _=>jK (cm (dH (by omega))) (RO 0) (by rw[bd,az (aH _)])) (iK _) (by simp only[maxLen];omega) (by omega) (by simp) (by simp[dO]) (λv61 ov61=>EN (PD 8 ?_));refine FD 9 1 gP gK ?_;refine AL 10 ?_;refine bF (i:=2) (ab rfl) rfl rfl rfl rfl ov61 gK rfl rfl (lb rfl) rfl rfl (EN (DN (ac J24 (sr λ_ J25=>PS ?_))));refine nx J25 (ai (WK [2,2] (av rfl rfl ?_)));show(if _ then _ else _)
 first
  | (rw[if_pos (by omega)];exact⟨rfl,rfl⟩)
  | (rw[if_neg (by omega),if_pos (by simp_all)];exact⟨rfl,by simp_all<;>rfl⟩)
  | (rw[if_neg (by omega),if_neg (by simp_all)];exact⟨rfl,v61,by simp_all<;>rfl⟩)
 refine aG rfl ?_ ?_;refine aW (cells:=(db (at',eJ bs)).toArray) (ab rfl) rfl rfl rfl ja mz rfl rfl rfl (mK (cm (dH (by omega))) (by simp)) (λb60=>?_);change TL _ _ _ _ _ _ _ _ _ [ak b60 (db (at',eJ bs)) 187,ak b7 (db (at',eJ bs)) 187,ak d [(.map (some m)),wv,(.bool (ar)),(.int .i64 (lf)),(.bool (dn))] 161,own wv (ws.length) (dO ws) 187 65];refine EN (AL 4 ?_);refine LA 2 ja ?_;refine EN (AL 7 ?_);refine cL (k:=3) (news:=db (at',eJ bs)) (nn':=(ws++[(at',eJ bs)]).length) (xs':=dO (ws++[(at',eJ bs)])) (ab rfl) rfl rfl rfl ja mz rfl rfl rfl rfl rfl rfl (λ_ _=>jK (cm (dH (by omega))) (RO 0) (by rw[bd,az (aH _)])) (iK _) (by simp only[maxLen];omega) (by omega) (by simp) (by simp[dO]) (λv61 ov61=>EN (PD 8 ?_));refine FD 9 1 gP gK ?_;refine AL 10 ?_;refine bF (i:=2) (ab rfl) rfl rfl rfl rfl ov61 gK rfl rfl (lb rfl) rfl rfl (EN (DN (ac J24 (sr λ_ J26=>PS ?_))));refine nx J26 (ai (WK [2,2] (av rfl rfl ?_)));show(if _ then _ else _)
 first
  | (rw[if_pos (by omega)];exact⟨rfl,rfl⟩)
  | (rw[if_neg (by omega),if_pos (by simp_all)];exact⟨rfl,by simp_all<;>rfl⟩)
  | (rw[if_neg (by omega),if_neg (by simp_all)];exact⟨rfl,v61,by simp_all<;>rfl⟩)
 exact bJ;refine PS ?_
 iterate 5 refine UF ?_
 refine PS ?_;refine nx J8 (CN (qx J7 (aa λ_ J27=>sr λ_ J28=>P2 ?_)));refine FA 4 gP k9 ?_;refine LA 0 Y4 ?_;refine bc ?_ ?_<;>intro h36;refine nx J28 (CY (sr λ_ J29=>PS ?_));refine nx J29 (ai (af (WK [0,0] (av rfl rfl ?_))));show(if _ then _ else _)
 first
  | (rw[if_pos (by omega)];exact⟨rfl,rfl⟩)
  | (rw[if_neg (by omega),if_pos (by simp_all)];exact⟨rfl,by simp_all<;>rfl⟩)
  | (rw[if_neg (by omega),if_neg (by simp_all)];exact⟨rfl,v61,by simp_all<;>rfl⟩)
 refine nx J28 (CN (qx J27 (aa λ_ J30=>sr λ_ J31=>P2 ?_)));refine FA 2 gP k9 ?_;refine LA 0 Y4 ?_;refine bc ?_ ?_<;>intro h40;refine nx J31 (CY (ae (P2 ?_)));refine FA 3 gP aQ ?_;refine LA 0 Y3 ?_;refine tp (jd rfl rfl rfl (bV (by omega) (by omega))) ?_;refine PS ?_;refine FA 3 gP aQ ?_;refine S0 0 aQ ?_;refine nx J30 (sr λ_ J32=>PS ?_);refine BV (((.int .i64 (at'))::List.replicate 64 (.int .u8 0)).toArray) ?_;refine XA F6 λb7=>?_
 refine bN (vs:=((.int .i64 (at'))::List.replicate 64 (.int .u8 0))) (i:=0) (ab rfl) rfl rfl rfl rfl rfl mu (by simp[Value.oneCell']) rfl rfl (Kl rfl) rfl rfl (nx J32 (sr λ_ J33=>FA 1 pe jM ?_));refine tp (nO rfl py lB rfl) ?_;refine PS ?_;refine MH (i:=0) (m:=bs.length) (news:=(ej bs)) (H':=[ak b7 (db (at',eJ bs)) 187,ak d [(.map (some m)),wv,(.bool (ar)),(.int .i64 (lf-1)),(.bool (dn))] 161,own wv (ws.length) (dO ws) 187 65]) (ab rfl) rfl rfl rfl gO lB rfl rfl rfl rfl (λ_ _=>hF.src (λ_ h=>fu h)) (eY _) (by show 1+min bs.length 64≤65;omega) (zW (by omega)) rfl (nx J33 (aa λ_ J34=>D1 0 dN ?_));refine PD 0 ?_;refine PD 1 ?_;refine PD 2 ?_;refine FD 3 1 gP gK ?_;refine ta 5 rfl (aM (vs:=db (at',eJ bs)) rfl pe rfl mu rfl (λ_ h=>h.2.1) (cm (dH (by omega))) (by rw[bd,az (by rw[(cm (dH (by omega)))];exact aH _)])) ?_;refine cT [4,6] (by kernel_rfl) rfl (aG rfl ?_ ?_);refine LA 1 ja ?_;refine EN (AL 6 ?_);refine aW (cells:=(db (at',eJ bs)).toArray) (ab rfl) rfl rfl rfl ja mz rfl rfl rfl (mK (cm (dH (by omega))) (by simp)) (λb60=>?_);change TL _ _ _ _ _ _ _ _ _ [ak b60 (db (at',eJ bs)) 187,ak b7 (db (at',eJ bs)) 187,ak d [(.map (some m)),wv,(.bool (ar)),(.int .i64 (lf-1)),(.bool (dn))] 161,own wv (ws.length) (dO ws) 187 65];refine EN (AL 7 ?_)
 refine cL (k:=3) (news:=db (at',eJ bs)) (nn':=(ws++[(at',eJ bs)]).length) (xs':=dO (ws++[(at',eJ bs)])) (ab rfl) rfl rfl rfl ja mz rfl rfl rfl rfl rfl rfl (λ_ _=>jK (cm (dH (by omega))) (RO 0) (by rw[bd,az (aH _)])) (iK _) (by simp only[maxLen];omega) (by omega) (by simp) (by simp[dO]) (λv61 ov61=>EN (PD 8 ?_));refine FD 9 1 gP gK ?_;refine AL 10 ?_;refine bF (i:=2) (ab rfl) rfl rfl rfl rfl ov61 gK rfl rfl (lb rfl) rfl rfl (EN (DN (ac J34 (sr λ_ J35=>PS ?_))));refine nx J35 (ai (WK [2,2] (av rfl rfl ?_)));show(if _ then _ else _)
 first
  | (rw[if_pos (by omega)];exact⟨rfl,rfl⟩)
  | (rw[if_neg (by omega),if_pos (by simp_all)];exact⟨rfl,by simp_all<;>rfl⟩)
  | (rw[if_neg (by omega),if_neg (by simp_all)];exact⟨rfl,v61,by simp_all<;>rfl⟩)
 refine aG rfl ?_ ?_;refine aW (cells:=(db (at',eJ bs)).toArray) (ab rfl) rfl rfl rfl ja mz rfl rfl rfl (mK (cm (dH (by omega))) (by simp)) (λb60=>?_);change TL _ _ _ _ _ _ _ _ _ [ak b60 (db (at',eJ bs)) 187,ak b7 (db (at',eJ bs)) 187,ak d [(.map (some m)),wv,(.bool (ar)),(.int .i64 (lf-1)),(.bool (dn))] 161,own wv (ws.length) (dO ws) 187 65];refine EN (AL 4 ?_);refine LA 2 ja ?_;refine EN (AL 7 ?_);refine cL (k:=3) (news:=db (at',eJ bs)) (nn':=(ws++[(at',eJ bs)]).length) (xs':=dO (ws++[(at',eJ bs)])) (ab rfl) rfl rfl rfl ja mz rfl rfl rfl rfl rfl rfl (λ_ _=>jK (cm (dH (by omega))) (RO 0) (by rw[bd,az (aH _)])) (iK _) (by simp only[maxLen];omega) (by omega) (by simp) (by simp[dO]) (λv61 ov61=>EN (PD 8 ?_));refine FD 9 1 gP gK ?_;refine AL 10 ?_;refine bF (i:=2) (ab rfl) rfl rfl rfl rfl ov61 gK rfl rfl (lb rfl) rfl rfl (EN (DN (ac J34 (sr λ_ J36=>PS ?_))));refine nx J36 (ai (WK [2,2] (av rfl rfl ?_)));show(if _ then _ else _)
 first
  | (rw[if_pos (by omega)];exact⟨rfl,rfl⟩)
  | (rw[if_neg (by omega),if_pos (by simp_all)];exact⟨rfl,by simp_all<;>rfl⟩)
  | (rw[if_neg (by omega),if_neg (by simp_all)];exact⟨rfl,v61,by simp_all<;>rfl⟩)
 exact bJ;refine nx J31 (CN (qx J30 (sr λ_ J37=>PS ?_)));refine BV (((.int .i64 (at'))::List.replicate 64 (.int .u8 0)).toArray) ?_;refine XA F6 λb7=>?_
 refine bN (vs:=((.int .i64 (at'))::List.replicate 64 (.int .u8 0))) (i:=0) (ab rfl) rfl rfl rfl rfl rfl mu (by simp[Value.oneCell']) rfl rfl (Kl rfl) rfl rfl (nx J37 (sr λ_ J38=>FA 1 pe jM ?_));refine tp (nO rfl py lB rfl) ?_;refine PS ?_;refine MH (i:=0) (m:=bs.length) (news:=(ej bs)) (H':=[ak b7 (db (at',eJ bs)) 187,ak d [(.map (some m)),wv,(.bool (ar)),(.int .i64 (lf)),(.bool (dn))] 161,own wv (ws.length) (dO ws) 187 65]) (ab rfl) rfl rfl rfl gO lB rfl rfl rfl rfl (λ_ _=>hF.src (λ_ h=>fu h)) (eY _) (by show 1+min bs.length 64≤65;omega) (zW (by omega)) rfl (nx J38 (aa λ_ J39=>D1 0 dN ?_));refine PD 0 ?_;refine PD 1 ?_;refine PD 2 ?_;refine FD 3 1 gP gK ?_;refine ta 5 rfl (aM (vs:=db (at',eJ bs)) rfl pe rfl mu rfl (λ_ h=>h.2.1) (cm (dH (by omega))) (by rw[bd,az (by rw[(cm (dH (by omega)))];exact aH _)])) ?_;refine cT [4,6] (by kernel_rfl) rfl (aG rfl ?_ ?_);refine LA 1 ja ?_;refine EN (AL 6 ?_);refine aW (cells:=(db (at',eJ bs)).toArray) (ab rfl) rfl rfl rfl ja mz rfl rfl rfl (mK (cm (dH (by omega))) (by simp)) (λb60=>?_);change TL _ _ _ _ _ _ _ _ _ [ak b60 (db (at',eJ bs)) 187,ak b7 (db (at',eJ bs)) 187,ak d [(.map (some m)),wv,(.bool (ar)),(.int .i64 (lf)),(.bool (dn))] 161,own wv (ws.length) (dO ws) 187 65];refine EN (AL 7 ?_)
 refine cL (k:=3) (news:=db (at',eJ bs)) (nn':=(ws++[(at',eJ bs)]).length) (xs':=dO (ws++[(at',eJ bs)])) (ab rfl) rfl rfl rfl ja mz rfl rfl rfl rfl rfl rfl (λ_ _=>jK (cm (dH (by omega))) (RO 0) (by rw[bd,az (aH _)])) (iK _) (by simp only[maxLen];omega) (by omega) (by simp) (by simp[dO]) (λv61 ov61=>EN (PD 8 ?_));refine FD 9 1 gP gK ?_;refine AL 10 ?_;refine bF (i:=2) (ab rfl) rfl rfl rfl rfl ov61 gK rfl rfl (lb rfl) rfl rfl (EN (DN (ac J39 (sr λ_ J40=>PS ?_))));refine nx J40 (ai (WK [2,2] (av rfl rfl ?_)));show(if _ then _ else _)
 first
  | (rw[if_pos (by omega)];exact⟨rfl,rfl⟩)
  | (rw[if_neg (by omega),if_pos (by simp_all)];exact⟨rfl,by simp_all<;>rfl⟩)
  | (rw[if_neg (by omega),if_neg (by simp_all)];exact⟨rfl,v61,by simp_all<;>rfl⟩)
 refine aG rfl ?_ ?_;refine aW (cells:=(db (at',eJ bs)).toArray) (ab rfl) rfl rfl rfl ja mz rfl rfl rfl (mK (cm (dH (by omega))) (by simp)) (λb60=>?_);change TL _ _ _ _ _ _ _ _ _ [ak b60 (db (at',eJ bs)) 187,ak b7 (db (at',eJ bs)) 187,ak d [(.map (some m)),wv,(.bool (ar)),(.int .i64 (lf)),(.bool (dn))] 161,own wv (ws.length) (dO ws) 187 65];refine EN (AL 4 ?_);refine LA 2 ja ?_;refine EN (AL 7 ?_);refine cL (k:=3) (news:=db (at',eJ bs)) (nn':=(ws++[(at',eJ bs)]).length) (xs':=dO (ws++[(at',eJ bs)])) (ab rfl) rfl rfl rfl ja mz rfl rfl rfl rfl rfl rfl (λ_ _=>jK (cm (dH (by omega))) (RO 0) (by rw[bd,az (aH _)])) (iK _) (by simp only[maxLen];omega) (by omega) (by simp) (by simp[dO]) (λv61 ov61=>EN (PD 8 ?_));refine FD 9 1 gP gK ?_;refine AL 10 ?_;refine bF (i:=2) (ab rfl) rfl rfl rfl rfl ov61 gK rfl rfl (lb rfl) rfl rfl (EN (DN (ac J39 (sr λ_ J41=>PS ?_))));refine nx J41 (ai (WK [2,2] (av rfl rfl ?_)));show(if _ then _ else _)
 first
  | (rw[if_pos (by omega)];exact⟨rfl,rfl⟩)
  | (rw[if_neg (by omega),if_pos (by simp_all)];exact⟨rfl,by simp_all<;>rfl⟩)
  | (rw[if_neg (by omega),if_neg (by simp_all)];exact⟨rfl,v61,by simp_all<;>rfl⟩)
 exact bJ
theorem uk(d m:Nat)(wv:Value)(ar:Bool)(lf:Int):
 DT 71 #[(.pointer (some ⟨d,0,none⟩))] T0 [ak d [(.map (some m)),wv,(.bool (ar)),(.int .i64 (lf)),(.bool true)] 161] (RI (.int .i64 4) [ak d [(.map (some m)),wv,(.bool (ar)),(.int .i64 (lf)),(.bool true)] 161]):=by
 refine BD 28 Tryz.func71 rfl rfl rfl λw0 F hF=>sr λ_ J1=>PS ?_
 refine nx J1 (aa λ_ J2=>sr λ_ J3=>P2 ?_);refine FA 4 gP k9 ?_;refine LA 0 Y4 ?_;refine nx J3 (CY (sr λ_ J4=>PS ?_));exact nx J4 (ai (af (WK [0] (av rfl rfl ⟨rfl,rfl⟩))))
theorem xF(d m:Nat)(wv:Value)(s ws:fo)(ar:Bool)(lf:Int)(hw:Whole ws):
 DT 71 #[(.pointer (some ⟨d,0,none⟩))] T0 [ak d [(.map (some m)),wv,(.bool (ar)),(.int .i64 (lf)),(.bool false)] 161,jZ m (rF s),own wv (ws.length) (dO ws) 187 65] (RI (.int .i64 0) [ak d [(.map (some m)),(.slice none 0 0),(.bool (ar)),(.int .i64 (lf)),(.bool false)] 161,jZ m (rF (Cw s ws ws.length)),own (.slice none 0 0) 0 [] 187 65]):=by
 refine BD 28 Tryz.func71 rfl rfl rfl λw0 F hF=>sr λ_ J1=>kY 2 rfl rfl (λhwl _=>PS ?_)
 refine nx J1 (aa λ_ J2=>sr λ_ J3=>P2 ?_);refine FA 4 gP k9 ?_;refine LA 0 Y4 ?_;refine nx J3 (CN (qx J2 (aa λ_ J4=>sr λ_ J5=>P2 ?_)));refine FA 1 gP gK ?_;refine LA 0 ja ?_;refine tp (eh rfl ja rfl hwl) ?_;refine PS ?_;refine nx J5 (aq ?_)
 refine bw (α:=(Nat)×(fo)) (λ⟨k,s'⟩=>k≤ws.length∧s'=Cw s ws k) (λ⟨k,s'⟩=>[(0,(.pointer (some ⟨d,0,none⟩))),(2,(.int .i64 0)),(12,wv),(13,(.int .i64 (((ws.length:Nat):Int)))),(14,(.int .i64 (((k:Nat):Int))))]) (λ⟨k,s'⟩=>[ak d [(.map (some m)),wv,(.bool (ar)),(.int .i64 (lf)),(.bool false)] 161,jZ m (rF s'),own wv (ws.length) (dO ws) 187 65]) (λ⟨k,s'⟩=>ws.length-k) (0,s)
  ⟨aN _,rfl⟩ SB
  (λ_ s=>s) (λ⟨k,s'⟩ hinv=>?_)
 obtain⟨hk,hs'⟩:=hinv;refine sr λ_ J6=>PS ?_
 refine ao ?_ ?_<;>intro h15;refine j7 2 rfl rfl (by omega) (λg cap hv hcap=>nx J6 (aa λ_ J7=>CY (qx J7 (aa λ_ J8=>aq (sr λ_ J9=>tp (bU (r:=k*65) hv rfl ja mu rfl rfl (by omega) (by omega) (by omega)) ?_)))));refine tp (PI (vs:=db (km ws k)) rfl pe rfl mu rfl (gm 2 rfl hv rfl) (cm (dR hw (by omega))) (qu hw (by omega))) ?_;refine XA F6 λb4=>?_
 refine bN (vs:=db (km ws k)) (i:=0) (ab rfl) rfl rfl rfl rfl rfl (by rw[cm (dR hw (by omega))];exact mu) (iK _) rfl rfl (by rw[cm (dR hw (by omega))];exact aH _) (fX (Eq.trans (rfl:_=65) (by rw[cm (dR hw (by omega))]:(db (km ws k)).length=65).symm)) rfl (nx J9 (ae (PS ?_)));refine FA 0 pe aQ ?_;refine LA 0 Y3 ?_;refine FA 1 pe jM ?_;refine tp (aM (vs:=ej (km ws k).2) rfl py rfl jM rfl (RO 0) (by rw[ba];exact dR hw (by omega)) (vY (dR hw (by omega)))) ?_;refine CR IB (o8 d m wv s' ar false lf ((km ws k).1) (km ws k).2 (by exact dR hw (by omega))) (SM [1,1]) λvR HR hR=>?_
 subst hR;refine au (ag (ac J8 (ae (AD ?_))));refine PS ?_;refine au ?_
 exact aK ((k+1,od s' (km ws k).1 (km ws k).2):(Nat)×(fo)) ⟨by omega,by rw[hs'];rfl⟩ (by show ws.length- (k+1)<ws.length-k;omega)
  SB
  (λ_ s=>am [0,0,1] rfl s)
 refine nx J6 (aa λ_ J10=>CN (aX (aA (aA (br (ac J4 (sr λ_ J11=>P2 ?_)))))));refine FA 1 gP gK ?_;refine S0 0 gK ?_;refine nx J11 (sr λ_ J12=>PS ?_);refine nx J12 (ai (aF (H':=[ak d [(.map (some m)),(.slice none 0 0),(.bool (ar)),(.int .i64 (lf)),(.bool false)] 161,jZ m (rF s'),own (.slice none 0 0) 0 [] 187 65]) (dK _) (λ_ s=>eu (List.Perm.trans (List.Perm.swap _ _ _) (List.Perm.cons _ (List.Perm.swap _ _ _))) (gV 187 65 (am [0,0] rfl s))) (av rfl rfl ?_)));obtain rfl:k=ws.length:=by omega
 subst hs';exact⟨rfl,rfl⟩
theorem A0(d m:Nat)(wv:Value)(s ws:fo)(ar dn:Bool)(lf at':Int)(hs2:Whole s)(hw:Whole ws)(hb:ws.length≤1000000000):
 DT 130 #[(.pointer (some ⟨d,0,none⟩)),(.int .i64 (at'))] T0 [ak d [(.map (some m)),wv,(.bool (ar)),(.int .i64 (lf)),(.bool (dn))] 161,jZ m (rF s),own wv (ws.length) (dO ws) 187 65] (RI (B3 (iC s ws at' ws.length)) [ak d [(.map (some m)),wv,(.bool (ar)),(.int .i64 (lf)),(.bool (dn))] 161,jZ m (rF s),own wv (ws.length) (dO ws) 187 65]):=by
 refine BD 40 Tryz.func130 rfl rfl rfl λw0 F hF=>sr λ_ J1=>kY 2 rfl rfl (λhwl _=>XA DH λb4=>?_)
 refine nx J1 (aa λ_ J2=>sr λ_ J3=>P2 ?_);refine FA 1 gP gK ?_;refine LA 1 ja ?_;refine tp (eh rfl ja rfl hwl) ?_;refine tp (jd rfl rfl rfl (bV (by omega) (by omega))) ?_;refine PS ?_;refine nx J3 (aq ?_)
 refine bw (α:=(Int)) (λp=> -1≤p∧p<ws.length∧iC s ws at' (p+1).toNat=iC s ws at' ws.length) (λp=>[(0,(.pointer (some ⟨d,0,none⟩))),(1,(.int .i64 (at'))),(4,(.pointer (some ⟨b4,0,none⟩))),(5,(.int .i64 (p)))]) (λp=>[ak b4 [(.int .u8 0),(.int .u8 0),(.int .u8 0),(.int .u8 0),(.int .u8 0),(.int .u8 0),(.int .u8 0),(.int .u8 0),(.int .u8 0),(.int .u8 0),(.int .u8 0),(.int .u8 0),(.int .u8 0),(.int .u8 0),(.int .u8 0),(.int .u8 0),(.int .u8 0),(.int .u8 0),(.int .u8 0),(.int .u8 0),(.int .u8 0),(.int .u8 0),(.int .u8 0),(.int .u8 0),(.int .u8 0),(.int .u8 0),(.int .u8 0),(.int .u8 0),(.int .u8 0),(.int .u8 0),(.int .u8 0),(.int .u8 0),(.int .u8 0),(.int .u8 0),(.int .u8 0),(.int .u8 0),(.int .u8 0),(.int .u8 0),(.int .u8 0),(.int .u8 0),(.int .u8 0),(.int .u8 0),(.int .u8 0),(.int .u8 0),(.int .u8 0),(.int .u8 0),(.int .u8 0),(.int .u8 0),(.int .u8 0),(.int .u8 0),(.int .u8 0),(.int .u8 0),(.int .u8 0),(.int .u8 0),(.int .u8 0),(.int .u8 0),(.int .u8 0),(.int .u8 0),(.int .u8 0),(.int .u8 0),(.int .u8 0),(.int .u8 0),(.int .u8 0),(.int .u8 0)] 128,ak d [(.map (some m)),wv,(.bool (ar)),(.int .i64 (lf)),(.bool (dn))] 161,jZ m (rF s),own wv (ws.length) (dO ws) 187 65]) (λp=>(p+1).toNat) (((ws.length:Nat):Int)-1)
  ⟨by omega,by omega,by congr 1;omega⟩ SB
  (λ_ s=>s) (λp hinv=>?_)
 obtain⟨hp1,hp2,hp3⟩:=hinv;refine aa λ_ J4=>sr λ_ J5=>P2 ?_
 refine ao ?_ ?_<;>intro h13;refine j7 3 rfl rfl (by omega) (λg cap hv hcap=>nx J5 (CY (qx J4 (aa λ_ J6=>aq (sr λ_ J7=>P2 ?_)))));refine FA 1 gP gK ?_;refine LA 1 ja ?_;refine PS ?_;refine tp (bU (r:=p.toNat*65) hv rfl ja mu rfl rfl (by omega) (by omega) (by omega)) ?_;refine tp (aY (r:=p.toNat*65) rfl pe rfl aQ rfl rfl) ?_;refine tp (di (v:=(.int .i64 ((km ws p.toNat).1))) rfl Y3 rfl rfl (gm 3 rfl hv rfl) (Gb hw (by omega))) ?_;refine P2 ?_;refine ao ?_ ?_<;>intro h25;refine nx J7 (CY (sr λ_ J8=>P2 ?_));refine FA 1 gP gK ?_;refine LA 1 ja ?_;refine PS ?_;refine tp (bU (r:=p.toNat*65) hv rfl ja mu rfl rfl (by omega) (by omega) (by omega)) ?_;refine tp (aY (r:=p.toNat*65+1) rfl pe rfl jM rfl rfl) ?_;refine tp (PI (vs:=ej (km ws p.toNat).2) rfl py rfl jM rfl (gm 3 rfl hv rfl) (by rw[ba];exact dR hw (by omega)) (Ga hw (by omega))) ?_;refine bN (vs:=ej (km ws p.toNat).2) (i:=0) (ab rfl) rfl rfl rfl rfl rfl (by rw[ba,dR hw (by omega)];exact jM) (eY _) rfl rfl (by rw[ba,dR hw (by omega)];exact aH _) (fX (Eq.trans (rfl:_=64) (by rw[ba,dR hw (by omega)]:(ej (km ws p.toNat).2).length=64).symm)) rfl (nx J8 (ai (aJ (af (af (aJ (af (yD (H':=[ak d [(.map (some m)),wv,(.bool (ar)),(.int .i64 (lf)),(.bool (dn))] 161,jZ m (rF s),own wv (ws.length) (dO ws) 187 65]) rfl rfl py rfl jM (RO 0) (by rw[ba];exact dR hw (by omega)) (λ_ s=>am [1,1,1] rfl s) ?_))))))));have e:=GC (s:=s) h25
 rw[show p.toNat+1=(p+1).toNat by omega,hp3]at e;exact⟨by rw[e];rfl,rfl⟩;refine nx J7 (CN (aU (ag (ac J6 (ae (PS ?_))))));refine tp (jd rfl rfl rfl (bV (by omega) (by omega))) ?_;refine PS ?_;refine au ?_
 exact aK ((p-1):(Int)) ⟨by omega,by omega,by rw[←hp3,show(p+1).toNat=p.toNat+1 by omega,Ee h25];congr 1;omega⟩ (by show(p-1+1).toNat< (p+1).toNat;omega)
  SB
  (λ_ s=>s)
 refine nx J5 (CN (aX (aA (aA (br (ac J2 (sr λ_ J9=>P2 ?_)))))));refine FA 0 gP BE ?_;refine LA 1 yA ?_;refine PS ?_;refine tp (PV.lookup rfl yA Y3 DH rfl rfl (RdM.own 2 rfl rfl) (xj _ _)) ?_;refine bN (vs:=ej (eU s at')) (i:=0) (ab rfl) rfl rfl rfl rfl rfl (by rw[ba,cj hs2];exact jM) (eY _) rfl rfl (by rw[ba,cj hs2];exact aH _) (fX (Eq.trans (rfl:_=64) (by rw[ba,cj hs2]:(ej (eU s at')).length=64).symm)) rfl (nx J9 (ai (yD (H':=[ak d [(.map (some m)),wv,(.bool (ar)),(.int .i64 (lf)),(.bool (dn))] 161,jZ m (rF s),own wv (ws.length) (dO ws) 187 65]) rfl rfl py rfl jM (RO 0) (by rw[ba];exact cj hs2 _) (λ_ s=>am [1,1,1] rfl s) ?_)));rw[show(p+1).toNat=0 by omega]at hp3;exact⟨by rw[←hp3];rfl,rfl⟩
theorem yu(d m:Nat)(wv:Value)(s ws:fo)(ar dn:Bool)(lf mask torn n:Int)(hs1:Whole s)(hw:Whole ws):
 DT 62 #[(.pointer (some ⟨d,0,none⟩)),(.int .i64 (mask)),(.int .i64 (torn)),(.int .i64 (n))] T0 [ak d [(.map (some m)),wv,(.bool (ar)),(.int .i64 (lf)),(.bool (dn))] 161,jZ m (rF s),own wv (ws.length) (dO ws) 187 65] (dz (λ_ H=>H=[ak d [(.map (some m)),(.slice none 0 0),(.bool false),(.int .i64 0),(.bool false)] 161,jZ m (rF (gv mask torn (mN n) s ws ws.length)),own (.slice none 0 0) 0 [] 187 65])):=by
 refine BD 70 Tryz.func62 rfl rfl rfl λw0 F hF=>sr λ_ J1=>kY 2 rfl rfl (λhwl _=>PS ?_)
 refine tp (yK rfl rfl rfl) ?_;refine tp (PG (v':=(.int .i64 (((mN n:Nat):Int)))) (PV.minI rfl rfl rfl) (congrArg (Value.int .i64) (Kv n))) ?_;refine PS ?_;refine nx J1 (aa λ_ J2=>sr λ_ J3=>P2 ?_);refine FA 1 gP gK ?_;refine LA 0 ja ?_;refine tp (eh rfl ja rfl hwl) ?_;refine PS ?_;refine nx J3 (aq ?_)
 refine bw (α:=(Nat)×(fo)) (λ⟨k,s'⟩=>k≤ws.length∧s'=gv mask torn (mN n) s ws k) (λ⟨k,s'⟩=>[(0,(.pointer (some ⟨d,0,none⟩))),(1,(.int .i64 (mask))),(2,(.int .i64 (torn))),(3,(.int .i64 (((mN n:Nat):Int)))),(17,wv),(18,(.int .i64 (((ws.length:Nat):Int)))),(19,(.int .i64 (((k:Nat):Int))))]) (λ⟨k,s'⟩=>[ak d [(.map (some m)),wv,(.bool (ar)),(.int .i64 (lf)),(.bool (dn))] 161,jZ m (rF s'),own wv (ws.length) (dO ws) 187 65]) (λ⟨k,s'⟩=>ws.length-k) (0,s)
  ⟨aN _,rfl⟩ SB
  (λ_ s=>s) (λ⟨k,s'⟩ hinv=>?_)
 obtain⟨hk,hs'⟩:=hinv;have hs2:Whole s':=by rw[hs'];exact hs1.crash hw k hk
 have hcn:=mM n;refine sr λ_ J4=>PS ?_
 refine ao ?_ ?_<;>intro h20;refine j7 2 rfl rfl (by omega) (λg cap hv hcap=>nx J4 (aa λ_ J5=>CY (qx J5 (aa λ_ J6=>aq (sr λ_ J7=>PS ?_)))));refine tp (bU (r:=k*65) hv rfl ja mu rfl rfl (by omega) (by omega) (by omega)) ?_;refine tp (PI (vs:=db (km ws k)) rfl pe rfl mu rfl (gm 2 rfl hv rfl) (cm (dR hw (by omega))) (qu hw (by omega))) ?_;refine XA F6 λb9=>?_
 refine PS ?_;refine bN (vs:=db (km ws k)) (i:=0) (ab rfl) rfl rfl rfl rfl rfl (by rw[cm (dR hw (by omega))];exact mu) (iK _) rfl rfl (by rw[cm (dR hw (by omega))];exact aH _) (fX (Eq.trans (rfl:_=65) (by rw[cm (dR hw (by omega))]:(db (km ws k)).length=65).symm)) rfl (nx J7 (sr λ_ J8=>P3 ?_));refine ao ?_ ?_<;>intro h26;refine nx J8 (CY (aa λ_ J9=>rR (λw=>Frm F w∧w.heap[d]?=some (.cells ([(.map (some m)),wv,(.bool (ar)),(.int .i64 (lf)),(.bool (dn))]).toArray 161 (0,0))∧Hm m (rF s') w∧w.heap[b9]?=some (.cells (db (km ws k)).toArray 187 (0,0))∧True) dN rfl (λ_ s=>⟨fu s,s.block 1 (lb rfl) rfl,s.map 2 rfl rfl,s.block 0 (lb rfl) rfl,trivial⟩) (PD 0 ?_)));refine PD 1 ?_;refine FD 2 0 gP BE ?_;refine LX 3 yA (.map (some m)) ?_ (hc:=by exact rfl);refine FD 4 0 pe aQ ?_;refine LX 5 Y3 (.int .i64 ((km ws k).1)) ?_ (hc:=by exact rfl);refine ta 6 rfl (PV.lookup rfl yA Y3 DH rfl rfl (λ_ h=>h.2.2.1) (xj _ _)) ?_;refine AL 7 ?_;refine XA DH λb10=>?_
 refine au (va (λ_ s=>⟨fu s,s.block 2 (lb rfl) rfl,s.map 3 rfl rfl,s.block 1 (lb rfl) rfl,trivial⟩) (AL 8 ?_));refine bN (vs:=ej (eU s' ((km ws k).1))) (i:=0) (ab rfl) rfl rfl rfl rfl rfl (by rw[ba,cj hs2];exact jM) (eY _) rfl rfl (by rw[ba,cj hs2];exact aH _) (fX (Eq.trans (rfl:_=64) (by rw[ba,cj hs2]:(ej (eU s' ((km ws k).1))).length=64).symm)) rfl (au (va (λ_ s=>⟨fu s,s.block 2 (lb rfl) rfl,s.map 3 rfl rfl,s.block 1 (lb rfl) rfl,trivial⟩) (DN (ac J9 (aa λ_ J10=>D1 1 dN ?_)))));refine PD 0 ?_;refine ta 1 rfl (Pz (k:=mN n) rfl py lB rfl rfl (by omega) (by omega) rfl) ?_;refine FD 2 1 pe jM ?_;refine PD 3 ?_;refine ta 4 rfl (Pz (k:=mN n) rfl py lB rfl rfl (by omega) (by omega) rfl) ?_;refine AL 5 ?_;refine MH (i:=0) (m:=mN n) (news:=((ej (km ws k).2).take (mN n))) (H':=[ak b10 (ej (lh (eU s' ((km ws k).1)) (km ws k).2 (mN n))) 128,ak b9 (db (km ws k)) 187,ak d [(.map (some m)),wv,(.bool (ar)),(.int .i64 (lf)),(.bool (dn))] 161,jZ m (rF s'),own wv (ws.length) (dO ws) 187 65]) (ab rfl) rfl rfl rfl gO lB rfl rfl rfl rfl (λ_ _=>jK (by rw[bo,ba,dR hw (by omega)];have:=mM n;omega) (RO 1) (by rw[bo,ba,dR hw (by omega)];exact Bv (dR hw (by omega)) (mM n))) (λu hu=>eY _ u (mc hu)) (by rw[ba,cj hs2];have:=mM n;omega) (Gg (mM n) (cj hs2 _) (dR hw (by omega)) (by omega)) rfl (EN (DN (ac J10 (ae (PS ?_)))));refine FA 0 pe aQ ?_;refine LA 1 Y3 ?_
 refine tp (aM (vs:=ej (lh (eU s' ((km ws k).1)) (km ws k).2 (mN n))) rfl py rfl jM rfl (RO 0) (by rw[ba];exact n8 (cj hs2 _) (dR hw (by omega))) (wi (by rw[ba];exact n8 (cj hs2 _) (dR hw (by omega))))) ?_;refine CR IB (o8 d m wv s' ar (dn) lf ((km ws k).1) (lh (eU s' ((km ws k).1)) (km ws k).2 (mN n)) (by exact n8 (cj hs2 _) (dR hw (by omega)))) (SM [2,2]) λvR HR hR=>?_
 subst hR;refine au (ag (ac J6 (ae (AD ?_))));refine PS ?_;refine au ?_
 exact aK ((k+1,od s' (km ws k).1 (lh (eU s' (km ws k).1) (km ws k).2 (mN n))):(Nat)×(fo)) ⟨by omega,by rw[hs',gv,jI,if_pos h26]⟩ (by show ws.length- (k+1)<ws.length-k;omega)
  SB
  (λ_ s=>am [0,0,2] rfl s)
 refine nx J8 (CN (sr λ_ J11=>P2 ?_));refine tp (PV.rem (r:=((k%32:Nat):Int)) rfl rfl rfl (by omega) (by rw[show(32:Int)=((32:Nat):Int)from rfl,←Int.ofNat_tmod])) ?_;refine tp (l8 (r:=mask.fdiv (2^ (k%32))) rfl rfl rfl (by omega) (by congr 2;show min ((k%32:Nat):Int).toNat 64=k%32;omega)) ?_;refine tp (tt (r:=mask.fdiv (2^ (k%32))%2) rfl rfl rfl (Pq _)) ?_;refine PS ?_;refine ao ?_ ?_<;>intro h50;refine nx J11 (CY (ae (PS ?_)));refine FA 0 pe aQ ?_;refine LA 0 Y3 ?_;refine FA 1 pe jM ?_;refine tp (aM (vs:=ej (km ws k).2) rfl py rfl jM rfl (RO 0) (by rw[ba];exact dR hw (by omega)) (vY (dR hw (by omega)))) ?_;refine CR IB (o8 d m wv s' ar (dn) lf ((km ws k).1) (km ws k).2 (by exact dR hw (by omega))) (SM [1,1]) λvR HR hR=>?_
 subst hR;refine au (ag (ac J6 (ae (AD ?_))));refine PS ?_;refine au ?_
 exact aK ((k+1,od s' (km ws k).1 (km ws k).2):(Nat)×(fo)) ⟨by omega,by rw[hs',gv,jI,if_neg h26,if_pos h50]⟩ (by show ws.length- (k+1)<ws.length-k;omega)
  SB
  (λ_ s=>am [0,0,1] rfl s)
 refine nx J11 (CN (aU (ag (ac J6 (ae (AD ?_))))));refine PS ?_;refine au ?_
 exact aK ((k+1,s'):(Nat)×(fo)) ⟨by omega,by rw[gv,jI,if_neg h26,if_neg h50];exact hs'⟩ (by show ws.length- (k+1)<ws.length-k;omega)
  SB
  (λ_ s=>am [1,1,1] rfl s)
 refine nx J4 (aa λ_ J12=>CN (aX (aA (aA (br (ac J2 (ae ?_)))))))
 iterate 5 refine PS ?_
 refine FA 1 gP gK ?_;refine S0 0 gK ?_;refine PS ?_;refine FA 2 gP k9 ?_;refine S0 0 k9 ?_;refine PS ?_;refine FA 3 gP aQ ?_;refine S0 0 aQ ?_;refine PS ?_;refine FA 4 gP k9 ?_;refine S0 0 k9 ?_;refine au (aF (H':=[ak d [(.map (some m)),(.slice none 0 0),(.bool false),(.int .i64 0),(.bool false)] 161,jZ m (rF s'),own (.slice none 0 0) 0 [] 187 65]) (dK _) (λ_ s=>eu (List.Perm.trans (List.Perm.swap _ _ _) (List.Perm.cons _ (List.Perm.swap _ _ _))) (gV 187 65 (am [0,0] rfl s))) (bD rfl ?_));obtain rfl:k=ws.length:=by omega
 subst hs';exact rfl
theorem KS:Tryz.prog.eqGuardType Tryz.prog.depth 128=false:=by kernel_rfl
theorem KR:Tryz.prog.keyTypeAt 2 128=true:=by kernel_rfl
theorem KT:lj Tryz.prog 2 128=some (List.replicate 64 (some .u8)):=by kernel_rfl
theorem KV:Dm Tryz.prog 128=true:=by kernel_rfl
theorem KU:Tryz.prog.cellsOf 128=64:=by kernel_rfl
abbrev dk(d:Nat)(D:DS):HP:=N5 161 187 d D
theorem FX(d:Nat)(D:DS):DT 57 #[(.pointer (some ⟨d,0,none⟩))] T0 [dk d D] (RI (.bool D.dn) [dk d (D)]):=Leg.Does.pack (B:=[]) λ⟨m,wv⟩=>
 Leg.Does.withinR (A1 d m wv D.ar D.dn D.lf) (B:=[jZ m (rF D.s),own wv D.ws.length (dO D.ws) 187 65]) (λ_ _ _ _=>trivial) (λ_ s=>s) (λv H h=>by
  obtain⟨rfl,rfl⟩:=h
  exact⟨_,λ_ s=>bp (H:=[]) (m,wv) (s),rfl,rfl⟩)
theorem Mv(d:Nat)(D:DS)(n:Int):DT 61 #[(.pointer (some ⟨d,0,none⟩)), .int .i64 n] T0 [dk d D] (dz (λv H=>True∧H=[dk d (D.arm n)])):=Leg.Does.pack (B:=[]) λ⟨m,wv⟩=>
 Leg.Does.withinR (C1 d m wv D.ar D.dn D.lf n) (B:=[jZ m (rF D.s),own wv D.ws.length (dO D.ws) 187 65]) (λ_ _ _ _=>trivial) (λ_ s=>s) (λv H h=>by
  subst h
  exact⟨_,λ_ s=>bp (H:=[]) (m,wv) s,trivial,rfl⟩)
theorem Kr(d:Nat)(D:DS)(at':Int)(hD:D.Ok):DT 68 #[(.pointer (some ⟨d,0,none⟩)), .int .i64 at'] T0 [dk d D] (RI (B3 (eU D.s at')) [dk d (D)]):=Leg.Does.pack (B:=[]) λ⟨m,wv⟩=>
 Leg.Does.withinR (AZ d m wv D.s D.ar D.dn D.lf at' hD.s) (B:=[own wv D.ws.length (dO D.ws) 187 65]) (λ_ _ _ _=>trivial) (λ_ s=>s) (λv H h=>by
  obtain⟨rfl,rfl⟩:=h
  exact⟨_,λ_ s=>bp (H:=[]) (m,wv) (s),rfl,rfl⟩)
theorem A3(d:Nat)(D:DS)(at':Int)(hD:D.Ok)(hb:D.ws.length≤1000000000):DT 130 #[(.pointer (some ⟨d,0,none⟩)), .int .i64 at'] T0 [dk d D] (RI (B3 (D.read at')) [dk d (D)]):=Leg.Does.pack (B:=[]) λ⟨m,wv⟩=>
 Leg.Does.withinR (A0 d m wv D.s D.ws D.ar D.dn D.lf at' hD.s hD.ws hb) (B:=[]) (λ_ _ _ _=>trivial) (λ_ s=>s) (λv H h=>by
  obtain⟨rfl,rfl⟩:=h
  exact⟨_,λ_ s=>bp (H:=[]) (m,wv) (s),rfl,rfl⟩)
theorem C5(d:Nat)(D:DS)(mask torn n:Int)(hD:D.Ok):DT 62 #[(.pointer (some ⟨d,0,none⟩)), .int .i64 mask, .int .i64 torn, .int .i64 n] T0 [dk d D] (dz (λv H=>True∧H=[dk d (D.crash mask torn n)])):=Leg.Does.pack (B:=[]) λ⟨m,wv⟩=>
 Leg.Does.withinR (yu d m wv D.s D.ws D.ar D.dn D.lf mask torn n hD.s hD.ws) (B:=[]) (λ_ _ _ _=>trivial) (λ_ s=>s) (λv H h=>by
  subst h
  exact⟨_,λ_ s=>bp (H:=[]) (m,(.slice none 0 0:Value)) s,trivial,rfl⟩)
theorem xG(d:Nat)(D:DS)(at':Int)(x:Value)(bs:List UInt8)(hD:D.Ok)(hb:D.ws.length≤1000000000):DT 70 #[(.pointer (some ⟨d,0,none⟩)), .int .i64 at',x] (IsW x bs) [dk d D] (RI (.int .i64 (D.write at' bs).1) [dk d ((D.write at' bs).2)]):=Leg.Does.pack (B:=[]) λ⟨m,wv⟩=>
 Leg.Does.withinR (yt d m wv D.ws D.ar D.dn D.lf at' x bs hD.lf hb) (B:=[jZ m (rF D.s)]) (λ_ _ h d=>h.more d) (λ_ s=>aC [0,1] rfl s) (λv H h=>by
  unfold DS.write;replace h:(if at'<0∨2048≤at'∨64<bs.length then _ else _):=h;split at h<;>rename_i h1
  · rw[if_pos h1]
    obtain⟨rfl,rfl⟩:=h;exact⟨_,λ_ s=>bp (H:=[]) (m,wv) (aC [0,1] rfl s),rfl,rfl⟩
  · rw[if_neg h1]
    split at h<;>rename_i h2
    · rw[if_pos h2]
      obtain⟨rfl,rfl⟩:=h;exact⟨_,λ_ s=>bp (H:=[]) (m,wv) (aC [0,1] rfl s),rfl,rfl⟩
    · rw[if_neg h2]
      obtain⟨rfl,wv',rfl⟩:=h
      exact⟨_,λ_ s=>bp (H:=[]) (m,wv') (aC [0,1] rfl s),rfl,rfl⟩)
theorem A2(d:Nat)(D:DS)(hD:D.Ok):DT 71 #[(.pointer (some ⟨d,0,none⟩))] T0 [dk d D] (RI (.int .i64 D.sync.1) [dk d D.sync.2]):=by
 obtain⟨s,ws,ar,lf,dn⟩:=D;cases dn
 · exact Leg.Does.pack (B:=[]) λ⟨m,wv⟩=>Leg.Does.withinR (xF d m wv s ws ar lf hD.ws) (B:=[]) (λ_ _ _ _=>trivial) (λ_ s=>s) (λv H h=>by
    obtain⟨rfl,rfl⟩:=h
    exact⟨_,λ_ s=>bp (H:=[]) (m,(.slice none 0 0:Value)) s,rfl,rfl⟩)
 · exact Leg.Does.pack (B:=[]) λ⟨m,wv⟩=>Leg.Does.withinR (uk d m wv ar lf) (B:=[jZ m (rF s),own wv ws.length (dO ws) 187 65]) (λ_ _ _ _=>trivial) (λ_ s=>s) (λv H h=>by
    obtain⟨rfl,rfl⟩:=h
    exact⟨_,λ_ s=>bp (H:=[]) (m,wv) s,rfl,rfl⟩)
theorem ET:DT 54 #[] T0 [] (dz (λv H=>∃d,v= .pointer (some ⟨d,0,none⟩)∧H=[dk d DS.new])):=
 Leg.Does.withinR C0 (B:=[]) (λ_ _ _ _=>trivial) (λ_ s=>s) (λv H h=>by
  obtain⟨d,m,rfl,rfl⟩:=h
  exact⟨_,λ_ s=>bp (H:=[]) (m,(.slice none 0 0:Value)) (eu (List.Perm.trans (List.Perm.swap _ _ _) (List.Perm.cons _ (List.Perm.swap _ _ _))) (gV 187 65 s)),d,rfl,rfl⟩)
end Go.Proofs.YtjblgopghhgflaaGreat
end

section
namespace Wal
open Go Leg Codec Api Dsk
theorem tX{x y:Int}(k:Nat)(hx:0≤x)(hx2:x<2^k)(hy:0≤y)(h:x+y*2^k<4294967296):iS .u32 x (y*2^k)=x+y*2^k:=by
 obtain⟨a,rfl⟩:=Int.eq_ofNat_of_zero_le hx;obtain⟨b,rfl⟩:=Int.eq_ofNat_of_zero_le hy;have e2:((b:Nat):Int)*2^k=((b*2^k:Nat):Int):=by simp
 rw[e2]at h ⊢
 have ha:a<2^k:=by
  have:(((2:Nat)^k:Nat):Int)=(2:Int)^k:=by simp
  omega
 have hs:a+b*2^k<4294967296:=by omega
 have h1:(BitVec.ofInt 32 (a:Int)).toNat=a:=by rw[BitVec.toNat_ofInt];omega
 have h2:(BitVec.ofInt 32 ((b*2^k:Nat):Int)).toNat=b*2^k:=by
  rw[BitVec.toNat_ofInt];generalize b*2^k=q at*;omega
 have h3:a|||b*2^k=a+b*2^k:=by
  rw[Nat.or_comm,←Nat.shiftLeft_eq,←Nat.shiftLeft_add_eq_or_of_lt ha,mp]
 show IntKind.u32.wrap (((BitVec.ofInt 32 (a:Int))||| (BitVec.ofInt 32 ((b*2^k:Nat):Int))).toNat:Nat)=_;rw[BitVec.toNat_or,h1,h2,h3];generalize b*2^k=q at*;rw[kB (by omega) (by omega)];omega
theorem GO{x y:Int}(k:Nat)(hx:0≤x)(hx2:x<2^k)(hy:0≤y)(h:x+y*2^k<9223372036854775808):iS .i64 (y*2^k) x=x+y*2^k:=by
 obtain⟨a,rfl⟩:=Int.eq_ofNat_of_zero_le hx;obtain⟨b,rfl⟩:=Int.eq_ofNat_of_zero_le hy;have e2:((b:Nat):Int)*2^k=((b*2^k:Nat):Int):=by simp
 rw[e2]at h ⊢
 have ha:a<2^k:=by
  have:(((2:Nat)^k:Nat):Int)=(2:Int)^k:=by simp
  omega
 have h1:(BitVec.ofInt 64 (a:Int)).toNat=a:=by rw[BitVec.toNat_ofInt];omega
 have h2:(BitVec.ofInt 64 ((b*2^k:Nat):Int)).toNat=b*2^k:=by
  rw[BitVec.toNat_ofInt];generalize b*2^k=q at*;omega
 have h3:b*2^k|||a=a+b*2^k:=by
  rw[←Nat.shiftLeft_eq,←Nat.shiftLeft_add_eq_or_of_lt ha,mp]
 show IntKind.i64.wrap (((BitVec.ofInt 64 ((b*2^k:Nat):Int))||| (BitVec.ofInt 64 (a:Int))).toNat:Nat)=_;rw[BitVec.toNat_or,h1,h2,h3];generalize b*2^k=q at*;rw[bV (by omega) (by omega)];omega
theorem Gd(x:Int):0≤IntKind.u32.wrap x∧IntKind.u32.wrap x<4294967296:=by
 simp only[IntKind.wrap,IntKind.signed,IntKind.bits];simp;omega
theorem Bo(a b:Int):0≤pG .u32 a b∧pG .u32 a b<4294967296:=Gd _
def r8(x:Int):UInt8:=UInt8.ofNat (x%256).toNat
theorem jR(x:Int):(((r8 x).toNat:Nat):Int)=x%256:=by
 have:(x%256).toNat<256:=by omega
 simp only[r8,UInt8.toNat_ofNat'];omega
theorem r8_wrap(x:Int):IntKind.u8.wrap x=(((r8 x).toNat:Nat):Int):=by
 rw[jR];simp only[IntKind.wrap,IntKind.signed,IntKind.bits];simp
def EY(r:Int):Int:=if tl .u32 r 1=1 then pG .u32 (r.fdiv 2) 3988292384 else r.fdiv 2
def mO(r:Int):Nat→Int
 |0=>r
 |k+1=>EY (mO r k)
def FZ(r:Int)(c:UInt8):Int:=mO (pG .u32 r ((c.toNat:Nat):Int)) 8
def fy(r:Int)(bs:List UInt8):Int:=bs.foldl FZ r
def gd(bs:List UInt8):Int:=pG .u32 4294967295 (fy 4294967295 bs)
theorem C7{r:Int}{bs:List UInt8}{k:Nat}(h:k<bs.length):fy r (bs.take (k+1))=FZ (fy r (bs.take k)) (bs.getD k 0):=by
 rw[fy,fy,cv h,ei,List.getD_eq_getElem?_getD,List.getElem?_eq_getElem h];rfl
theorem yv(r:Int)(a b:List UInt8):fy r (a++b)=fy (fy r a) b:=by simp[fy]
theorem C8{r:Int}{ps:List (List UInt8)}{k:Nat}(h:k<ps.length):fy r (ps.take (k+1)).flatten=fy (fy r (ps.take k).flatten) ps[k]:=by
 rw[cv h,List.flatten_append,yv];simp
theorem C9(bs:List UInt8):0≤gd bs∧gd bs<4294967296:=Bo _ _
def Pm(r:Int):List UInt8:=[r8 r,r8 (r.fdiv 256),r8 (r.fdiv 65536),r8 (r.fdiv 16777216)]
def IQ(a b c d:UInt8):Int:=
 iS .u32 (iS .u32 (iS .u32 ((a.toNat:Nat):Int) (IntKind.u32.wrap (((b.toNat:Nat):Int)*2^8))) (IntKind.u32.wrap (((c.toNat:Nat):Int)*2^16))) (IntKind.u32.wrap (((d.toNat:Nat):Int)*2^24))
theorem Kk(a b c d:UInt8):IQ a b c d=((a.toNat:Nat):Int)+((b.toNat:Nat):Int)*256+((c.toNat:Nat):Int)*65536+((d.toNat:Nat):Int)*16777216:=by
 have ha:=a.toNat_lt;have hb:=b.toNat_lt;have hc:=c.toNat_lt;have hd:=d.toNat_lt;unfold IQ;generalize a.toNat=a at*;generalize b.toNat=b at*;generalize c.toNat=c at*;generalize d.toNat=d at*;rw[kB (x:=(b:Int)*2^8) (by omega) (by omega),kB (x:=(c:Int)*2^16) (by omega) (by omega),kB (x:=(d:Int)*2^24) (by omega) (by omega)];rw[tX 8 (by omega) (by omega) (by omega) (by omega),tX 16 (by omega) (by omega) (by omega) (by omega),tX 24 (by omega) (by omega) (by omega) (by omega)];omega
def pu(bs:List UInt8):List UInt8:=bs++Pm (gd bs)
def mr(bs:List UInt8):Option (List UInt8):=
 if bs.length<4 then none
 else if gd (bs.take (bs.length-4))=IQ ((bs.drop (bs.length-4)).getD 0 0) ((bs.drop (bs.length-4)).getD 1 0) ((bs.drop (bs.length-4)).getD 2 0) ((bs.drop (bs.length-4)).getD 3 0)then some (bs.take (bs.length-4))else none
theorem kO(bs:List UInt8):(pu bs).length=bs.length+4:=by simp[pu,Pm]
theorem IP{r:Int}(h:0≤r∧r<4294967296):IQ (r8 r) (r8 (r.fdiv 256)) (r8 (r.fdiv 65536)) (r8 (r.fdiv 16777216))=r:=by
 rw[Kk,jR,jR,jR,jR,Int.fdiv_eq_ediv_of_nonneg _ (by decide),Int.fdiv_eq_ediv_of_nonneg _ (by decide),Int.fdiv_eq_ediv_of_nonneg _ (by decide)];omega
theorem ra(bs:List UInt8):mr (pu bs)=some bs:=by
 have hl:=kO bs;have e1:(pu bs).take (bs.length+4-4)=bs:=by rw[HD,pu];exact tu
 have e2:(pu bs).drop (bs.length+4-4)=Pm (gd bs):=by rw[HD,pu];exact Du
 unfold mr;rw[hl,if_neg (by omega),e1,e2];exact if_pos (IP (C9 bs)).symm
theorem yY{bs t:List UInt8}(h:mr bs=some t):t.length+4=bs.length:=by
 unfold mr at h;split at h
 · cases h
 · split at h
   · injection h with h;subst h;rw[bo];omega
   · cases h
def aZ(n:Nat):Nat:=if n=0 then 1 else(n-1) / 52+1
theorem lP(n:Nat):0<aZ n:=by unfold aZ;split<;>omega
theorem oR{n:Nat}(h:n≤3000):aZ n≤58:=by unfold aZ;split<;>omega
theorem yl(n:Nat):n≤aZ n*52:=by unfold aZ;split<;>omega
def Jf(n:Int):List UInt8:=[r8 (n.fdiv 16777216),r8 (n.fdiv 65536),r8 (n.fdiv 256),r8 n]
def Dl(bs:List UInt8):Int:=bs.foldl (λh c=>iS .i64 (IntKind.i64.wrap (h*2^8)) ((c.toNat:Nat):Int)) 0
theorem Je{bs:List UInt8}{k:Nat}(h:k<bs.length):Dl (bs.take (k+1))=iS .i64 (IntKind.i64.wrap (Dl (bs.take k)*2^8)) (((bs.getD k 0).toNat:Nat):Int):=by
 rw[Dl,Dl,cv h,ei,List.getD_eq_getElem?_getD,List.getElem?_eq_getElem h];rfl
theorem vJ{h:Int}(c:UInt8)(h0:0≤h)(h1:h<4294967296):iS .i64 (IntKind.i64.wrap (h*2^8)) ((c.toNat:Nat):Int)=h*256+((c.toNat:Nat):Int):=by
 have hc:=c.toNat_lt;generalize c.toNat=c at*;rw[bV (by omega) (by omega),GO 8 (by omega) (by omega) (by omega) (by omega)];omega
theorem xQ(a b c d:UInt8):Dl [a,b,c,d]=((a.toNat:Nat):Int)*16777216+((b.toNat:Nat):Int)*65536+((c.toNat:Nat):Int)*256+((d.toNat:Nat):Int):=by
 have ha:=a.toNat_lt;have hb:=b.toNat_lt;have hc:=c.toNat_lt;have hd:=d.toNat_lt;simp only[Dl,List.foldl_cons,List.foldl_nil];rw[vJ a (by omega) (by omega),vJ b (by omega) (by omega),vJ c (by omega) (by omega),vJ d (by omega) (by omega)];omega
theorem KC{n:Int}(h0:0≤n)(h1:n<4294967296):Dl (Jf n)=n:=by
 rw[Jf,xQ,jR,jR,jR,jR,Int.fdiv_eq_ediv_of_nonneg _ (by decide),Int.fdiv_eq_ediv_of_nonneg _ (by decide),Int.fdiv_eq_ediv_of_nonneg _ (by decide)];omega
def gA(b:List UInt8)(i:Nat):List UInt8:=(b.drop (i*52)).take 52
theorem qA(b:List UInt8)(i:Nat):(gA b i).length≤52:=by rw[gA,bo];omega
theorem J0{n k:Nat}(h:k<aZ n):k*52≤n:=by unfold aZ at h;split at h<;>omega
theorem Ka(b:List UInt8)(k:Nat):((b.take (min ((k+1)*52) b.length)).drop (k*52))=gA b k:=by
 rw[gA,oF,fQ,Nat.one_mul]
 by_cases q:k*52+52≤b.length
 · rw[Nat.min_eq_left q,cp]
 · rw[Nat.min_eq_right (by omega),az (by rw[eb];omega),az (by rw[eb];omega)]
theorem GL(b:List UInt8): ∀k,b.length≤k*52→((List.range k).map (gA b)).flatten=b:=by
 have key: ∀k,((List.range k).map (gA b)).flatten=b.take (k*52):=by
  intro k
  induction k with
  |zero=>simp
  |succ k ih=>
   rw[c9,da,List.flatten_append,ih,fQ,Nat.one_mul,List.take_add];simp[gA]
 intro k hk;rw[key,az hk]
def jk(number:Int)(place all:Nat)(p:List UInt8):List UInt8:=Jf number++([r8 (place:Int),r8 (all:Int),r8 (p.length:Int)]++(p++List.replicate (52-p.length) 0))
theorem jC{number:Int}{place all:Nat}{p:List UInt8}(h:p.length≤52):(jk number place all p).length=59:=by simp[jk,Jf];omega
def mx(number:Int)(place all:Nat)(p:List UInt8):hJ:=pu (jk number place all p)++[1]
theorem Gr{number:Int}{place all:Nat}{p:List UInt8}(h:p.length≤52):(mx number place all p).length=64:=by simp[mx,kO,jC h]
def bh(number:Int)(b:List UInt8):List hJ:=(List.range (aZ b.length)).map λi=>mx number i (aZ b.length) (gA b i)
def m7(number:Int)(b:List UInt8)(k:Nat):List hJ:=(List.range k).map λi=>mx number i (aZ b.length) (gA b i)
theorem D7(number:Int)(b:List UInt8)(k:Nat):m7 number b (k+1)=m7 number b k++[mx number k (aZ b.length) (gA b k)]:=by simp[m7,c9]
theorem y3(number:Int)(b:List UInt8)(k:Nat):(m7 number b k).length=k:=by simp[m7]
theorem Gh{number:Int}{place all:Nat}{p:List UInt8}(h:p.length≤52):
 wr (ej (Jf number++([r8 (place:Int),r8 (all:Int),r8 (p.length:Int)]++List.replicate 52 0))) 7 ((ej p).take (min p.length 52))=ej (jk number place all p):=by
 have e:(ej p).take (min p.length 52)=ej p:=az (by rw[ba];omega);rw[e,wr,ba];have e2:(ej (Jf number++([r8 (place:Int),r8 (all:Int),r8 (p.length:Int)]++List.replicate 52 0))).take 7=ej (Jf number++[r8 (place:Int),r8 (all:Int),r8 (p.length:Int)]):=rfl
 have e3:(ej (Jf number++([r8 (place:Int),r8 (all:Int),r8 (p.length:Int)]++List.replicate 52 0))).drop (7+p.length)=ej (List.replicate (52-p.length) 0):=by
  rw[←iI];have:(ej (Jf number++([r8 (place:Int),r8 (all:Int),r8 (p.length:Int)]++List.replicate 52 0))).drop 7=ej (List.replicate 52 0):=rfl;rw[this,ej,ej,←k0,Fi]
 rw[e2,e3,jk];simp[ej]
theorem cx(number:Int)(b:List UInt8):(bh number b).length=aZ b.length:=by simp[bh]
def e7(s:hJ)(number place:Int):Option (List UInt8×Int):=
 match mr (s.take 63)with
 |none=>none
 |some t=>if s.getD 63 0≠1 then none
  else if Dl (t.take 4)≠number∨(((t.getD 4 0).toNat:Nat):Int)≠place∨place≥(((t.getD 5 0).toNat:Nat):Int)∨(((t.getD 6 0).toNat:Nat):Int)>52 then none
  else some ((t.drop 7).take (t.getD 6 0).toNat,(((t.getD 5 0).toNat:Nat):Int))
theorem Cj{number:Int}{place all:Nat}{p:List UInt8}(h:p.length≤52)(h0:0≤number)(h1:number<4294967296)(hp:place<all)(ha:all≤255):e7 (mx number place all p) number place=some (p,(all:Int)):=by
 have e1:(mx number place all p).take 63=pu (jk number place all p):=by
  rw[mx,bZ (by rw[kO,jC h];omega),az (by rw[kO,jC h];omega)]
 have e2:(mx number place all p).getD 63 0=1:=by
  rw[mx,List.getD_eq_getElem?_getD,List.getElem?_append_right (by rw[kO,jC h];omega),kO,jC h];rfl
 have n1:(((r8 (place:Int)).toNat:Nat):Int)=place:=by rw[jR];omega
 have n2:(((r8 (all:Int)).toNat:Nat):Int)=all:=by rw[jR];omega
 have n3:(((r8 (p.length:Int)).toNat:Nat):Int)=p.length:=by rw[jR];omega
 unfold e7;rw[e1,ra];simp only[e2,ne_eq,not_true_eq_false,if_false];have t4:(jk number place all p).take 4=Jf number:=rfl;have g4:(jk number place all p).getD 4 0=r8 (place:Int):=rfl;have g5:(jk number place all p).getD 5 0=r8 (all:Int):=rfl;have g6:(jk number place all p).getD 6 0=r8 (p.length:Int):=rfl;have g7:(jk number place all p).drop 7=p++List.replicate (52-p.length) 0:=rfl;rw[t4,KC h0 h1,g4,g5,g6,g7,n1,n2,n3];rw[if_neg (by omega)];have n3':(r8 (p.length:Int)).toNat=p.length:=by omega
 rw[n3'];simp
theorem m9{s:hJ}{number place:Int}(h:s.getD 63 0≠1):e7 s number place=none:=by
 unfold e7;split
 · rfl
 · rw[if_pos h]
theorem oS{s b:hJ}{number place all:Int}(hs:s.length=64)(h:e7 s number place=some (b,all)):place<all∧all≤255∧b.length≤52:=by
 unfold e7 at h;split at h
 · cases h
 · rename_i t ht
   have hl:=yY ht;split at h
   · cases h
   · split at h
     · cases h
     · rename_i h2
       injection h with h
       simp only[Prod.mk.injEq]at h;obtain⟨rfl,rfl⟩:=h;have:=(t.getD 5 0).toNat_lt;rw[bo];omega
theorem AB{s:hJ}{number place:Int}(h:mr (s.take 63)=none):e7 s number place=none:=by simp only[e7,h]
theorem mG{s t:hJ}{number place:Int}(h:mr (s.take 63)=some t)(h2:Dl (t.take 4)≠number∨(((t.getD 4 0).toNat:Nat):Int)≠place∨place≥(((t.getD 5 0).toNat:Nat):Int)∨(((t.getD 6 0).toNat:Nat):Int)>52):e7 s number place=none:=by
 simp only[e7,h];split
 · rfl
 · first|rfl|rw[if_pos h2]
theorem Ci{s t:hJ}{number place:Int}(h:mr (s.take 63)=some t)(h1:s.getD 63 0=1)(h2: ¬(Dl (t.take 4)≠number∨(((t.getD 4 0).toNat:Nat):Int)≠place∨place≥(((t.getD 5 0).toNat:Nat):Int)∨(((t.getD 6 0).toNat:Nat):Int)>52)):
 e7 s number place=some ((t.drop 7).take (t.getD 6 0).toNat,(((t.getD 5 0).toNat:Nat):Int)):=by
 simp only[e7,h,h1,ne_eq,not_true_eq_false,if_false];rw[if_neg h2]
def kQ(rd:Int→hJ)(number at' all:Int):Nat→Option (List UInt8)
 |0=>some []
 |k+1=>match kQ rd number at' all k with
  |none=>none
  |some b=>match e7 (rd (at'+k)) number k with
   |none=>none
   |some (m,same)=>if same=all then some (b++m)else none
def fA(rd:Int→hJ)(number at':Int):Option (List UInt8×Int):=
 match e7 (rd at') number 0 with
 |none=>none
 |some (_,all)=>(kQ rd number at' all all.toNat).map λb=>(b,all)
theorem Ep{rd:Int→hJ}{number at' all:Int}{k:Nat}(h:kQ rd number at' all k=none): ∀m,k≤m→kQ rd number at' all m=none:=by
 intro m hm
 induction hm with
 |refl=>exact h
 |step _ ih=>simp only[kQ,ih]
theorem w7{rd:Int→hJ}{number at' all:Int}{k:Nat}(h:e7 (rd (at'+k)) number k=none∨∃m same,e7 (rd (at'+k)) number k=some (m,same)∧same≠all): ∀m,k<m→kQ rd number at' all m=none:=by
 refine λm hm=>Ep (k:=k+1) ?_ m hm
 simp only[kQ];cases kQ rd number at' all k with
 |none=>rfl
 |some b=>
  rcases h with h| ⟨x,same,h,h2⟩
  · simp only[h]
  · simp only[h,if_neg h2]
theorem w9{rd:Int→hJ}{number at' all:Int}{k:Nat}{b x:List UInt8}(h:kQ rd number at' all k=some b)(h2:e7 (rd (at'+k)) number k=some (x,all)):kQ rd number at' all (k+1)=some (b++x):=by
 simp only[kQ,h,h2,if_true]
theorem GZ{rd:Int→hJ}{number at' all:Int}{b:List UInt8}(h:e7 (rd at') number 0=some (b,all)):kQ rd number at' all 1=some b:=by
 have h0:kQ rd number at' all 0=some []:=rfl;have:=w9 (rd:=rd) (number:=number) (at':=at') (all:=all) (k:=0) h0 (x:=b) (by simpa using h)
 simpa using this
theorem qQ{rd:Int→hJ}{number at':Int}(h:e7 (rd at') number 0=none):fA rd number at'=none:=by simp only[fA,h]
theorem qP{rd:Int→hJ}{number at' all:Int}{b:List UInt8}(h:e7 (rd at') number 0=some (b,all))(h2:kQ rd number at' all all.toNat=none):fA rd number at'=none:=by simp only[fA,h,h2,Option.map_none]
theorem sH{rd:Int→hJ}{number at' all:Int}{b c:List UInt8}(h:e7 (rd at') number 0=some (b,all))(h2:kQ rd number at' all all.toNat=some c):fA rd number at'=some (c,all):=by simp only[fA,h,h2,Option.map_some]
def fJ(rd:Int→hJ):Nat→Int→Int→List (List UInt8)×Int
 |0,_,used=>([],used)
 |f+1,cnt,used=>match fA rd (cnt+1) used with
  |none=>([],used)
  |some (b,all)=>let r:=fJ rd f (cnt+1) (used+all);(b::r.1,r.2)
def gn:Nat→Int→DS→Int×DS
 |0,_,D=>(0,D)
 |n+1,at',D=>if D.read at'=zs then gn n (at'+1) D else if(D.write at' []).1=0 then gn n (at'+1) (D.write at' []).2 else D.write at' []
structure OpenR where
 err:Int
 recs:List (List UInt8)
 used:Int
 D:DS
def ie:Nat:=2049
theorem qa:ie=2049:=rfl
def bH(D:DS):OpenR:=
 let r:=fJ D.read ie 0 0;let w:=gn (2048-r.2).toNat r.2 D
 if w.1≠0 then⟨w.1,[],0,w.2⟩else if w.2.sync.1≠0 then⟨w.2.sync.1,[],0,w.2.sync.2⟩else⟨0,r.1,r.2,w.2.sync.2⟩
def In(s:fo):Prop:=∀p∈s,0≤p.1∧p.1<2048
def DS.In(D:DS):Prop:=Wal.In D.s∧Wal.In D.ws
end Wal
end

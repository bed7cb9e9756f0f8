/-
  Joined texts:what a statement's proof reaches.
-/
import Derived.Laws.MakeOwn
import Derived.OwnWalk
import Derived.WalkSpells
import Derived.Test.YtkhjnolhhidecaaGreatDoorPWC2
set_option maxHeartbeats 8000000
set_option maxRecDepth 100000
set_option linter.unusedSimpArgs false
set_option linter.unusedVariables false
section
namespace Leg
open Go Codec Api
theorem y7(v:Value)(n:Nat):madeCells #[v] n=(List.replicate n v).toArray:=by
 unfold madeCells;apply Array.ext
 · simp
 · intro i h1 h2
   simp at h1;simp[Nat.mod_one]
theorem LF(n:Nat):dX (List.replicate n 0)=List.replicate n (.int .u8 0):=by simp[dX]
section
variable {P:Program} {w0:World} {F:Hl} {n:Nat} {ops:Array Oper} {Q:QQ} {D:List Deferred} {L:List (Nat×Value)} {H:List HP} {o:Oper} {l:List Oper} {d:Nat} {S:World→Prop}
theorem TL.mono{H':List HP}(m: ∀h,bR H h→bR H' h)(h:TL P w0 F n ops Q l D L H'):TL P w0 F n ops Q l D L H:=TL.weak (dN _) m h
abbrev ci:= @TL.mono
theorem TL.makeB{t e:TypeId}{x y:Operand}{k k':IntKind}{a b:Int}(m c:Nat)(hw:Want n D ops o L)(ho:o.op= .makeSlice t x y)(hd:o.dst=some d)(hn:Nat.blt d n=true)(ht:P.underlying t=some (.slice e))
 (hi:(P.info? e).map (λi=>(i.zero,i.size,i.bytes))=some (some (.int .u8 0),1,1)) (hx:cR L x=some (.int k a)) (hy:cR L y=some (.int k' b)) (ha:a=(m:Int)) (hb:b=(c:Int)) (h1:m≤c) (h2:c≤281474976710656)
 (h: ∀b,TL P w0 F n ops Q l D ((d, .slice (some ⟨b,0,none⟩) m c)::L) (aj b (dX (List.replicate c 0)) e::H)):TL P w0 F n ops Q (o::l) D L H:=
 lr hw λa w f sm q=>by
  subst ha;subst hb;obtain⟨i,hie,hz0,hs,hb⟩:=info_parts hi;have hr:=run_make (P:=P) w t e i (.int .u8 0) ht hie hz0 k k' (m:Int) (c:Int) (by omega) (by omega) (by rw[hb];omega) (by omega)
  have e1:madeCells (Value.cells (.int .u8 0)) ((c:Int).toNat*i.size)=(dX (List.replicate c 0)).toArray:=by
   rw[hs,gB,Ll,LF];exact y7 _ _
  rw[e1]at hr;simp only[Ll]at hr
  have r:(execOp a.eval o).run P w= .ok (.value (.slice (some ⟨w.heap.size,0,none⟩) m c)) (w.alloc (.cells (dX (List.replicate c 0)).toArray e)):=by
   simp only[execOp,ho,f.eval hx,f.eval hy,Sem.run_bind,hr,Result.andThen_ok,Sem.run_pure]
  unfold Oper.wp;rw[r,Oper.upon_value,hd];exact h _ _ _ (f.put (lb hn) _) (sm.trans ⟨rfl,rfl,rfl,by simp⟩) (q.alloc _)
def kH:Value→Nat→Nat→Value
 | .slice a m c,lo,hi=> .slice (if c=lo then a else a.map (·.add lo)) (hi-lo) (c-lo)
 |v,_,_=>v
theorem PV.sliceLH{t e:TypeId}{x y z:Operand}{a:Option Addr}{len cap lo hi:Nat}{k k':IntKind}{i j:Int}(ho:o.op= .slice t x (some y) (some z) none)(ht:P.underlying t=some (.slice e))(hs:(P.info? e).map (·.size)=some 1)
 (hx:cR L x=some (.slice a len cap)) (hy:cR L y=some (.int k i)) (hz:cR L z=some (.int k' j)) (hi':i=(lo:Int)) (hj:j=(hi:Int)) (h1:lo≤hi) (h2:hi≤cap):PV P n D L S o (kH (.slice a len cap) lo hi):=
 λb w g _=>by
  subst hi';subst hj;simp only[execOp,ho,g.eval hx,Option.map_some,Option.map_none,g.eval hy,g.eval hz,kH]
  by_cases q:cap=lo
  · have e2:hi=lo:=by omega
    subst e2;simp[Instr.sliceAt,Instr.slice,run_underlying ht,Instr.sliceBounds,Instr.sliceBound,asIntOf,eD hs,q]
  · simp[Instr.sliceAt,Instr.slice,run_underlying ht,Instr.sliceBounds,Instr.sliceBound,asIntOf,h1,h2,eD hs,q]
theorem PV.sliceH{t e:TypeId}{x z:Operand}{a:Option Addr}{len cap hi:Nat}{k':IntKind}{j:Int}(ho:o.op= .slice t x none (some z) none)(ht:P.underlying t=some (.slice e))(hs:(P.info? e).map (·.size)=some 1)
 (hx:cR L x=some (.slice a len cap)) (hz:cR L z=some (.int k' j)) (hj:j=(hi:Int)) (h2:hi≤cap):PV P n D L S o (kH (.slice a len cap) 0 hi):=
 λb w g _=>by
  subst hj;simp only[execOp,ho,g.eval hx,Option.map_some,Option.map_none,g.eval hz,kH]
  by_cases q:cap=0
  · have e2:hi=0:=by omega
    subst e2;simp[Instr.sliceAt,Instr.slice,run_underlying ht,Instr.sliceBounds,Instr.sliceBound,asIntOf,eD hs,q]
  · simp[Instr.sliceAt,Instr.slice,run_underlying ht,Instr.sliceBounds,Instr.sliceBound,asIntOf,h2,eD hs,q]
theorem PV.sliceL{t e:TypeId}{x y:Operand}{a:Option Addr}{len cap lo:Nat}{k:IntKind}{i:Int}(ho:o.op= .slice t x (some y) none none)(ht:P.underlying t=some (.slice e))(hs:(P.info? e).map (·.size)=some 1)
 (hx:cR L x=some (.slice a len cap)) (hy:cR L y=some (.int k i)) (hi:i=(lo:Int)) (h1:lo≤len):PV P n D L S o (kH (.slice a len cap) lo len):=
 λb w g _=>by
  subst hi;simp only[execOp,ho,g.eval hx,Option.map_some,Option.map_none,g.eval hy,kH]
  by_cases q:cap=lo
  · simp[Instr.sliceAt,Instr.slice,run_underlying ht,Instr.sliceBounds,Instr.sliceBound,asIntOf,h1,eD hs,q]
  · simp[Instr.sliceAt,Instr.slice,run_underlying ht,Instr.sliceBounds,Instr.sliceBound,asIntOf,h1,eD hs,q]
end
theorem IsW.form{v:Value}{bs:List UInt8}{F:Hl}(h:IsW v bs F): ∃a c,v= .slice a bs.length c∧bs.length≤c∧(bs.length=0∨c≤9223372036854775807):=by
 rcases h with(⟨rfl,rfl⟩| ⟨b,off,cap,cs,T,z,rfl,h1,h2,_⟩)| ⟨a,c,rfl,rfl⟩
 · exact⟨_,_,rfl,aK _, .inl rfl⟩
 · exact⟨_,_,rfl,h1, .inr h2⟩
 · exact⟨_,_,rfl,aP _, .inl rfl⟩
theorem IsW.lt{v:Value}{bs:List UInt8}{F:Hl}(h:IsW v bs F):bs.length≤9223372036854775807:=by
 obtain⟨a,c,_,h1,h2⟩:=h.form;omega
theorem IsW.cut{v:Value}{bs:List UInt8}{F:Hl}(h:IsW v bs F){lo hi:Nat}(h1:lo≤hi)(h2:hi≤bs.length):IsW (kH v lo hi) ((bs.take hi).drop lo) F:=by
 have hl:((bs.take hi).drop lo).length=hi-lo:=by simp;omega
 by_cases e:hi-lo=0
 · obtain⟨a,c,rfl,hc,_⟩:=h.form
   have e0:(bs.take hi).drop lo=[]:=List.eq_nil_of_length_eq_zero (by omega);rw[e0];simp only[kH,e];split
   · cases a with
     |some a=>exact .inr ⟨_,_,rfl,rfl⟩
     |none=>
      rcases h with(⟨h,rfl⟩| ⟨b,off,cap,cs,T,z,h,_⟩)| ⟨a,c,h,_⟩
      · injection h with _ _ h;subst h;exact .inl (.inl ⟨by simp,rfl⟩)
      · simp at h
      · simp at h
   · cases a with
     |some a=>exact .inr ⟨_,_,rfl,rfl⟩
     |none=>
      rcases h with(⟨h,rfl⟩| ⟨b,off,cap,cs,T,z,h,_⟩)| ⟨a,c,h,_⟩
      · injection h with _ _ h;subst h;exact .inl (.inl ⟨by simp,rfl⟩)
      · simp at h
      · simp at h
 · obtain⟨b,off,cap,cs,T,z,rfl,hb,hcs,hc⟩:=h.at (j:=0) (by omega)
   rcases h.form with⟨a,c,hv,_,hm⟩
   injection hv with _ _ hv
   subst hv;refine .inl (.inr ⟨b,off+lo,cap-lo,cs,T,z,?_,by omega,by omega,hb,λj hj=>?_⟩)
   · simp only[kH,hl,if_neg (show ¬cap=lo by omega),Option.map_some,qY]
   · rw[hl]at hj
     rw[n9,hcs (lo+j) (by omega)];congr 2;simp[List.getD_eq_getElem?_getD,List.getElem?_take,show lo+j<hi by omega]
def ik(v:Value)(bs:List UInt8)(e:Nat):HP:=λh=>
 (v= .slice none 0 0∧bs=[]∧h=em)∨∃g off cap cur,v= .slice (some ⟨g,off,none⟩) bs.length cap∧h=sg g (.cells cur e (0,0))∧bs.length≤cap∧cap≤maxLen∧off+cap≤cur.size∧(cur.toList.drop off).take bs.length=dX bs
theorem qA{v:Value}{bs:List UInt8}{e:Nat}{h:Hl}(x:cH v bs e h):ik v bs e h:=by
 rcases x with⟨_,⟨h1,h2,h3⟩| ⟨g,cap,cur,h1,h2,h3,h4,h5,h6⟩⟩
 · exact .inl ⟨h1,List.eq_nil_of_length_eq_zero h2,h3⟩
 · exact .inr ⟨g,0,cap,cur,h1,h2,h3,h4,by omega,by simpa using h6⟩
section
variable {H:List HP} {F:Hl} {v:Value} {bs:List UInt8} {e:Nat}
theorem Bg(i:Nat)(hi:Nat.blt i H.length=true)(hH:H.getD i (λ_=>True)=cH v bs e){h:Hl}(s:bR H h):bR (H.set i (ik v bs e)) h:=
 kS i (lb hi) (cQ (eJ i (lb hi) s) (λ_ x=>qA (by rwa [hH]at x)) λ_ x=>x)
theorem xw{lo hi nn:Nat}{bs':List UInt8}(i:Nat)(hi':Nat.blt i H.length=true)(hH:H.getD i (λ_=>True)=cH v bs e){g cap:Nat}(hv:v= .slice (some ⟨g,0,none⟩) nn cap)(h1:lo≤hi)(h2:hi≤bs.length)(h3:lo<bs.length)(hb:(bs.take hi).drop lo=bs'){h:Hl}(s:bR H h):
 bR (H.set i (ik (kH v lo hi) bs' e)) h:=by
 subst hb;have hl:((bs.take hi).drop lo).length=hi-lo:=by simp;omega
 refine kS i (lb hi') (cQ (eJ i (lb hi') s) (λ_ x=>?_) λ_ x=>x);rw[hH]at x;rcases x with⟨_,⟨h1,h2,_⟩| ⟨g',cap',cur,h4,h5,h6,h7,h8,h9⟩⟩
 · rw[hv]at h1;simp at h1
 · rw[hv]at h4 ⊢
   simp only[Value.slice.injEq,Option.some.injEq,Addr.mk.injEq,and_true,true_and]at h4;obtain⟨rfl,rfl,rfl⟩:=h4;refine .inr ⟨g,lo,cap-lo,cur,?_,h5,by omega,by omega,by omega,?_⟩
   · simp only[kH,hl,if_neg (show ¬cap=lo by omega),Option.map_some,qY,bm]
   · rw[hl]
     rw[gB]at h9;have e1:=congrArg (λl:List Value=>(l.take hi).drop lo) h9;simp only[Qd,Nat.min_eq_left h2]at e1;rw[←kO,e1];simp[dX,ql,lS]
theorem Sat.sub_form{w:World}(i:Nat)(s:Sat H F w)(hi:Nat.blt i H.length=true)(hH:H.getD i (λ_=>True)=ik v bs e):(v= .slice none 0 0∧bs=[])∨∃g off cap cur,v= .slice (some ⟨g,off,none⟩) bs.length cap∧w.heap[g]?=some (.cells cur e (0,0))∧bs.length≤cap∧cap≤maxLen∧off+cap≤cur.size∧(cur.toList.drop off).take bs.length=dX bs:=by
 obtain⟨h,d,e',x⟩:=s;obtain⟨h1,h2,d',rfl,a,_⟩:=eJ i (lb hi) x;rw[hH]at a;rcases a with⟨x1,x2,_⟩| ⟨g,off,cap,cur,x1,x2,x3⟩
 · exact .inl ⟨x1,x2⟩
 · refine .inr ⟨g,off,cap,cur,x1,?_,x3⟩
   have:hp w g=some (.cells cur e (0,0)):=by
    rw[e',jN];exact g9 (by rw[x2];simp[sg])
   exact this
theorem Sat.sub_len{w:World}(i:Nat)(s:Sat H F w)(hi:Nat.blt i H.length=true)(hH:H.getD i (λ_=>True)=ik v bs e):p4 v bs.length∧v.oneCell'=true:=by
 rcases s.sub_form i hi hH with⟨rfl,rfl⟩| ⟨g,off,cap,cur,rfl,_⟩
 · exact⟨⟨_,_,rfl⟩,rfl⟩
 · exact⟨⟨_,_,rfl⟩,rfl⟩
theorem Src.sub(i:Nat)(hi:Nat.blt i H.length=true)(hH:H.getD i (λ_=>True)=ik v bs e){w:World}(s:Sat H F w):Src (Sat H F) v bs.length (dX bs) 1:=by
 refine⟨by simp[dX],?_⟩;rcases s.sub_form i hi hH with⟨rfl,rfl⟩| ⟨g,off,cap,cur,rfl,_⟩
 · exact .inl ⟨rfl,rfl⟩
 · refine .inr ⟨⟨g,off,none⟩,cap,rfl,λw s j u hj=>?_⟩
   rcases s.sub_form i hi hH with⟨h1,_⟩| ⟨g',off',cap',cur',h1,h2,h3,h4,h5,h6⟩
   · simp at h1
   · simp only[Value.slice.injEq,Option.some.injEq,Addr.mk.injEq,and_true,true_and]at h1
     obtain⟨⟨rfl,rfl⟩,rfl⟩:=h1;rw[qY];rw[←h6,List.getElem?_take]at hj;split at hj
     · simp only[World.cell?,h2,Option.isSome_none,Bool.false_eq_true,if_false]
       simpa using hj
     · cases hj
theorem BN(i:Nat){B:List HP}(hi:Nat.blt i B.length=true)(hH:B.getD i (λ_=>True)=ik v bs e): ∀g,Dj g F→bR B g→IsB v bs (jn g F):=λg _ s=>by
 obtain⟨h1,h2,d',rfl,a,_⟩:=eJ i (lb hi) s;rw[hH]at a;rcases a with⟨x1,x2,_⟩| ⟨g,off,cap,cur,x1,x2,x3,x4,x5,x6⟩
 · exact .inl ⟨x1,x2⟩
 · refine .inr ⟨g,off,cap,cur.toList,e,(0,0),x1,x3,by simpa [maxLen]using x4,g9 (g9 (by rw[x2];simp[sg])),λj hj=>?_⟩
   have e1:=congrArg (λl:List Value=>l[j]?) x6;simp only[List.getElem?_take,if_pos hj,List.getElem?_drop]at e1;rw[e1];simp[dX,List.getD_eq_getElem?_getD,hj]
end
theorem uR{P:Program}(w:World)(t ty e:TypeId)(i:TypeInfo)(ht:P.underlying t=some (.slice e))(hi:P.info? e=some i)(g off sLen sCap:Nat)(cur:Array Value)(hg:w.heap[g]?=some (.cells cur e (0,0)))
 (a:Addr) (m c:Nat) (news:List Value) (hl:news.length=m*i.size) (hnews: ∀j u,news[j]?=some u→w.cell? (a.add j)=some u) (h1: ∀u∈news,u.oneCell'=true)
 (hroom:sLen+m≤sCap) (hfit:off+sLen*i.size+news.length≤cur.size):
 (Builtin.append_ #[t,t] ty #[.slice (some ⟨g,off,none⟩) sLen sCap, .slice (some a) m c]).run P w=
  .ok (.slice (some ⟨g,off,none⟩) (sLen+m) sCap) (w.setRow g (cur.toList.take (off+sLen*i.size)++news++cur.toList.drop (off+sLen*i.size+news.length)).toArray):=by
 have hf:=run_firstCells_some (P:=P) w i.size m a m c news hl hnews;have hst:=run_storeCells_at P g (off+sLen*i.size) e news 0 cur w hg (by simpa using hfit) h1;simp only[zw]at hst;simp[Builtin.append_,run_underlying ht,Go.sizeOf,typeInfo,hi,Builtin.lenOf,hroom,hf,Addr.add_lit,hst]
section
variable {P:Program} {w0:World} {F:Hl} {n:Nat} {ops:Array Oper} {Q:QQ} {D:List Deferred} {L:List (Nat×Value)} {H:List HP} {o:Oper} {l:List Oper} {d:Nat} {S:World→Prop}
theorem Sat.sub_open{w:World}{k:Nat}{v:Value}{bs:List UInt8}{e:TypeId}(s:Sat H F w)(hk:Nat.blt k H.length=true)(hH:H.getD k (λ_=>True)=ik v bs e):
 (v= .slice none 0 0∧bs=[]∧Sat (H.set k (cH (.slice none 0 0) [] e)) F w)∨∃g off cap cur,v= .slice (some ⟨g,off,none⟩) bs.length cap∧Sat (H.set k (yM g (.cells cur e (0,0)))) F w∧bs.length≤cap∧cap≤maxLen∧off+cap≤cur.size∧(cur.toList.drop off).take bs.length=dX bs:=by
 obtain⟨h,d,e',x⟩:=s;obtain⟨h1,h2,d',rfl,a,y⟩:=eJ k (lb hk) x;rw[hH]at a;rcases a with⟨x1,x2,x3⟩| ⟨g,off,cap,cur,x1,x2,x3⟩
 · exact .inl ⟨x1,x2,_,d,e',kS k (lb hk) ⟨h1,h2,d',rfl,⟨rfl, .inl ⟨rfl,rfl,x3⟩⟩,y⟩⟩
 · exact .inr ⟨g,off,cap,cur,x1,⟨_,d,e',kS k (lb hk) ⟨h1,h2,d',rfl,x2,y⟩⟩,x3⟩
theorem Src.of_eq{S':World→Prop}{x:Value}{m size:Nat}{news:List Value}(h:Src S x m news size)(hS: ∀w,S' w→S w):Src S' x m news size:=⟨h.1,h.2.imp id λ⟨a,c,q3,q4⟩=>⟨a,c,q3,λw' s'=>q4 w' (hS w' s')⟩⟩
theorem Df{k:Nat}{q:HP}(hk:Nat.blt k H.length=true)(hH:H.getD k (λ_=>True)=q):H.set k q=H:=by
 rw[←hH,List.getD_eq_getElem?_getD,List.getElem?_eq_getElem (lb hk)];exact List.set_getElem_self _
theorem Do{w:World}{k:Nat}{v x:Value}{bs news:List UInt8}{t ty e:TypeId}(s:Sat H F w)(ht:P.underlying t=some (.slice e))(hi:(P.info? e).map (λi=>(i.zero,i.size,i.bytes))=some (some (.int .u8 0),1,1))
 (hk:Nat.blt k H.length=true) (hH:H.getD k (λ_=>True)=ik v bs e) (hx:Src (Sat H F) x news.length (dX news) 1) (hb:bs.length+news.length≤140737488355328):
 ∃v' w',(Builtin.append_ #[t,t] ty #[v,x]).run P w= .ok v' w'∧Same w w'∧Sat (H.set k (ik v' (bs++news) e)) F w':=by
 rcases s.sub_open hk hH with⟨rfl,rfl,s1⟩| ⟨g,off,cap,cur,rfl,s1,h3,h4,h5,h6⟩
 · have hx':Src (Sat (H.set k (cH (.slice none 0 0) [] e)) F) x news.length (dX news) 1:=hx.of_eq λw' s'=>by
    have:=s'.turn (q:=ik (.slice none 0 0) [] e) k (by simpa using lb hk) λh hh=>by
     rw[fW (lb hk)]at hh;exact qA hh
    rwa [ie,Df hk hH]at this
   obtain⟨v',w',r1,r2,r3⟩:=vJ (k:=k) (nn:=0) (m:=news.length) (v:= .slice none 0 0) (xs:=dX []) (news:=dX news) (ty:=ty) s1 ht hi rfl (by decide) (by simpa using lb hk) (fW (lb hk) _) hx' (ff _) (by simp only[maxLen];simp at hb;omega) (by simp at hb;omega);refine⟨v',w',r1,r2,?_⟩;rw[ie]at r3
   have:=r3.turn (q:=ik v' ([]++news) e) k (by simpa using lb hk) λh hh=>by
    rw[fW (lb hk)]at hh;refine qA ?_;rw[←gE,bm,ba]at hh;exact hh
   rwa [ie]at this
 · obtain⟨i,hie,hz0,hsz,hby⟩:=info_parts hi
   obtain⟨hxl,hxx⟩:=hx;have hg:w.heap[g]?=some (.cells cur e (0,0)):=s1.block k (by simpa using lb hk) (fW (lb hk) _)
   by_cases hroom:bs.length+news.length≤cap
   · rcases hxx with⟨rfl,hm⟩| ⟨a0,c,rfl,hc⟩
     · have hn:news=[]:=List.eq_nil_of_length_eq_zero hm
       subst hn;refine⟨_,w,?_,qc w,by rw[aY,Df hk hH];exact s⟩;simp[Builtin.append_,run_underlying ht,Go.sizeOf,typeInfo,hie,Builtin.lenOf,Builtin.firstCells,loadCells,loadCellsFrom,storeCells,h3]
     · have hfit:off+bs.length*i.size+(dX news).length≤cur.size:=by rw[hsz,gB,bo];omega
       refine⟨_,_,uR (P:=P) w t ty e i ht hie g off bs.length cap cur hg a0 news.length c (dX news) (by rw[hsz,bo,gB]) (λj v hj=>hc w s j v hj) (ff _) hroom hfit,⟨rfl,rfl,rfl,by simp⟩,?_⟩;have h2:=s1.write k (by simpa using lb hk) (fW (lb hk) _) (setRow_heap w g cur (cur.toList.take (off+bs.length*i.size)++dX news++cur.toList.drop (off+bs.length*i.size+(dX news).length)).toArray e _ hg) (λj hj=>setRow_other w g j _ hj);rw[ie]at h2
       have h7:=h2.turn (q:=ik (.slice (some ⟨g,off,none⟩) (bs.length+news.length) cap) (bs++news) e) k (by simpa using lb hk) (λh hh=>by
        rw[fW (lb hk)]at hh;rw[hsz,gB,bo]at hh;refine .inr ⟨g,off,cap,_,by rw[ag],hh,by rw[ag];exact hroom,h4,?_,?_⟩
        · simp only[List.size_toArray,ag,bB,bV,Array.length_toList,bo]
          rw[hsz,gB,bo]at hfit;omega
        · simp only[aG]
          rw[lp (by simp only[bB,Array.length_toList];rw[hsz,gB,bo]at hfit;omega),kO,cE,h6,←aG,←gE]
          rw[cG (by rw[bo];exact aK _),aC (by rw[bo];exact aK _)])
       rwa [ie]at h7
   · rcases hxx with⟨rfl,hm⟩| ⟨a0,c,rfl,hc⟩
     · omega
     · have holds: ∀j u,(dX bs)[j]?=some u→w.cell? ((⟨g,off,none⟩:Addr).add j)=some u:=λj u hj=>by
        rw[qY];rw[←h6,List.getElem?_take]at hj;split at hj
        · simpa [World.cell?,hg]using hj
        · cases hj
       have hr:=run_append_grow (P:=P) w t ty e i _ ht hie hz0 ⟨g,off,none⟩ bs.length cap (dX bs) (by rw[hsz,bo,gB]) holds a0 news.length c (dX news) (by rw[hsz,bo,gB]) (λj v hj=>hc w s j v hj) (by omega) (by omega) (growslice_fits (by omega) (by rw[hby];omega));refine⟨_,_,hr,⟨rfl,rfl,rfl,by simp⟩,P7 k (lb hk) (s.drew.alloc _) λh hh=>?_⟩;have hge:=grownCap_ge w (bs.length+news.length) cap e;refine .inr ⟨w.heap.size,0,_,_,by rw[ag],hh,by rw[ag];exact hge,grownCap_le_maxLen w (bs.length+news.length) cap e (by simp only[maxLen];omega),?_,?_⟩
       · simp only[Array.size_append,List.size_toArray,size_zeroCells,bo,bm]
         have:(Value.cells (.int .u8 0)).size=1:=rfl;rw[this,gB];omega
       · simp only[Array.toList_append,aG,bb]
         rw[←aG,←gE,←bo (bs++news)];exact mO
theorem TL.appendS{s x:Operand}{k:Nat}{v vx:Value}{bs news bs':List UInt8}{t e:TypeId}(hw:Want n D ops o L)
 (ho:o.op= .call {callee:= .builtin .append,args:=#[s,x],argTypes:=#[t,t]}) (hd:o.dst=some d) (hn:Nat.blt d n=true) (ht:P.underlying t=some (.slice e))
 (hi:(P.info? e).map (λi=>(i.zero,i.size,i.bytes))=some (some (.int .u8 0),1,1)) (hs:cR L s=some v) (hx:cR L x=some vx)
 (hk:Nat.blt k H.length=true) (hH:H.getD k (λ_=>True)=ik v bs e) (hsrc: ∀w,Sat H F w→Src (Sat H F) vx news.length (dX news) 1) (hb:bs.length+news.length≤140737488355328)
 (hxs:bs++news=bs') (h: ∀v',v'.oneCell'=true→TL P w0 F n ops Q l D ((d,v')::L) (H.set k (ik v' bs' e))):TL P w0 F n ops Q (o::l) D L H:=
 lr hw λa w f sm q=>by
  obtain⟨v',w',hr,s',q'⟩:=Do (ty:=o.type) q ht hi hk hH (hsrc w q) hb;unfold Oper.wp execOp;simp only[ho,resolve,invoke,builtin,Sem.run_bind,Sem.run_pure,Result.andThen_ok,qf,fe,m8,f.eval hs,f.eval hx,hr];rw[Oper.upon_value,hd];subst hxs;have one:v'.oneCell'=true:=(q'.sub_len k (by simpa using hk) (fW (lb hk) _)).2;exact h v' one _ w' (f.put (lb hn) v') (sm.trans s') q'
theorem TL.subLen{v:Value}{bs:List UInt8}{e:Nat}(k:Nat)(hk:Nat.blt k H.length=true)(hH:H.getD k (λ_=>True)=ik v bs e)
 (h:p4 v bs.length→v.oneCell'=true→TL P w0 F n ops Q l D L H):TL P w0 F n ops Q l D L H:=zk (λw m=>m.sub_len k hk hH) λ⟨h1,h2⟩=>h h1 h2
end
theorem uh{v:Value}{z:Array Value}(h:v.oneCell'=true)(hz:z.size=1):Instr.fill (λi=>some (i*1,1)) z [(0,v)]=some #[v]:=by
 rw[Instr.fill,AK h];simp only[iS,List.size_toArray,av,az,bm,hz,ne_eq,not_true_eq_false,decide_false,Bool.false_or];rw[if_neg (by simp)]
 have:(#[v].zipIdx.foldl (λcs (c,j)=>cs.setIfInBounds (0+j) c) z)=#[v]:=by
  match z,hz with
  | ⟨[x]⟩,_=>rfl
 simp only[bm]at this;simp only[Instr.fill];rw[this]
theorem D5{x:Value}{bs:List UInt8}{F:Hl}(hx:IsW x bs F)(i:Nat){g T:Nat}{B:List HP}(hi:Nat.blt i B.length=true)(e:B.getD i (λ_=>True)=aj g [x] T): ∀h,Dj h F→bR B h→Qf (.slice (some ⟨g,0,none⟩) 1 1) [bs] (jn h F):=λh d s=>
 .inr (.inr ⟨g,0,1,[x],T,(0,0),rfl,aK _,by decide,tM i hi e h d s,λj hj=>by
  obtain rfl:j=0:=by simpa using hj
  exact⟨[x],rfl,rfl,x,rfl,hx.more d⟩⟩)
theorem Kq(i n:Nat){g T:Nat}{bs:List UInt8}{B:List HP}{F:Hl}(hn:bs.length=n)(hl:n≤9223372036854775807)(hi:Nat.blt i B.length=true)(e:B.getD i (λ_=>True)=aj g (dX bs) T): ∀h,Dj h F→bR B h→IsB (.slice (some ⟨g,0,none⟩) n n) bs (jn h F):=by
 subst hn;exact Mt i hl hi e
def eV(us:List Value)(ls:List (List UInt8))(e:Nat):HP:=λh=>us.length=ls.length∧bR (List.zipWith (λu l=>ik u l e) us ls) h
abbrev na(te e:Nat)(v:Value)(ls:List (List UInt8)):HP:=pack λus:List Value=>[own v ls.length us te 1,eV us ls e]
theorem wV{α β γ:Type}(f:α→β→γ): ∀(us:List α) (ls:List β) (u:α) (l:β),us.length=ls.length→List.zipWith f (us++[u]) (ls++[l])=List.zipWith f us ls++[f u l]
 | [],[],_,_,_=>rfl
 | [],_::_,_,_,h=>by simp at h
 |_::_,[],_,_,h=>by simp at h
 |x::us,y::ls,u,l,h=>by simp[wV f us ls u l (by simpa using h)]
theorem vq{us:List Value}{ls:List (List UInt8)}{e:Nat}{u:Value}{l:List UInt8}{H:List HP}{h:Hl}(s:bR (eV us ls e::ik u l e::H) h):bR (eV (us++[u]) (ls++[l]) e::H) h:=by
 have t:=nP.2 s;refine cQ t (λh' x=>?_) λ_ x=>x
 obtain⟨h1,h2,d,rfl,⟨hl,a⟩,b⟩:=x;refine⟨by simp[hl],?_⟩;rw[wV _ _ _ _ _ hl];exact(cj _ _).2 ⟨h1,h2,d,rfl,a,sv b⟩
theorem AP{e:Nat}{H:List HP}{h:Hl}(s:bR H h):bR (eV [] [] e::H) h:=⟨em,h,EP h,(rV h).symm,⟨rfl,trivial⟩,s⟩
theorem yz: ∀(us:List Value) (ls:List (List UInt8)) (e:Nat) (h:Hl),us.length=ls.length→bR (List.zipWith (λu l=>ik u l e) us ls) h→∀(j:Nat) (hj:j<ls.length),∃u,us[j]?=some u∧∃h1 h2,Dj h1 h2∧h=jn h1 h2∧ik u ls[j] e h1
 | [],[],_,_,_,_,j,hj=>by simp at hj
 | [],_::_,_,_,h,_,_,_=>by simp at h
 |_::_,[],_,_,h,_,_,_=>by simp at h
 |u::us,l::ls,e,h,hl,s,0,_=>by
  obtain⟨h1,h2,d,rfl,a,_⟩:=s;exact⟨u,rfl,h1,h2,d,rfl,a⟩
 |u::us,l::ls,e,h,hl,s,j+1,hj=>by
  obtain⟨h1,h2,d,rfl,_,b⟩:=s;obtain⟨u',e1,g1,g2,d',rfl,a⟩:=yz us ls e h2 (by simpa using hl) b j (by simpa using hj);refine⟨u',by simpa using e1,g1,jn h1 g2,?_,?_,a⟩
  · obtain⟨q1,q2⟩:=oF.1 d
    exact oF.2 ⟨q1.symm,d'⟩
  · rw[oz d,jN,oz (oF.1 d).2]
theorem CH{v:Value}{bs:List UInt8}{e:Nat}{h1 G:Hl}(a:ik v bs e h1)(hG:Le h1 G):IsB v bs G:=by
 rcases a with⟨x1,x2,_⟩| ⟨g,off,cap,cur,x1,x2,x3,x4,x5,x6⟩
 · exact .inl ⟨x1,x2⟩
 · refine .inr ⟨g,off,cap,cur.toList,e,(0,0),x1,x3,by simpa [maxLen]using x4,hG _ _ (by rw[x2];simp[sg]),λj hj=>?_⟩
   have e1:=congrArg (λl:List Value=>l[j]?) x6;simp only[List.getElem?_take,if_pos hj,List.getElem?_drop]at e1;rw[e1];simp[dX,List.getD_eq_getElem?_getD,hj]
theorem vF(te e:Nat){H:List HP}{h:Hl}(s:bR H h):bR (na te e (.slice none 0 0) []::H) h:=bw (p:=λus:List Value=>[own (.slice none 0 0) 0 us te 1,eV us [] e]) [] (gf te 1 (AP s))
theorem vH{te e:Nat}{v' u:Value}{us:List Value}{ls:List (List UInt8)}{l:List UInt8}{H:List HP}{h:Hl}(s:bR (own v' (ls.length+1) (us++[u]) te 1::eV us ls e::ik u l e::H) h):bR (na te e v' (ls++[l])::H) h:=
 bw (p:=λus:List Value=>[own v' (ls++[l]).length us te 1,eV us (ls++[l]) e]) (us++[u]) (cQ s (λ_ x=>by simpa using x) λ_ x=>vq x)
section
variable {P:Program} {w0:World} {F:Hl} {n:Nat} {ops:Array Oper} {Q:QQ} {D:List Deferred} {L:List (Nat×Value)} {H:List HP} {l:List Oper}
theorem TL.recsOpen{te e:Nat}{v:Value}{ls:List (List UInt8)}(h: ∀us,TL P w0 F n ops Q l D L (own v ls.length us te 1::eV us ls e::H)):TL P w0 F n ops Q l D L (na te e v ls::H):=
 Np (λ_ s=>fH s) h
abbrev No:= @TL.recsOpen
theorem vG{te e:Nat}{v:Value}{ls:List (List UInt8)}{h:Hl}(s:na te e v ls h):p4 v ls.length∧v.oneCell'=true:=by
 obtain⟨us,g1,g2,d2,rfl,a1,_⟩:=s;rcases a1 with⟨q0,⟨q1,q2,_⟩| ⟨g,cap,cur,q1,_⟩⟩
 · subst q1
   have:ls=[]:=List.eq_nil_of_length_eq_zero q2;subst this;exact⟨⟨_,_,rfl⟩,rfl⟩
 · subst q1;exact⟨⟨_,_,rfl⟩,rfl⟩
theorem TL.recsLen{te e:Nat}{v:Value}{ls:List (List UInt8)}(k:Nat)(hk:Nat.blt k H.length=true)(hH:H.getD k (λ_=>True)=na te e v ls)(h:p4 v ls.length→v.oneCell'=true→TL P w0 F n ops Q l D L H):TL P w0 F n ops Q l D L H:=
 zk (p:=p4 v ls.length∧v.oneCell'=true) (λw ⟨h,d,e',x⟩=>by
  obtain⟨h1,h2,d',rfl,a,_⟩:=eJ k (lb hk) x;rw[hH]at a
  exact vG a) λ⟨h1,h2⟩=>h h1 h2
end
end Leg
namespace Leg
open Go Codec Api
section
variable {P:Program} {w0:World} {F:Hl} {n:Nat} {L:List (Nat×Value)} {H:List HP}
theorem TE.ret3{fn:Func}{post:Ending→List HP→Prop}{t t' t'':Nat}{v v' v'':Value}(hr:fn.results=#[.tmp t, .tmp t', .tmp t''])(e:lk L t=some v)(e':lk L t'=some v')(e'':lk L t''=some v'')(h:post (.returned (.tuple #[v,v',v''])) H):
 TE w0 F n (bodyPost P fn (kq post w0 F)) .ret [] L H:=λa w f s m=>by
 refine bodyPost_ret (results_tmp3 hr _ _ _) f.2.1 ⟨s,H,m,?_⟩;have h1:=f.eval (x:= .tmp t) e;have h2:=f.eval (x:= .tmp t') e';have h3:=f.eval (x:= .tmp t'') e'';rw[show a.tmps.getD t undef=v from h1,show a.tmps.getD t' undef=v' from h2,show a.tmps.getD t'' undef=v'' from h3];exact h
abbrev oc:= @TE.ret3
end
theorem sc{l:List UInt8}{j:Nat}(h:j<l.length):(dX l)[j]?=some (.int .u8 (((l.getD j 0).toNat:Nat):Int)):=by simp[dX,List.getD_eq_getElem?_getD,h]
theorem MB{a:Addr}{m c k:Nat}(hc:0<c):kH (.slice (some a) m c) 0 k= .slice (some a) k c:=by
 simp only[kH,if_neg (show ¬c=0 by omega),Option.map_some,RS];rfl
end Leg
namespace Leg
open Go Codec Api
section
variable {P:Program} {w0:World} {F:Hl} {n:Nat} {ops:Array Oper} {Q:QQ} {D:List Deferred} {L:List (Nat×Value)} {H:List HP} {o:Oper} {l:List Oper} {d:Nat} {S:World→Prop}
end
end Leg
end

section
namespace Go.Proofs.YtkhjnolhhidecaaGreatDoor
open Go Leg Codec Api
theorem uN:(Tryz.prog.info? 75).map (·.size)=some 870:=by kernel_rfl
theorem Cz:(Tryz.prog.info? 77).map (·.size)=some 870:=by kernel_rfl
theorem uM:(Tryz.prog.info? 88).map (·.size)=some 875:=by kernel_rfl
theorem M5:NM 149:=nk Tryz.func149
theorem Pl:NM 172:=nk Tryz.func172
theorem kT(w:Int):
 DT 123 #[(.int .i64 (w))] T0 [] (RI (.bool (cI w)) []):=by
 refine BD 9 Tryz.func123 rfl rfl rfl λw0 F hF=>sr λ_ J1=>PS ?_
 refine nx J1 (sr λ_ J2=>P2 ?_);refine ap ?_ ?_<;>intro h4
 iterate 5 refine PS ?_
 refine nx J2 (ah (aw rfl rfl ?_));exact⟨congrArg Value.bool (by unfold cI;first| (rw[decide_eq_decide];omega)| (symm;rw[decide_eq_false_iff_not];omega)| (symm;rw[decide_eq_true_iff];omega)),rfl⟩;refine PS ?_;refine UF ?_;refine UF ?_;refine P2 ?_;refine nx J2 (ah (aw rfl rfl ?_));exact⟨congrArg Value.bool (by unfold cI;first| (rw[decide_eq_decide];omega)| (symm;rw[decide_eq_false_iff_not];omega)| (symm;rw[decide_eq_true_iff];omega)),rfl⟩
theorem mf(w:Int):
 DT 76 #[(.int .i64 (w))] T0 [] (RI (.bool (cI w)) []):=by
 refine BD 9 Tryz.func76 rfl rfl rfl λw0 F hF=>sr λ_ J1=>PS ?_
 refine nx J1 (sr λ_ J2=>P2 ?_);refine ap ?_ ?_<;>intro h4
 iterate 5 refine PS ?_
 refine nx J2 (ah (aw rfl rfl ?_));exact⟨congrArg Value.bool (by unfold cI;first| (rw[decide_eq_decide];omega)| (symm;rw[decide_eq_false_iff_not];omega)| (symm;rw[decide_eq_true_iff];omega)),rfl⟩;refine PS ?_;refine UF ?_;refine UF ?_;refine P2 ?_;refine nx J2 (ah (aw rfl rfl ?_));exact⟨congrArg Value.bool (by unfold cI;first| (rw[decide_eq_decide];omega)| (symm;rw[decide_eq_false_iff_not];omega)| (symm;rw[decide_eq_true_iff];omega)),rfl⟩
theorem iX(w:Int):
 DT 121 #[(.int .i64 (w))] T0 [] (RI (.bool (cI w)) []):=by
 refine BD 9 Tryz.func121 rfl rfl rfl λw0 F hF=>sr λ_ J1=>PS ?_
 refine nx J1 (sr λ_ J2=>P2 ?_);refine ap ?_ ?_<;>intro h4
 iterate 5 refine PS ?_
 refine nx J2 (ah (aw rfl rfl ?_));exact⟨congrArg Value.bool (by unfold cI;first| (rw[decide_eq_decide];omega)| (symm;rw[decide_eq_false_iff_not];omega)| (symm;rw[decide_eq_true_iff];omega)),rfl⟩;refine PS ?_;refine UF ?_;refine UF ?_;refine P2 ?_;refine nx J2 (ah (aw rfl rfl ?_));exact⟨congrArg Value.bool (by unfold cI;first| (rw[decide_eq_decide];omega)| (symm;rw[decide_eq_false_iff_not];omega)| (symm;rw[decide_eq_true_iff];omega)),rfl⟩
theorem sO(key n:Int):
 DT 141 #[(.int .i64 (key)),(.int .i64 (n))] T0 [] (RI (.bool (uu key n)) []):=by
 refine BD 19 Tryz.func141 rfl rfl rfl λw0 F hF=>sr λ_ J1=>PS ?_
 refine nx J1 (sr λ_ J2=>P2 ?_);refine ap ?_ ?_<;>intro h6;refine P3 ?_;refine ap ?_ ?_<;>intro h9;refine P4 ?_;refine ap ?_ ?_<;>intro h13;refine P3 ?_;refine CE GO (ml n) ID ?_;refine P2 ?_;refine nx J2 (ah (WK [] (aw rfl rfl ?_)));exact⟨congrArg Value.bool (by simp[uu,nr, *]),rfl⟩;refine P2 ?_;refine UF ?_;refine UF ?_;refine P2 ?_;refine nx J2 (ah (WK [] (aw rfl rfl ?_)));exact⟨congrArg Value.bool (by simp[uu,nr, *]),rfl⟩;refine P2 ?_;refine UF ?_;refine UF ?_;refine P2 ?_;refine UF ?_;refine UF ?_;refine P2 ?_;refine nx J2 (ah (WK [] (aw rfl rfl ?_)));exact⟨congrArg Value.bool (by simp[uu,nr, *]),rfl⟩;refine PS ?_;refine UF ?_;refine UF ?_;refine P2 ?_;refine UF ?_;refine UF ?_;refine P2 ?_;refine UF ?_;refine UF ?_;refine P2 ?_;refine nx J2 (ah (WK [] (aw rfl rfl ?_)));exact⟨congrArg Value.bool (by simp[uu,nr, *]),rfl⟩
theorem Iy(b off T:Nat)(cs:List Value)(n:Int)(h:cs[off]?=some (.int .i64 n)):
 DT 143 #[(.pointer (some ⟨b,off,none⟩))] T0 [aj b (cs) T] (RI (.tuple #[.int .i64 n, .pointer (some ⟨b,off,none⟩)]) [aj b cs T]):=by
 refine BD 11 Tryz.func143 rfl rfl rfl λw0 F hF=>sr λ_ J1=>P2 ?_
 refine nx J1 (aa λ_ J2=>D1 0 bl ?_);refine PD 0 ?_;refine PD 1 ?_;refine ta 2 rfl (bc (r:=off) rfl nF rfl aO rfl rfl) ?_;refine LX 3 Y3 (.int .i64 (n)) ?_ (hc:=by exact h);refine PD 4 ?_;refine PD 5 ?_;refine ta 6 rfl (bc (r:=off) rfl nF rfl aO rfl rfl) ?_;refine PD 7 ?_;refine PD 8 ?_;exact DN (ad J2 (ah (WK [0] (iC rfl rfl rfl ⟨rfl,rfl⟩))))
theorem IM(b off T:Nat)(cs:List Value)(n:Int)(h:cs[off+1]?=some (.int .i64 n)):
 DT 144 #[(.pointer (some ⟨b,off,none⟩))] T0 [aj b (cs) T] (RI (.tuple #[.int .i64 n, .pointer (some ⟨b,off+1,none⟩)]) [aj b cs T]):=by
 refine BD 11 Tryz.func144 rfl rfl rfl λw0 F hF=>sr λ_ J1=>P2 ?_
 refine nx J1 (aa λ_ J2=>D1 0 bl ?_);refine PD 0 ?_;refine PD 1 ?_;refine ta 2 rfl (bc (r:=off+1) rfl nF rfl aO rfl rfl) ?_;refine LX 3 Y3 (.int .i64 (n)) ?_ (hc:=by exact h);refine PD 4 ?_;refine PD 5 ?_;refine ta 6 rfl (bc (r:=off+1) rfl nF rfl aO rfl rfl) ?_;refine PD 7 ?_;refine PD 8 ?_;exact DN (ad J2 (ah (WK [0] (iC rfl rfl rfl ⟨rfl,rfl⟩))))
theorem FX(b off T tb:Nat)(cs:List Value)(g:Vector Int 5)(to':Int)(ht:0≤to'∧to'<5)(h:(cs.drop (off+2)).take 5=ints g.toList):
 DT 145 #[(.pointer (some ⟨b,off,none⟩)),(.pointer (some ⟨tb,0,none⟩))] T0 [aj b (cs) T,aj tb [(.int .i64 (to'))] 3] (RI (.tuple #[.int .i64 (g.toList.foldl (λs g=>fy (s+g)) 0), .pointer (some ⟨b,off+2+to'.toNat,none⟩)]) [aj b cs T,aj tb [.int .i64 to'] 3]):=by
 refine BD 25 Tryz.func145 rfl rfl rfl λw0 F hF=>sr λ_ J1=>P2 ?_
 refine nx J1 (sr λ_ J2=>PS ?_);refine nx J2 (aa λ_ J3=>sr λ_ J4=>P2 ?_);refine tp (bc (r:=off+2) rfl nF rfl fR rfl rfl) ?_;refine tp (aN (vs:=ints g.toList) rfl kJ rfl fR rfl (RO 0) (cV g) h) ?_;refine PS ?_;refine nx J4 (am ?_)
 refine bG (α:=(Nat)×(Int)) (λ⟨k,s⟩=>k≤5∧s=(g.toList.take k).foldl (λs g=>fy (s+g)) 0) (λ⟨k,s⟩=>[(0,(.pointer (some ⟨b,off,none⟩))),(1,(.pointer (some ⟨tb,0,none⟩))),(3,(.int .i64 0)),(4,(.pointer none)),(5,(.int .i64 (s))),(11,(.agg (ints g.toList).toArray)),(12,(.int .i64 (((k:Nat):Int))))]) (λ⟨k,s⟩=>[aj b (cs) T,aj tb [(.int .i64 (to'))] 3]) (λ⟨k,s⟩=>5-k) (0,0)
  ⟨aP _,rfl⟩ SB
  (λ_ s=>s) (λ⟨k,s⟩ hinv=>?_)
 obtain⟨hk,hs⟩:=hinv;refine sr λ_ J5=>PS ?_
 refine ap ?_ ?_<;>intro h13;refine nx J5 (aa λ_ J6=>CY (qx J6 (aa λ_ J7=>am (sr λ_ J8=>tp (jf (cs:=ints g.toList) (v:=Value.int .i64 (g[k]'(by omega))) (r:=k) rfl kJ Y3 rfl aO rfl rfl (by omega) (by omega) (by omega) (li g (by omega))) ?_))));refine PS ?_;refine nx J8 (ac (P2 ?_));refine tp (bA (r:=(fy (s+(g[k]'(by omega))))) rfl rfl rfl rfl) ?_;refine PS ?_;refine au (af (ad J7 (ac (AD ?_))));refine PS ?_;refine au ?_
 exact aL ((k+1,(fy (s+(g[k]'(by omega))))):(Nat)×(Int)) ⟨by omega,by rw[bZ (by simp;omega),fl,←hs];simp⟩ (by show 5- (k+1)<5-k;omega)
  SB
  (λ_ s=>s)
 refine nx J5 (aa λ_ J9=>CN (aW (aA (aA (bq (ad J3 (aa λ_ J10=>D1 1 bl ?_)))))));refine PD 0 ?_;refine PD 1 ?_;refine LX 2 Y3 (.int .i64 (to')) ?_ (hc:=by exact rfl);refine PD 3 ?_;refine ta 4 rfl (bc (r:=off+2) rfl nF rfl fR rfl rfl) ?_;refine IY 5 (off+2+(to').toNat) kJ aO ?_;refine PD 6 ?_;refine PD 7 ?_;refine DN (ad J10 (ah (WK [0,0] (iC rfl rfl rfl ?_))));exact⟨by rw[hs,aC (by simp;omega)],rfl⟩
theorem BI(x:RowT)(key n:Int)(hk:0≤key∧key<4)(hn:1≤n∧n≤1099511627776):
 DT 142 #[(.agg (ints x.flat).toArray),(.int .i64 (key)),(.int .i64 (n)),(.func (.func 143) #[] #[])] T0 [] (RI (.tuple #[.agg (ints (jM x key n (cellAt x key).inn {cellAt x key with inn:=fy ((cellAt x key).inn+n)}).1.flat).toArray, .int .i64 (jM x key n (cellAt x key).inn {cellAt x key with inn:=fy ((cellAt x key).inn+n)}).2]) []):=by
 refine BD 36 Tryz.func142 rfl rfl rfl λw0 F hF=>?_
 have hkb:nr key=true:=decide_eq_true hk;have hcell:cellAt x key=x.cells[key.toNat]'(by omega):=by rw[cellAt,dif_pos hkb]
 refine sr λ_ J1=>XY (ints x.flat) λb4=>?_
 refine XZ vw (ints RowT.zero.flat) λb8=>?_
 refine PS ?_;refine nx J1 (sr λ_ J2=>P2 ?_);refine FA 1 el mp ?_;refine IX (1+key.toNat*7) Ce fm ?_;refine TL.callRv (ab rfl) rfl rfl rfl rfl PB rfl (Iy b4 (1+key.toNat*7) 74 (ints x.flat) x.cells[key.toNat].inn (wF x (key.toNat*7) (by omega) (by omega) (pU bu x.cells (i:=key.toNat) 0 (by omega) (by omega) (by decide) (zz _ rfl)))) (λ_ s=>aD [1] rfl s) (λ_ _ _=>trivial) (λvR HR hR=>?_);obtain⟨rfl,rfl⟩:=hR;refine P4 ?_;refine PS ?_;refine nx J2 (aa λ_ J3=>sr λ_ J4=>P2 ?_);refine tp (iE (r:=(1099511627776-n)) rfl rfl rfl (bH (by omega) (by omega))) ?_;refine PS ?_;refine ap ?_ ?_<;>intro h23;refine nx J4 (CY (sr λ_ J5=>BV ((ints RowT.zero.flat).toArray) ?_));refine SW 1 bf ai ?_;refine PS ?_;refine nx J5 (ah (ae (RT 1 [] el bf (ai _) ?_)));exact⟨by rw[jM,hcell,if_pos h23],rfl⟩;refine nx J4 (CN (qx J3 (sr λ_ J6=>P2 ?_)));refine LT 0 Y3 (.int .i64 ((x.cells[key.toNat]'(by omega)).inn)) ?_ (hc:=by exact wF x (key.toNat*7) (by omega) (by omega) (pU bu x.cells (i:=key.toNat) 0 (by omega) (by omega) (by decide) (zz (x.cells[key.toNat]'(by omega)) rfl)));refine PS ?_;refine tp (bA (r:=(fy (((x.cells[key.toNat]'(by omega)).inn)+n))) rfl rfl rfl rfl) ?_;refine PS ?_
 refine bK (i:=0) (ab rfl) rfl rfl rfl rfl rfl aO rfl rfl (LB (ai _)) (Rn x (key.toNat*7) (by omega) (by omega) (Ji bu x.cells (i:=key.toNat) 0 (by omega) (by omega) (by decide) (CellT.set_inn _ rfl _))) rfl (nx J6 (sr λ_ J7=>FA 0 el aO ?_));refine LT 0 Y3 (.int .i64 (x.version)) ?_ (hc:=by exact cM _ rfl);refine tp (bA (r:=(fy (x.version+1))) rfl rfl rfl rfl) ?_;refine FA 0 el aO ?_;refine bK (i:=0) (ab rfl) rfl rfl rfl rfl rfl aO rfl rfl (LB (ai _)) (yI _ rfl _) rfl (nx J7 (sr λ_ J8=>LW 0 el bf ai ?_));refine SW 1 bf ai ?_;refine PS ?_;refine nx J8 (ah (RT 1 [] el bf (ai _) ?_));refine⟨?_,rfl⟩;rw[jM,hcell,if_neg h23,eL,dif_pos hkb]
theorem BJ(x:RowT)(key n:Int)(hk:0≤key∧key<4)(hn:1≤n∧n≤1099511627776):
 DT 142 #[(.agg (ints x.flat).toArray),(.int .i64 (key)),(.int .i64 (n)),(.func (.func 144) #[] #[])] T0 [] (RI (.tuple #[.agg (ints (jM x key n (cellAt x key).out {cellAt x key with out:=fy ((cellAt x key).out+n)}).1.flat).toArray, .int .i64 (jM x key n (cellAt x key).out {cellAt x key with out:=fy ((cellAt x key).out+n)}).2]) []):=by
 refine BD 36 Tryz.func142 rfl rfl rfl λw0 F hF=>?_
 have hkb:nr key=true:=decide_eq_true hk;have hcell:cellAt x key=x.cells[key.toNat]'(by omega):=by rw[cellAt,dif_pos hkb]
 refine sr λ_ J1=>XY (ints x.flat) λb4=>?_
 refine XZ vw (ints RowT.zero.flat) λb8=>?_
 refine PS ?_;refine nx J1 (sr λ_ J2=>P2 ?_);refine FA 1 el mp ?_;refine IX (1+key.toNat*7) Ce fm ?_;refine TL.callRv (ab rfl) rfl rfl rfl rfl PA rfl (IM b4 (1+key.toNat*7) 74 (ints x.flat) x.cells[key.toNat].out (wF x (key.toNat*7+1) (by omega) (by omega) (pU bu x.cells (i:=key.toNat) 1 (by omega) (by omega) (by decide) (zy _ rfl)))) (λ_ s=>aD [1] rfl s) (λ_ _ _=>trivial) (λvR HR hR=>?_);obtain⟨rfl,rfl⟩:=hR;refine P4 ?_;refine PS ?_;refine nx J2 (aa λ_ J3=>sr λ_ J4=>P2 ?_);refine tp (iE (r:=(1099511627776-n)) rfl rfl rfl (bH (by omega) (by omega))) ?_;refine PS ?_;refine ap ?_ ?_<;>intro h23;refine nx J4 (CY (sr λ_ J5=>BV ((ints RowT.zero.flat).toArray) ?_));refine SW 1 bf ai ?_;refine PS ?_;refine nx J5 (ah (ae (RT 1 [] el bf (ai _) ?_)));exact⟨by rw[jM,hcell,if_pos h23],rfl⟩;refine nx J4 (CN (qx J3 (sr λ_ J6=>P2 ?_)));refine LT 0 Y3 (.int .i64 ((x.cells[key.toNat]'(by omega)).out)) ?_ (hc:=by exact wF x (key.toNat*7+1) (by omega) (by omega) (pU bu x.cells (i:=key.toNat) 1 (by omega) (by omega) (by decide) (zy (x.cells[key.toNat]'(by omega)) rfl)));refine PS ?_;refine tp (bA (r:=(fy (((x.cells[key.toNat]'(by omega)).out)+n))) rfl rfl rfl rfl) ?_;refine PS ?_
 refine bK (i:=0) (ab rfl) rfl rfl rfl rfl rfl aO rfl rfl (LB (ai _)) (Rn x (key.toNat*7+1) (by omega) (by omega) (Ji bu x.cells (i:=key.toNat) 1 (by omega) (by omega) (by decide) (CellT.set_out _ rfl _))) rfl (nx J6 (sr λ_ J7=>FA 0 el aO ?_));refine LT 0 Y3 (.int .i64 (x.version)) ?_ (hc:=by exact cM _ rfl);refine tp (bA (r:=(fy (x.version+1))) rfl rfl rfl rfl) ?_;refine FA 0 el aO ?_;refine bK (i:=0) (ab rfl) rfl rfl rfl rfl rfl aO rfl rfl (LB (ai _)) (yI _ rfl _) rfl (nx J7 (sr λ_ J8=>LW 0 el bf ai ?_));refine SW 1 bf ai ?_;refine PS ?_;refine nx J8 (ah (RT 1 [] el bf (ai _) ?_));refine⟨?_,rfl⟩;rw[jM,hcell,if_neg h23,eL,dif_pos hkb]
theorem y6(x:RowT)(key n:Int)(hk:0≤key∧key<4)(hn:1≤n∧n≤1099511627776)(tb:Nat)(to':Int)(ht:0≤to'∧to'<5):
 DT 142 #[(.agg (ints x.flat).toArray),(.int .i64 (key)),(.int .i64 (n)),(.func (.func 145) #[] #[(.pointer (some ⟨tb,0,none⟩))])] T0 [aj tb [(.int .i64 (to'))] 3] (RI (.tuple #[.agg (ints (jM x key n (sumG (cellAt x key)) (qO (cellAt x key) to' (fy (iI (cellAt x key) to'+n)))).1.flat).toArray, .int .i64 (jM x key n (sumG (cellAt x key)) (qO (cellAt x key) to' (fy (iI (cellAt x key) to'+n)))).2]) [aj tb [.int .i64 to'] 3]):=by
 refine Leg.Does.body (vs:=[(.agg (ints x.flat).toArray),(.int .i64 (key)),(.int .i64 (n)),(.func (.func 145) #[] #[(.pointer (some ⟨tb,0,none⟩))])]) (n:=36) Tryz.func142 rfl rfl rfl (λw0 F hF=>?_);have hkb:nr key=true:=decide_eq_true hk;have hcell:cellAt x key=x.cells[key.toNat]'(by omega):=by rw[cellAt,dif_pos hkb]
 have htb:cI to'=true:=decide_eq_true ht;refine sr λ_ J1=>?_
 refine TL.box (ab rfl) rfl rfl rfl rfl (λb4=>?_);change TL _ _ _ _ _ _ _ _ _ [aj b4 (ints x.flat) 74,aj tb [(.int .i64 (to'))] 3];refine q7 (ab rfl) rfl rfl rfl vw (λb8=>?_);change TL _ _ _ _ _ _ _ _ _ [aj b8 (ints RowT.zero.flat) 74,aj b4 (ints x.flat) 74,aj tb [(.int .i64 (to'))] 3];refine qh ?_;refine nx J1 ?_;refine sr λ_ J2=>?_
 refine mv ?_;refine mv ?_;refine tp (bc (r:=1) rfl el rfl mp rfl rfl) ?_;refine tp (q9 (r:=1+key.toNat*7) rfl Ce fm rfl rfl (by omega) (by omega) (by omega)) ?_;refine TL.callRv (ab rfl) rfl rfl rfl rfl Pz rfl (FX b4 (1+key.toNat*7) 74 tb (ints x.flat) x.cells[key.toNat].given to' ht (EK x (key.toNat*7+2) (by omega) (by omega) (lD bu x.cells (i:=key.toNat) 2 (by omega) (by omega) (by decide) (CellT.sub_given (x.cells[key.toNat]'(by omega)) 0 rfl (by decide) (whole (cV ((x.cells[key.toNat]'(by omega)).given))))))) (λ_ s=>aD [1,1] rfl s) (λ_ _ _=>trivial) (λvR HR hR=>?_);obtain⟨rfl,rfl⟩:=hR;refine mv ?_;refine tp (mN (vs:=[(.int .i64 ((sumG (x.cells[key.toNat]'(by omega))))),(.pointer (some ⟨b4,1+key.toNat*7+2+to'.toNat,none⟩))]) rfl rfl rfl) ?_;refine tp (mN (vs:=[(.int .i64 ((sumG (x.cells[key.toNat]'(by omega))))),(.pointer (some ⟨b4,1+key.toNat*7+2+to'.toNat,none⟩))]) rfl rfl rfl) ?_;refine qh ?_;refine qh ?_;refine nx J2 ?_;refine aa λ_ J3=>?_
 refine sr λ_ J4=>?_
 refine mv ?_;refine mv ?_;refine tp (iE (r:=(1099511627776-n)) rfl rfl rfl (bH (by omega) (by omega))) ?_;refine tp (PV.gtr rfl rfl rfl) ?_;refine ap (λh23=>?_) (λh23=>?_);refine nx J4 ?_;refine oj rfl ?_;refine sr λ_ J5=>?_
 refine tp (kM (cells:=(ints RowT.zero.flat).toArray) rfl rfl (by as_aux_lemma=>kernel_rfl)) ?_;refine bW (vs:=ints RowT.zero.flat) (i:=2) (ab rfl) rfl rfl rfl rfl rfl (by rw[(ai RowT.zero)];exact bf) (bv _) rfl rfl (by have h0:=(ai RowT.zero);have h1:=(ai RowT.zero);omega) (cy ((ai RowT.zero).trans (ai RowT.zero).symm)) rfl ?_;refine qh ?_;refine nx J5 ?_;refine ah ?_;refine ae ?_;refine mL (H':=[aj tb [(.int .i64 (to'))] 3]) rfl rfl rfl el rfl bf (fC 2 rfl rfl) (ai RowT.zero) (λ_ s=>ak [1] rfl s) ?_;exact⟨by rw[jM,hcell,if_pos h23],rfl⟩;refine nx J4 ?_;refine Hb rfl ?_;refine aR ?_;refine ad J3 ?_;refine sr λ_ J6=>?_
 refine mv ?_;refine tp (gU rfl rfl) ?_;refine tp (fL (v:=(.int .i64 ((((x.cells[key.toNat]'(by omega)).given)[to'.toNat]'(by omega))))) rfl Y3 rfl rfl (fC 0 rfl rfl) (wF x (key.toNat*7+2+to'.toNat) (by omega) (by omega) (pU bu x.cells (i:=key.toNat) (2+to'.toNat) (by omega) (by omega) (by omega) (Qi (x.cells[key.toNat]'(by omega)) (to'.toNat) (by omega) (by omega) (li ((x.cells[key.toNat]'(by omega)).given) (by omega)))))) ?_;refine mv ?_;refine tp (bA (r:=(fy ((((x.cells[key.toNat]'(by omega)).given)[to'.toNat]'(by omega))+n))) rfl rfl rfl rfl) ?_;refine tp (gU rfl rfl) ?_;refine bK (i:=0) (ab rfl) rfl rfl rfl rfl rfl aO rfl rfl (by have h0:=(ai x);omega) (Rn x (key.toNat*7+2+to'.toNat) (by omega) (by omega) (Ji bu x.cells (i:=key.toNat) (2+to'.toNat) (by omega) (by omega) (by omega) (CellT.st_given (x.cells[key.toNat]'(by omega)) (to'.toNat) (by omega) (by omega) (qt ((x.cells[key.toNat]'(by omega)).given) (by omega) _)))) rfl ?_;refine nx J6 ?_;refine sr λ_ J7=>?_
 refine tp (bc (r:=0) rfl el rfl aO rfl rfl) ?_;refine tp (fL (v:=(.int .i64 (x.version))) rfl Y3 rfl rfl (fC 0 rfl rfl) (cM (RowT.mk x.version (x.cells.set key.toNat (CellT.mk ((x.cells[key.toNat]'(by omega)).inn) ((x.cells[key.toNat]'(by omega)).out) (((x.cells[key.toNat]'(by omega)).given).set to'.toNat (fy ((((x.cells[key.toNat]'(by omega)).given)[to'.toNat]'(by omega))+n)) (by omega))) (by omega)) x.heir x.left) rfl)) ?_;refine tp (bA (r:=(fy (x.version+1))) rfl rfl rfl rfl) ?_;refine tp (bc (r:=0) rfl el rfl aO rfl rfl) ?_;refine bK (i:=0) (ab rfl) rfl rfl rfl rfl rfl aO rfl rfl (by have h0:=(ai (RowT.mk x.version (x.cells.set key.toNat (CellT.mk ((x.cells[key.toNat]'(by omega)).inn) ((x.cells[key.toNat]'(by omega)).out) (((x.cells[key.toNat]'(by omega)).given).set to'.toNat (fy ((((x.cells[key.toNat]'(by omega)).given)[to'.toNat]'(by omega))+n)) (by omega))) (by omega)) x.heir x.left));omega) (yI (RowT.mk x.version (x.cells.set key.toNat (CellT.mk ((x.cells[key.toNat]'(by omega)).inn) ((x.cells[key.toNat]'(by omega)).out) (((x.cells[key.toNat]'(by omega)).given).set to'.toNat (fy ((((x.cells[key.toNat]'(by omega)).given)[to'.toNat]'(by omega))+n)) (by omega))) (by omega)) x.heir x.left) rfl _) rfl ?_;refine nx J7 ?_;refine sr λ_ J8=>?_
 refine tp (aN (vs:=ints (RowT.mk (fy (x.version+1)) (x.cells.set key.toNat (CellT.mk ((x.cells[key.toNat]'(by omega)).inn) ((x.cells[key.toNat]'(by omega)).out) (((x.cells[key.toNat]'(by omega)).given).set to'.toNat (fy ((((x.cells[key.toNat]'(by omega)).given)[to'.toNat]'(by omega))+n)) (by omega))) (by omega)) x.heir x.left).flat) rfl el rfl bf rfl (fC 0 rfl rfl) (ai (RowT.mk (fy (x.version+1)) (x.cells.set key.toNat (CellT.mk ((x.cells[key.toNat]'(by omega)).inn) ((x.cells[key.toNat]'(by omega)).out) (((x.cells[key.toNat]'(by omega)).given).set to'.toNat (fy ((((x.cells[key.toNat]'(by omega)).given)[to'.toNat]'(by omega))+n)) (by omega))) (by omega)) x.heir x.left)) (whole (ai (RowT.mk (fy (x.version+1)) (x.cells.set key.toNat (CellT.mk ((x.cells[key.toNat]'(by omega)).inn) ((x.cells[key.toNat]'(by omega)).out) (((x.cells[key.toNat]'(by omega)).given).set to'.toNat (fy ((((x.cells[key.toNat]'(by omega)).given)[to'.toNat]'(by omega))+n)) (by omega))) (by omega)) x.heir x.left)))) ?_
 refine bW (vs:=ints (RowT.mk (fy (x.version+1)) (x.cells.set key.toNat (CellT.mk ((x.cells[key.toNat]'(by omega)).inn) ((x.cells[key.toNat]'(by omega)).out) (((x.cells[key.toNat]'(by omega)).given).set to'.toNat (fy ((((x.cells[key.toNat]'(by omega)).given)[to'.toNat]'(by omega))+n)) (by omega))) (by omega)) x.heir x.left).flat) (i:=2) (ab rfl) rfl rfl rfl rfl rfl (by rw[(ai (RowT.mk (fy (x.version+1)) (x.cells.set key.toNat (CellT.mk ((x.cells[key.toNat]'(by omega)).inn) ((x.cells[key.toNat]'(by omega)).out) (((x.cells[key.toNat]'(by omega)).given).set to'.toNat (fy ((((x.cells[key.toNat]'(by omega)).given)[to'.toNat]'(by omega))+n)) (by omega))) (by omega)) x.heir x.left))];exact bf) (bv _) rfl rfl (by have h0:=(ai RowT.zero);have h1:=(ai (RowT.mk (fy (x.version+1)) (x.cells.set key.toNat (CellT.mk ((x.cells[key.toNat]'(by omega)).inn) ((x.cells[key.toNat]'(by omega)).out) (((x.cells[key.toNat]'(by omega)).given).set to'.toNat (fy ((((x.cells[key.toNat]'(by omega)).given)[to'.toNat]'(by omega))+n)) (by omega))) (by omega)) x.heir x.left));omega) (cy ((ai RowT.zero).trans (ai (RowT.mk (fy (x.version+1)) (x.cells.set key.toNat (CellT.mk ((x.cells[key.toNat]'(by omega)).inn) ((x.cells[key.toNat]'(by omega)).out) (((x.cells[key.toNat]'(by omega)).given).set to'.toNat (fy ((((x.cells[key.toNat]'(by omega)).given)[to'.toNat]'(by omega))+n)) (by omega))) (by omega)) x.heir x.left)).symm)) rfl ?_;refine qh ?_;refine nx J8 ?_;refine ah ?_
 refine mL (H':=[aj tb [(.int .i64 (to'))] 3]) rfl rfl rfl el rfl bf (fC 2 rfl rfl) (ai (RowT.mk (fy (x.version+1)) (x.cells.set key.toNat (CellT.mk ((x.cells[key.toNat]'(by omega)).inn) ((x.cells[key.toNat]'(by omega)).out) (((x.cells[key.toNat]'(by omega)).given).set to'.toNat (fy ((((x.cells[key.toNat]'(by omega)).given)[to'.toNat]'(by omega))+n)) (by omega))) (by omega)) x.heir x.left)) (λ_ s=>ak [1] rfl s) ?_;refine⟨?_,rfl⟩;rw[jM,hcell,if_neg h23,eL,dif_pos hkb];simp[qO,iI,htb]
theorem Dq(x:RowT)(key n:Int):
 DT 94 #[(.agg (ints x.flat).toArray),(.int .i64 (key)),(.int .i64 (n))] T0 [] (RI (.tuple #[.agg (ints (px x key n).1.flat).toArray, .int .i64 (px x key n).2]) []):=by
 refine BD 19 Tryz.func94 rfl rfl rfl λw0 F hF=>sr λ_ J1=>XY (ints x.flat) λb3=>?_
 refine XZ vw (ints RowT.zero.flat) λb6=>?_
 refine PS ?_;refine nx J1 (aa λ_ J2=>sr λ_ J3=>P2 ?_);refine CE J0 (sO key n) ID ?_;refine bg ?_ ?_<;>intro h10;have hq:=h10;unfold uu nr DH at hq;simp only[ao,decide_eq_true_iff]at hq;have hk:0≤key∧key<4:=hq.1.1;have hn:1≤n∧n≤1099511627776:=⟨hq.1.2,hq.2.2⟩;refine PS ?_;refine nx J3 (CN (qx J2 (sr λ_ J4=>LW 1 el bf ai ?_)));refine P2 ?_;refine CE JZ (BI x key n hk hn) ID ?_;refine P2 ?_;refine SW 0 bf ai ?_;refine PS ?_;refine nx J4 (ah (RT 0 [] el bf (ai _) ?_));exact⟨by simp[px, *],rfl⟩;refine PS ?_;refine nx J3 (CY (sr λ_ J5=>BV ((ints RowT.zero.flat).toArray) ?_));refine SW 0 bf ai ?_;refine PS ?_;refine nx J5 (ah (ae (RT 0 [] el bf (ai _) ?_)));exact⟨by simp[px, *],rfl⟩
theorem Dr(x:RowT)(key n:Int):
 DT 95 #[(.agg (ints x.flat).toArray),(.int .i64 (key)),(.int .i64 (n))] T0 [] (RI (.tuple #[.agg (ints (py x key n).1.flat).toArray, .int .i64 (py x key n).2]) []):=by
 refine BD 19 Tryz.func95 rfl rfl rfl λw0 F hF=>sr λ_ J1=>XY (ints x.flat) λb3=>?_
 refine XZ vw (ints RowT.zero.flat) λb6=>?_
 refine PS ?_;refine nx J1 (aa λ_ J2=>sr λ_ J3=>P2 ?_);refine CE J0 (sO key n) ID ?_;refine bg ?_ ?_<;>intro h10;have hq:=h10;unfold uu nr DH at hq;simp only[ao,decide_eq_true_iff]at hq;have hk:0≤key∧key<4:=hq.1.1;have hn:1≤n∧n≤1099511627776:=⟨hq.1.2,hq.2.2⟩;refine PS ?_;refine nx J3 (CN (qx J2 (sr λ_ J4=>LW 1 el bf ai ?_)));refine P2 ?_;refine CE JZ (BJ x key n hk hn) ID ?_;refine P2 ?_;refine SW 0 bf ai ?_;refine PS ?_;refine nx J4 (ah (RT 0 [] el bf (ai _) ?_));exact⟨by simp[py, *],rfl⟩;refine PS ?_;refine nx J3 (CY (sr λ_ J5=>BV ((ints RowT.zero.flat).toArray) ?_));refine SW 0 bf ai ?_;refine PS ?_;refine nx J5 (ah (ae (RT 0 [] el bf (ai _) ?_)));exact⟨by simp[py, *],rfl⟩
theorem Bm(x:RowT)(key n to':Int):
 DT 96 #[(.agg (ints x.flat).toArray),(.int .i64 (key)),(.int .i64 (n)),(.int .i64 (to'))] T0 [] (RI (.tuple #[.agg (ints (mh x key n to').1.flat).toArray, .int .i64 (mh x key n to').2]) []):=by
 refine BD 27 Tryz.func96 rfl rfl rfl λw0 F hF=>sr λ_ J1=>XY (ints x.flat) λb4=>?_
 refine XB λb7=>?_
 refine XZ vw (ints RowT.zero.flat) λb8=>?_
 refine PS ?_;refine nx J1 (aa λ_ J2=>sr λ_ J3=>LA 1 Y3 ?_);refine CE GQ (kT to') ID ?_;refine bg ?_ ?_<;>intro h11;refine PS ?_;refine P3 ?_;refine CE J0 (sO key n) ID ?_;refine bg ?_ ?_<;>intro h16;have hq:=h16;unfold uu nr DH at hq;simp only[ao,decide_eq_true_iff]at hq;have hk:0≤key∧key<4:=hq.1.1;have hn:1≤n∧n≤1099511627776:=⟨hq.1.2,hq.2.2⟩;have ht:0≤to'∧to'<5:=of_decide_eq_true h11;refine PS ?_;refine PS ?_;refine nx J3 (CN (qx J2 (sr λ_ J4=>LW 2 el bf ai ?_)));refine P2 ?_;refine tp (RG rfl rfl) ?_;refine CE JZ (y6 x key n hk hn b7 to' ht) (SM [1]) ?_;refine P2 ?_;refine SW 1 bf ai ?_;refine PS ?_;refine nx J4 (ah (RT 1 [] el bf (ai _) ?_));exact⟨by simp[mh, *],rfl⟩;refine PS ?_;refine PS ?_;refine nx J3 (CY (sr λ_ J5=>BV ((ints RowT.zero.flat).toArray) ?_));refine SW 0 bf ai ?_;refine PS ?_;refine nx J5 (ah (ae (RT 0 [] el bf (ai _) ?_)));exact⟨by simp[mh, *],rfl⟩;refine PS ?_;refine PS ?_
 iterate 4 refine UT ?_
 refine PS ?_;refine nx J3 (CY (sr λ_ J6=>BV ((ints RowT.zero.flat).toArray) ?_));refine SW 0 bf ai ?_;refine PS ?_;refine nx J6 (ah (ae (RT 0 [] el bf (ai _) ?_)));exact⟨by simp[mh, *],rfl⟩
theorem Dp(x:RowT)(who:Int):
 DT 79 #[(.agg (ints x.flat).toArray),(.int .i64 (who))] T0 [] (dG (λr' H=>∃u,r'=u∧H=[own u (gg x who).length (ints (gg x who)) 3 1])):=by
 refine BD 27 Tryz.func79 rfl rfl rfl λw0 F hF=>sr λ_ J1=>XY (ints x.flat) λb2=>?_
 refine PS ?_;refine nx J1 (sr λ_ J2=>PS ?_);refine nx J2 (aa λ_ J3=>sr λ_ J4=>FA 29 el fR ?_);refine tp (aN (vs:=ints x.heir.toList) rfl kJ rfl fR rfl (RO 0) (cV x.heir) (Rm x 0 rfl (by decide) (whole (cV x.heir)))) ?_;refine PS ?_;refine nx J4 (am ?_)
 refine bG (α:=(Nat)×(Value)) (λ⟨k,u⟩=>k≤5∧u.oneCell'=true) (λ⟨k,u⟩=>[(1,(.int .i64 (who))),(4,(.slice none 0 0)),(5,u),(9,(.agg (ints x.heir.toList).toArray)),(10,(.int .i64 (((k:Nat):Int))))]) (λ⟨k,u⟩=>[own u ((iU x who k).length) (ints (iU x who k)) 3 1]) (λ⟨k,u⟩=>5-k) (0,(.slice none 0 0))
  ⟨aP _,rfl⟩ SB
  (λ_ s=>gf 3 1 (ak [] rfl s)) (λ⟨k,u⟩ hinv=>?_)
 obtain⟨hk,hu⟩:=hinv;have hol:=Ag x who k;refine sr λ_ J5=>PS ?_
 refine ap ?_ ?_<;>intro h11;refine nx J5 (aa λ_ J6=>CY (qx J6 (aa λ_ J7=>am (sr λ_ J8=>PS ?_))));refine tp (jf (cs:=ints x.heir.toList) (v:=Value.int .i64 (x.heir[k]'(by omega))) (r:=k) rfl kJ Y3 rfl aO rfl rfl (by omega) (by omega) (by omega) (li x.heir (by omega))) ?_;refine P2 ?_;refine nx J8 (sr λ_ J9=>P3 ?_);refine ap ?_ ?_<;>intro h16;refine PS ?_;refine UT ?_;refine UT ?_;refine PS ?_;refine nx J9 (CY (ac (P2 ?_)));refine aM (cells:=#[(.int .i64 (((k:Nat):Int)))]) (ab rfl) rfl rfl rfl eh oK rfl rfl rfl (by as_aux_lemma=>kernel_rfl) (λb23=>bX (k:=1) (news:=[(.int .i64 (((k:Nat):Int)))]) (nn':=(iU x who k).length+1) (xs':=ints (iU x who k)++[(.int .i64 (((k:Nat):Int)))]) (ab rfl) rfl rfl rfl eh oK rfl rfl rfl rfl rfl rfl (λ_ _=>gn rfl (RO 0) rfl) (by simp[Value.oneCell']) (by simp only[maxLen];omega) (by omega) (by simp) (by simp) (λv24 ov24=>PS ?_));refine au (af (ad J7 (ac (AD ?_))));refine PS ?_;refine au ?_
 exact aL ((k+1,v24):(Nat)×(Value)) ⟨by omega,ov24⟩ (by show 5- (k+1)<5-k;omega)
  SB
  (λ_ s=>by
   show bR [own v24 (iU x who (k+1)).length (ints (iU x who (k+1))) 3 1] _;rw[show iU x who (k+1)=iU x who k++[((k:Nat):Int)]by rw[sA,if_pos (by rw[xS x who (by omega)];simp;omega)],ag,eR]
   exact ak [1] rfl s)
 refine P3 ?_;refine ap ?_ ?_<;>intro h19;refine PS ?_;refine nx J9 (CY (ac (P2 ?_)));refine aM (cells:=#[(.int .i64 (((k:Nat):Int)))]) (ab rfl) rfl rfl rfl eh oK rfl rfl rfl (by as_aux_lemma=>kernel_rfl) (λb23=>bX (k:=1) (news:=[(.int .i64 (((k:Nat):Int)))]) (nn':=(iU x who k).length+1) (xs':=ints (iU x who k)++[(.int .i64 (((k:Nat):Int)))]) (ab rfl) rfl rfl rfl eh oK rfl rfl rfl rfl rfl rfl (λ_ _=>gn rfl (RO 0) rfl) (by simp[Value.oneCell']) (by simp only[maxLen];omega) (by omega) (by simp) (by simp) (λv24 ov24=>PS ?_));refine au (af (ad J7 (ac (AD ?_))));refine PS ?_;refine au ?_
 exact aL ((k+1,v24):(Nat)×(Value)) ⟨by omega,ov24⟩ (by show 5- (k+1)<5-k;omega)
  SB
  (λ_ s=>by
   show bR [own v24 (iU x who (k+1)).length (ints (iU x who (k+1))) 3 1] _;rw[show iU x who (k+1)=iU x who k++[((k:Nat):Int)]by rw[sA,if_pos (by rw[xS x who (by omega)];simp;omega)],ag,eR]
   exact ak [1] rfl s)
 refine PS ?_;refine nx J9 (CN (aR (af (ad J7 (ac (AD ?_))))));refine PS ?_;refine au ?_
 exact aL ((k+1,u):(Nat)×(Value)) ⟨by omega,hu⟩ (by show 5- (k+1)<5-k;omega)
  SB
  (λ_ s=>by
   show bR [own u (iU x who (k+1)).length (ints (iU x who (k+1))) 3 1] _;rw[show iU x who (k+1)=iU x who k by rw[sA,if_neg (by rw[xS x who (by omega)];simp;omega),aY]]
   exact ak [0] rfl s)
 refine nx J5 (aa λ_ J10=>CN (aW (aA (aA (bq (ad J3 (sr λ_ J11=>P2 ?_)))))));refine nx J11 (ah (WK [0] (aw rfl rfl ?_)));obtain rfl:k=5:=by omega
 exact⟨u,rfl,rfl⟩
theorem Bn(x:RowT)(who of' key:Int):
 DT 78 #[(.agg (ints x.flat).toArray),(.int .i64 (who)),(.int .i64 (of')),(.int .i64 (key))] T0 [] (RI (.tuple #[.agg (ints (rowCell x who of' key).1.flat).toArray, .int .i64 (rowCell x who of' key).2]) []):=by
 refine BD 53 Tryz.func78 rfl rfl rfl λw0 F hF=>sr λ_ J1=>XY (ints x.flat) λb4=>?_
 refine XZ Ln (ints CellT.zero.flat) λb8=>?_
 refine PS ?_;refine nx J1 (aa λ_ J2=>sr λ_ J3=>PS ?_);refine CE GQ (kT who) ID ?_;refine bg ?_ ?_<;>intro h11;refine PS ?_;refine P2 ?_;refine CE GQ (kT of') ID ?_;refine bg ?_ ?_<;>intro h15;refine PS ?_;refine P4 ?_;refine ap ?_ ?_<;>intro h20;have hkb:nr key=false:=decide_eq_false (by omega);refine P2 ?_;refine UT ?_;refine UT ?_;refine PS ?_;refine nx J3 (CY (sr λ_ J4=>BV ((ints CellT.zero.flat).toArray) ?_));refine SW 0 fm aU ?_;refine PS ?_;refine nx J4 (ah (ae (RT 0 [] nF fm (aU _) ?_)));exact⟨by simp[rowCell, *],rfl⟩;refine P4 ?_;refine ap ?_ ?_<;>intro h24;have hkb:nr key=false:=decide_eq_false (by omega);refine PS ?_;refine nx J3 (CY (sr λ_ J5=>BV ((ints CellT.zero.flat).toArray) ?_));refine SW 0 fm aU ?_;refine PS ?_;refine nx J5 (ah (ae (RT 0 [] nF fm (aU _) ?_)));exact⟨by simp[rowCell, *],rfl⟩;have hw:cI who=true:=by simpa using h11
 have ho:cI of'=true:=by simpa using h15
 have hw2:0≤who∧who<5:=of_decide_eq_true hw;have ho2:0≤of'∧of'<5:=of_decide_eq_true ho;have hkb:nr key=true:=decide_eq_true ⟨by omega,by omega⟩;have e1:heirAt x of'=x.heir[of'.toNat]'(by omega):=by rw[heirAt,dif_pos ho]
 have e2:leftAt x of' key=(x.left[of'.toNat]'(by omega))[key.toNat]'(by omega):=by rw[leftAt,dif_pos ⟨ho,hkb⟩]
 have e3:cellAt x key=x.cells[key.toNat]'(by omega):=by rw[cellAt,dif_pos hkb]
 refine PS ?_;refine nx J3 (CN (qx J2 (aa λ_ J6=>sr λ_ J7=>P3 ?_)));refine ap ?_ ?_<;>intro h29;refine nx J7 (CY (aa λ_ J8=>D1 1 bl ?_));refine PD 0 ?_;refine FD 1 1 el mp ?_;refine IY 2 (1+key.toNat*7) Ce fm ?_;refine ta 3 rfl (aN (vs:=ints (x.cells[key.toNat]'(by omega)).flat) rfl nF rfl fm rfl (λ_ h=>h.2.1) (aU (x.cells[key.toNat]'(by omega))) (EK x (key.toNat*7) (by omega) (by omega) (lD bu x.cells (i:=key.toNat) 0 (by omega) (by omega) (by decide) (whole (aU (x.cells[key.toNat]'(by omega))))))) ?_;refine FD 4 0 el aO ?_;refine LR 5 Y3 (cM x rfl) ?_;refine AL 6 ?_;refine SW 0 fm aU ?_;refine EN (PD 7 ?_);refine DN (ad J8 (ah (ae (RT 0 [] nF fm (aU _) ?_))));exact⟨by simp[rowCell, *],rfl⟩;refine nx J7 (CN (qx J6 (aa λ_ J9=>sr λ_ J10=>PS ?_)));refine FA 29 el fR ?_;refine IX (29+(of').toNat) kJ aO ?_;refine LT 1 Y3 (.int .i64 ((x.heir[(of').toNat]'(by omega)))) ?_ (hc:=by exact sS x ((of').toNat) (by omega) (by omega) (li x.heir (by omega)));refine PS ?_;refine ap ?_ ?_<;>intro h40;refine nx J10 (CY (aa λ_ J11=>D1 1 bl ?_));refine PD 0 ?_;refine PD 1 ?_;refine FD 2 34 el CA ?_;refine IY 3 (34+((of').toNat)*28) Nk mp ?_;refine IY 4 (34+((of').toNat)*28+key.toNat*7) Ce fm ?_
 refine ta 5 rfl (aN (vs:=ints ((x.left[(of').toNat]'(by omega))[key.toNat]'(by omega)).flat) rfl nF rfl fm rfl (λ_ h=>h.2.1) (aU ((x.left[(of').toNat]'(by omega))[key.toNat]'(by omega))) (Hc x (((of').toNat)*28+key.toNat*7) (by omega) (by omega) (lD uJ x.left (i:=(of').toNat) (key.toNat*7) (by omega) (by omega) (by omega) (lD bu (x.left[(of').toNat]'(by omega)) (i:=key.toNat) 0 (by omega) (by omega) (by decide) (whole (aU ((x.left[(of').toNat]'(by omega))[key.toNat]'(by omega)))))))) ?_;refine PD 6 ?_;refine FD 7 29 el fR ?_;refine IY 8 (29+(of').toNat) kJ aO ?_;refine LX 9 Y3 (.int .i64 ((x.heir[(of').toNat]'(by omega)))) ?_ (hc:=by exact sS x ((of').toNat) (by omega) (by omega) (li x.heir (by omega)));refine ta 10 rfl (iE (r:=(fy ((x.heir[(of').toNat]'(by omega))-1))) rfl rfl rfl rfl) ?_;refine AL 11 ?_;refine SW 0 fm aU ?_;refine EN (PD 12 ?_);refine DN (ad J11 (ah (ae (RT 0 [] nF fm (aU _) ?_))));exact⟨by simp[rowCell, *],rfl⟩;refine nx J10 (CN (qx J9 (sr λ_ J12=>BV ((ints CellT.zero.flat).toArray) ?_)));refine SW 0 fm aU ?_;refine PS ?_;refine nx J12 (ah (RT 0 [] nF fm (aU _) ?_));exact⟨by simp[rowCell, *],rfl⟩;refine PS ?_;refine P2 ?_;refine UT ?_;refine UT ?_;refine P2 ?_;refine UT ?_;refine UT ?_;refine PS ?_;refine nx J3 (CY (sr λ_ J13=>BV ((ints CellT.zero.flat).toArray) ?_));refine SW 0 fm aU ?_;refine PS ?_;refine nx J13 (ah (ae (RT 0 [] nF fm (aU _) ?_)));exact⟨by simp[rowCell, *],rfl⟩;refine PS ?_;refine PS ?_
 iterate 3 refine UT ?_
 refine P2 ?_;refine UT ?_;refine UT ?_;refine P2 ?_;refine UT ?_;refine UT ?_;refine PS ?_;refine nx J3 (CY (sr λ_ J14=>BV ((ints CellT.zero.flat).toArray) ?_));refine SW 0 fm aU ?_;refine PS ?_;refine nx J14 (ah (ae (RT 0 [] nF fm (aU _) ?_)));exact⟨by simp[rowCell, *],rfl⟩
theorem qn(who:Int):
 DT 110 #[(.int .i64 (who))] T0 [] (dG (λr' H=>∃u,r'=u∧H=[own u (iD who).length (ints (iD who)) 3 1])):=by
 refine BD 20 Tryz.func110 rfl rfl rfl λw0 F hF=>sr λ_ J1=>PS ?_
 refine nx J1 (aa λ_ J2=>sr λ_ J3=>PS ?_);refine CE JT (kA who) ID ?_;refine bg ?_ ?_<;>intro h6;have hm:0≤who∧who<5:=of_decide_eq_true h6;refine PS ?_;refine nx J3 (CN (qx J2 (sr λ_ J4=>I2 3 1 (λon=>?_))));clear on;refine PS ?_;refine nx J4 (aa λ_ J5=>sr λ_ J6=>PS ?_);refine nx J6 (am (hO 3 (aa λ_ J7=>sr λ_ J8=>P2 ?_)));refine nx J8 (CY (qx J7 (aa λ_ J9=>am (ac (P3 ?_)))));refine tp (bA (r:=(who+1)) rfl rfl rfl (bH (by omega) (by omega))) ?_;refine tp (P8 (r:=((who+1)%5)) rfl rfl rfl (by omega) (wO (by omega))) ?_;refine aM (cells:=#[(.int .i64 (((who+1)%5)))]) (ab rfl) rfl rfl rfl eh oK rfl rfl rfl (by as_aux_lemma=>kernel_rfl) (λb17=>bX (k:=1) (news:=[(.int .i64 (((who+1)%5)))]) (nn':=1) (xs':=[(.int .i64 (((who+1)%5)))]) (ab rfl) rfl rfl rfl eh oK rfl rfl rfl rfl rfl rfl (λ_ _=>gn rfl (RO 0) rfl) (by simp[Value.oneCell']) (by simp only[maxLen];omega) (by omega) (by simp) (by simp) (λv18 ov18=>PS ?_));refine au (af (ad J9 (ac (PS ?_))));refine tp (bA (r:=2) rfl rfl rfl (by decide)) ?_;refine PS ?_;refine au (bI (aa λ_ J10=>sr λ_ J11=>P2 ?_));refine nx J11 (CY (qx J10 (aa λ_ J12=>am (ac (P3 ?_)))));refine tp (bA (r:=(who+2)) rfl rfl rfl (bH (by omega) (by omega))) ?_;refine tp (P8 (r:=((who+2)%5)) rfl rfl rfl (by omega) (wO (by omega))) ?_
 refine ci (H':=[own v18 (1) ([(.int .i64 (((who+1)%5)))]) 3 1]) (λ_ s=>ak [1] rfl s) (aM (cells:=#[(.int .i64 (((who+2)%5)))]) (ab rfl) rfl rfl rfl eh oK rfl rfl rfl (by as_aux_lemma=>kernel_rfl) (λb17=>bX (k:=1) (news:=[(.int .i64 (((who+2)%5)))]) (nn':=1+1) (xs':=[(.int .i64 (((who+1)%5)))]++[(.int .i64 (((who+2)%5)))]) (ab rfl) rfl rfl rfl eh oK rfl rfl rfl rfl rfl rfl (λ_ _=>gn rfl (RO 0) rfl) (by simp[Value.oneCell']) (by simp only[maxLen];omega) (by omega) (by simp) (by simp) (λv18 ov18=>PS ?_)));refine au (af (ad J12 (ac (PS ?_))));refine tp (bA (r:=3) rfl rfl rfl (by decide)) ?_;refine PS ?_;refine au (bI (aa λ_ J13=>sr λ_ J14=>P2 ?_));refine nx J14 (CN (aW (aA (aA (bq (ad J5 (sr λ_ J15=>P2 ?_)))))));refine nx J15 (ah (WK [1] (aw rfl rfl ?_)));exact⟨_,rfl,by rw[iD,if_pos h6];rfl⟩;refine PS ?_;refine nx J3 (CY (sr λ_ J16=>PS ?_));refine nx J16 (ah (ae (aE (H':=[own (.slice none 0 0) 0 [] 3 1]) (dN _) (λ_ s=>gf 3 1 s) (aw rfl rfl ?_))));exact⟨_,rfl,by rw[iD,if_neg (by simp[h6])];rfl⟩
theorem ny(b off T:Nat)(cs:BookT→List Value)(hA:Arnd cs (λx=>ints x.flat) off)(B:BookT)(who:Int):
 DT 65 #[(.pointer (some ⟨b,off,none⟩)),(.int .i64 (who))] T0 [aj b (cs B) T] (RI (.agg (ints (cA B who).flat).toArray) [aj b (cs B) T]):=by
 refine BD 15 Tryz.func65 rfl rfl rfl λw0 F hF=>sr λ_ J1=>XZ vw (ints RowT.zero.flat) λb4=>?_
 refine nx J1 (aa λ_ J2=>sr λ_ J3=>PS ?_);refine CE NN (mf who) ID ?_;refine bg ?_ ?_<;>intro h6;have hm:0≤who∧who<5:=of_decide_eq_true h6;refine PS ?_;refine nx J3 (CN (qx J2 (sr λ_ J4=>P3 ?_)));refine tp (bc (r:=off) rfl P6 rfl uN rfl rfl) ?_;refine IX (off+who.toNat*174) IZ bf ?_;refine tp (aN (vs:=ints (B.rows[who.toNat]'(by omega)).flat) rfl el rfl bf rfl (RO 1) (ai (B.rows[who.toNat]'(by omega))) (Qn hA (j:=who.toNat*174) (by omega) (LB (yL _)) (Qk B (who.toNat*174) (by omega) (by omega) (lD dQ B.rows (i:=who.toNat) 0 (by omega) (by omega) (by decide) (whole (ai (B.rows[who.toNat]'(by omega)))))))) ?_;refine SW 0 bf ai ?_;refine nx J4 (ah (RC 0 [1] el bf (ai _) ?_));exact⟨by rw[cA,dif_pos h6],rfl⟩;refine PS ?_;refine nx J3 (CY (sr λ_ J5=>BV ((ints RowT.zero.flat).toArray) ?_));refine SW 0 bf ai ?_;refine nx J5 (ah (ae (RC 0 [1] el bf (ai _) ?_)));exact⟨by rw[cA,dif_neg (by simp[h6])],rfl⟩
theorem lQ(b off T:Nat)(cs:BookT→List Value)(hA:Arnd cs (λx=>ints x.flat) off)(B:BookT)(who:Int)(x:RowT)(hx:WF x.flat):
 DT 34 #[(.pointer (some ⟨b,off,none⟩)),(.int .i64 (who)),(.agg (ints x.flat).toArray)] T0 [aj b (cs B) T] (RI (.bool (dF B who x).2) [aj b (cs (dF B who x).1) T]):=by
 refine BD 33 Tryz.func34 rfl rfl rfl λw0 F hF=>sr λ_ J1=>XY (ints x.flat) λb5=>?_
 refine PS ?_;refine nx J1 (aa λ_ J2=>aa λ_ J3=>D2 0 1 bl ?_);refine PD 0 ?_;refine AL 1 ?_;refine CE NN (mf who) ID ?_;refine bg ?_ ?_<;>intro h8;have hm:0≤who∧who<5:=of_decide_eq_true h8;have hrow:cA B who=B.rows[who.toNat]'(by omega):=by rw[cA,dif_pos h8]
 refine au (E2 0 1 (PD 2 ?_));refine PD 3 ?_;refine LY 4 el bf ai ?_;refine AL 5 ?_;refine CE JU (kC x hx) ID ?_;refine bg ?_ ?_<;>intro h12;refine au (E2 0 1 (PD 6 ?_));refine PD 7 ?_;refine PD 8 ?_;refine FD 9 0 el aO ?_;refine LR 10 Y3 (cM x rfl) ?_;refine PD 11 ?_;refine PD 12 ?_;refine PD 13 ?_;refine tb 14 rfl (bc (r:=off) rfl P6 rfl uN rfl rfl) ?_;refine IY 15 (off+who.toNat*174) IZ bf ?_;refine tb 16 rfl (bc (r:=off+who.toNat*174) rfl el rfl aO rfl rfl) ?_;refine LX 17 Y3 (.int .i64 ((B.rows[who.toNat]'(by omega)).version)) ?_ (hc:=by exact Arnd.at hA (j:=who.toNat*174) (by omega) (LB (yL _)) (BookT.pt_rows B (who.toNat*174) (by omega) (by omega) (pU dQ B.rows (i:=who.toNat) 0 (by omega) (by omega) (by decide) (cM _ rfl))));refine PD 18 ?_;refine kg ?_ ?_<;>intro h25;refine PD 19 ?_;refine DN (ad J3 (CY (sr λ_ J4=>PS ?_)));refine nx J4 (ah (ae (WK [1] (aw rfl rfl ?_))));have e:dF B who x=(B,false):=by rw[dF,if_neg (λh=>by simp only[ao,decide_eq_true_iff]at h;rw[hrow]at h;omega)]
 exact⟨by rw[e],by rw[e];rfl⟩;refine PD 19 ?_;refine DN (ad J3 (CN (qx J2 (aa λ_ J5=>D1 0 bl ?_))));refine PD 0 ?_;refine PD 1 ?_;refine LY 2 el bf ai ?_;refine PD 3 ?_;refine ta 4 rfl (bc (r:=off) rfl P6 rfl uN rfl rfl) ?_;refine IY 5 (off+who.toNat*174) IZ bf ?_;refine AL 6 ?_;refine bW (vs:=ints x.flat) (i:=1) (ab rfl) rfl rfl rfl rfl rfl (by rw[(ai x)];exact bf) (bv _) rfl rfl (by have h0:=(yL B);have h2:=Arnd.le hA B;have h1:=(ai x);omega) (Arnd.wr hA (x:=B) (x':=(BookT.mk (B.rows.set who.toNat x (by omega)))) (j:=who.toNat*174) (by omega) (LC (yL _) (ai _)) (BookT.wr_rows_ B (who.toNat*174) (by omega) (by have h1:=(ai x);omega) (pT dQ B.rows (i:=who.toNat) 0 (by omega) (by omega) (by have h1:=(ai x);omega) (cy ((ai (B.rows[who.toNat]'(by omega))).trans (ai x).symm))))) rfl (au (E1 0 (DN (ad J5 (sr λ_ J6=>PS ?_)))));refine nx J6 (ah (WK [1] (aw rfl rfl ?_)));have e:dF B who x=(xN B who x,true):=by rw[dF,if_pos (by simp only[ao,decide_eq_true_iff,hrow];exact⟨⟨h8,h12⟩,by omega⟩)]
 exact⟨by rw[e],by rw[e,xN,dif_pos h8];rfl⟩;refine au (E2 0 1 (PD 6 ?_));refine PD 7 ?_;refine PD 8 ?_;refine NT 9 ?_;refine NT 10 ?_;refine NT 11 ?_;refine NT 12 ?_;refine NT 13 ?_;refine NT 14 ?_;refine NT 15 ?_;refine NT 16 ?_;refine NT 17 ?_;refine NT 18 ?_;refine PD 19 ?_;refine DN (ad J3 (CY (sr λ_ J7=>PS ?_)));refine nx J7 (ah (ae (WK [1] (aw rfl rfl ?_))));have e:dF B who x=(B,false):=by rw[dF,if_neg (λh=>by simp only[ao,decide_eq_true_iff]at h;rw[h12]at h;exact absurd h.1.2 (by decide))]
 exact⟨by rw[e],by rw[e];rfl⟩;refine au (E2 0 1 (PD 2 ?_));refine PD 3 ?_;refine NT 4 ?_;refine NT 5 ?_;refine NT 6 ?_;refine PD 7 ?_;refine PD 8 ?_;refine NT 9 ?_;refine NT 10 ?_;refine NT 11 ?_;refine NT 12 ?_;refine NT 13 ?_;refine NT 14 ?_;refine NT 15 ?_;refine NT 16 ?_;refine NT 17 ?_;refine NT 18 ?_;refine PD 19 ?_;refine DN (ad J3 (CY (sr λ_ J8=>PS ?_)));refine nx J8 (ah (ae (WK [1] (aw rfl rfl ?_))));have e:dF B who x=(B,false):=by rw[dF,if_neg (λh=>by simp only[ao,decide_eq_true_iff]at h;rw[h8]at h;exact absurd h.1.1 (by decide))]
 exact⟨by rw[e],by rw[e];rfl⟩
theorem ix(b off T:Nat)(cs:BookT→List Value)(hA:Arnd cs (λx=>ints x.flat) off)(B:BookT)(of' key:Int):
 DT 35 #[(.pointer (some ⟨b,off,none⟩)),(.int .i64 (of')),(.int .i64 (key))] T0 [aj b (cs B) T] (RI (.agg (ints (cr B of' key).flat).toArray) [aj b (cs B) T]):=by
 refine BD 35 Tryz.func35 rfl rfl rfl λw0 F hF=>sr λ_ J1=>XZ Ln (ints CellT.zero.flat) λb6=>?_
 refine nx J1 (sr λ_ J2=>XZ Ln (ints CellT.zero.flat) λb7=>?_);refine nx J2 (sr λ_ J3=>PS ?_);refine nx J3 (aa λ_ J4=>sr λ_ J5=>PS ?_);refine nx J5 (am ?_)
 refine bG (α:=(Nat)×(CellT)×(Int)) (λ⟨k,c,n⟩=>k≤5∧(c,n)=pQ B of' key k) (λ⟨k,c,n⟩=>[(0,(.pointer (some ⟨b,off,none⟩))),(1,(.int .i64 (of'))),(2,(.int .i64 (key))),(6,(.pointer (some ⟨b6,0,none⟩))),(7,(.pointer (some ⟨b7,0,none⟩))),(8,(.int .i64 (n))),(12,(.int .i64 (((k:Nat):Int))))]) (λ⟨k,c,n⟩=>[aj b7 (ints c.flat) 70,aj b6 (ints CellT.zero.flat) 70,aj b (cs B) T]) (λ⟨k,c,n⟩=>5-k) (0,CellT.zero, -1)
  ⟨aP _,rfl⟩ SB
  (λ_ s=>s) (λ⟨k,c,n⟩ hinv=>?_)
 obtain⟨hk,hc⟩:=hinv;refine sr λ_ J6=>PS ?_
 refine ap ?_ ?_<;>intro h13;refine nx J6 (aa λ_ J7=>CY (qx J7 (aa λ_ J8=>am (sr λ_ J9=>P2 ?_))));refine nx J9 (sr λ_ J10=>P3 ?_);refine tp (bc (r:=off) rfl P6 rfl uN rfl rfl) ?_;refine IX (off+k*174) IZ bf ?_;refine tp (aN (vs:=ints (B.rows[k]'(by omega)).flat) rfl el rfl bf rfl (RO 2) (ai (B.rows[k]'(by omega))) (Qn hA (j:=k*174) (by omega) (LB (yL _)) (Qk B (k*174) (by omega) (by omega) (lD dQ B.rows (i:=k) 0 (by omega) (by omega) (by decide) (whole (ai (B.rows[k]'(by omega)))))))) ?_;refine P3 ?_;refine CE QS (Bn (B.rows[k]'(by omega)) ((k:Nat):Int) of' key) ID ?_;refine P3 ?_;refine XZ Ln (ints CellT.zero.flat) λb10=>?_
 refine SW 0 fm aU ?_;refine PS ?_;refine nx J10 (sr λ_ J11=>P3 ?_);refine ap ?_ ?_<;>intro h30;refine nx J11 (CY (ac (LW 0 nF fm aU ?_)));refine PS ?_;refine SW 1 fm aU ?_;refine PS ?_;refine au (af (ad J8 (ac (AD ?_))));refine PS ?_;refine au ?_
 exact aL ((k+1,(rowCell (B.rows[k]'(by omega)) ((k:Nat):Int) of' key).1,(rowCell (B.rows[k]'(by omega)) ((k:Nat):Int) of' key).2):(Nat)×(CellT)×(Int)) ⟨by omega,by rw[oB,←hc,qW,yD B (by omega)];simp[h30]⟩ (by show 5- (k+1)<5-k;omega)
  SB
  (λ_ s=>ak [1,1,1] rfl s)
 refine nx J11 (CN (aR (af (ad J8 (ac (AD ?_))))));refine PS ?_;refine au ?_
 exact aL ((k+1,c,n):(Nat)×(CellT)×(Int)) ⟨by omega,by rw[oB,←hc,qW,yD B (by omega)];simp[h30]⟩ (by show 5- (k+1)<5-k;omega)
  SB
  (λ_ s=>ak [1,1,1] rfl s)
 refine nx J6 (aa λ_ J12=>CN (aW (aA (aA (bq (ad J4 (sr λ_ J13=>LW 0 nF fm aU ?_)))))));refine SW 1 fm aU ?_;refine nx J13 (ah (RC 1 [2] nF fm (aU _) ?_));obtain rfl:k=5:=by omega
 exact⟨by rw[cr,←hc],rfl⟩
theorem n6(b off T:Nat)(cs:BookT→List Value)(hA:Arnd cs (λx=>ints x.flat) off)(B:BookT)(key:Int):
 DT 12 #[(.pointer (some ⟨b,off,none⟩)),(.int .i64 (key))] T0 [aj b (cs B) T] (RI (.int .i64 (kd B key)) [aj b (cs B) T]):=by
 refine BD 24 Tryz.func12 rfl rfl rfl λw0 F hF=>sr λ_ J1=>PS ?_
 refine nx J1 (sr λ_ J2=>PS ?_);refine nx J2 (aa λ_ J3=>sr λ_ J4=>PS ?_);refine nx J4 (am ?_)
 refine bG (α:=(Nat)×(Int)) (λ⟨k,n⟩=>k≤5∧n=valueTo B key k) (λ⟨k,n⟩=>[(0,(.pointer (some ⟨b,off,none⟩))),(1,(.int .i64 (key))),(4,(.int .i64 0)),(5,(.int .i64 (n))),(8,(.int .i64 (((k:Nat):Int))))]) (λ⟨k,n⟩=>[aj b (cs B) T]) (λ⟨k,n⟩=>5-k) (0,0)
  ⟨aP _,rfl⟩ SB
  (λ_ s=>s) (λ⟨k,n⟩ hinv=>?_)
 obtain⟨hk,hc⟩:=hinv;refine sr λ_ J5=>PS ?_
 refine ap ?_ ?_<;>intro h9;refine nx J5 (aa λ_ J6=>CY (qx J6 (aa λ_ J7=>am (sr λ_ J8=>P2 ?_))));refine nx J8 (sr λ_ J9=>P3 ?_);refine CE FF (ix b off T cs hA B ((k:Nat):Int) key) ID ?_;refine XZ Ln (ints CellT.zero.flat) λb7=>?_
 refine SW 0 fm aU ?_;refine nx J9 (ac (PS ?_));refine FA 0 nF aO ?_;refine LT 0 Y3 (.int .i64 ((cr B ((k:Nat):Int) key).inn)) ?_ (hc:=by exact zz _ rfl);refine FA 1 nF aO ?_;refine LT 0 Y3 (.int .i64 ((cr B ((k:Nat):Int) key).out)) ?_ (hc:=by exact zy _ rfl);refine tp (iE (r:=(fy (((cr B ((k:Nat):Int) key).inn)- ((cr B ((k:Nat):Int) key).out)))) rfl rfl rfl rfl) ?_;refine tp (bA (r:=(fy (n+(fy (((cr B ((k:Nat):Int) key).inn)- ((cr B ((k:Nat):Int) key).out)))))) rfl rfl rfl rfl) ?_;refine PS ?_;refine au (af (ad J7 (ac (AD ?_))));refine PS ?_;refine au ?_
 exact aL ((k+1,(fy (n+(fy (((cr B ((k:Nat):Int) key).inn)- ((cr B ((k:Nat):Int) key).out)))))):(Nat)×(Int)) ⟨by omega,by rw[pp,←hc]⟩ (by show 5- (k+1)<5-k;omega)
  SB
  (λ_ s=>ak [1] rfl s)
 refine nx J5 (aa λ_ J10=>CN (aW (aA (aA (bq (ad J3 (sr λ_ J11=>P2 ?_)))))));refine nx J11 (ah (WK [0] (aw rfl rfl ?_)));obtain rfl:k=5:=by omega
 exact⟨by rw[hc];rfl,rfl⟩
theorem mZ(b off T:Nat)(cs:BookT→List Value)(hA:Arnd cs (λx=>ints x.flat) off)(B:BookT)(who key:Int):
    DT 36 #[(.pointer (some ⟨b,off,none⟩)),(.int .i64 (who)),(.int .i64 (key))] T0 [aj b (cs B) T] (RI (.int .i64 (dE B who key)) [aj b (cs B) T]):=by
 refine BD 71 Tryz.func36 rfl rfl rfl λw0 F hF=>sr λ_ J1=>PS ?_
 refine nx J1 (aa λ_ J2=>sr λ_ J3=>PS ?_);refine CE NN (mf who) ID ?_;refine bg ?_ ?_<;>intro h14;have hm:0≤who∧who<5:=of_decide_eq_true h14;refine PS ?_;refine nx J3 (CN (qx J2 (sr λ_ J4=>XZ OC (ints ((#v[CellT.zero,CellT.zero,CellT.zero,CellT.zero,CellT.zero]).toList.flatMap CellT.flat)) λb7=>?_)));refine nx J4 (aa λ_ J5=>sr λ_ J6=>PS ?_);refine nx J6 (am ?_)
 refine bG (α:=(Nat)×(Vector CellT 5)) (λ⟨k,C⟩=>k≤5∧∀(j:Nat) (h:j<5),j<k→C[j]=cr B j key) (λ⟨k,C⟩=>[(0,(.pointer (some ⟨b,off,none⟩))),(1,(.int .i64 (who))),(2,(.int .i64 (key))),(6,(.int .i64 0)),(7,(.pointer (some ⟨b7,0,none⟩))),(16,(.int .i64 (((k:Nat):Int))))]) (λ⟨k,C⟩=>[aj b7 (ints (C.toList.flatMap CellT.flat)) 154,aj b (cs B) T]) (λ⟨k,C⟩=>5-k) (0, #v[CellT.zero,CellT.zero,CellT.zero,CellT.zero,CellT.zero])
     ⟨aP _,λj _ h=>absurd h (by omega)⟩ SB
     (λ_ s=>ak [0,0] rfl s) (λ⟨k,C⟩ hinv=>?_)
 obtain⟨hk,hC⟩:=hinv;refine sr λ_ J7=>PS ?_
 refine ap ?_ ?_<;>intro h17;refine nx J7 (aa λ_ J8=>CY (qx J8 (aa λ_ J9=>am (sr λ_ J10=>P2 ?_))));refine nx J10 (ac (P4 ?_));refine CE FF (ix b off T cs hA B ((k:Nat):Int) key) (SM [1]) ?_;refine IX (k*7) uy fm ?_;refine bW (vs:=ints (cr B ((k:Nat):Int) key).flat) (i:=1) (ab rfl) rfl rfl rfl rfl rfl (by rw[(aU (cr B ((k:Nat):Int) key))];exact fm) (bv _) rfl rfl (by have h0:=(rl C);have h1:=(aU (cr B ((k:Nat):Int) key));omega) (pT bu C (i:=k) 0 (by omega) (by omega) (by have h1:=(aU (cr B ((k:Nat):Int) key));omega) (cy ((aU (C[k]'(by omega))).trans (aU (cr B ((k:Nat):Int) key)).symm))) rfl (au (af (ad J9 (ac (AD ?_)))));refine PS ?_;refine au ?_
 exact aL ((k+1,(C.set k (cr B ((k:Nat):Int) key) (by omega))):(Nat)×(Vector CellT 5)) ⟨by omega,λj h hj=>by
        rw[Vector.getElem_set];split
        · subst_vars;rfl
        · exact hC j h (by omega)⟩ (by show 5- (k+1)<5-k;omega)
   SB
   (λ_ s=>ak [1,0] rfl s)
 refine nx J7 (aa λ_ J11=>CN (aW (aA (aA (bq (ad J5 (sr λ_ J12=>PS ?_)))))));refine nx J12 (aa λ_ J13=>sr λ_ J14=>P3 ?_);refine tp (bc (r:=off) rfl P6 rfl uN rfl rfl) ?_;refine IX (off+who.toNat*174) IZ bf ?_;refine tp (aN (vs:=ints (B.rows[who.toNat]'(by omega)).flat) rfl el rfl bf rfl (RO 1) (ai (B.rows[who.toNat]'(by omega))) (Qn hA (j:=who.toNat*174) (by omega) (LB (yL _)) (Qk B (who.toNat*174) (by omega) (by omega) (lD dQ B.rows (i:=who.toNat) 0 (by omega) (by omega) (by decide) (whole (ai (B.rows[who.toNat]'(by omega)))))))) ?_;refine PS ?_;have hbr:B.rows[who.toNat]'(by omega)=cA B who:=by rw[cA,dif_pos h14]
 rw[hbr];refine CR QR (Dp (cA B who) who) ID λvR HR hR=>?_
 obtain⟨_,rfl,rfl⟩:=hR;revert vR;intro ul1;refine je 0 rfl rfl (λhlul1 houl1=>tp (dO rfl eh rfl hlul1) ?_);refine PS ?_;refine nx J14 (am ?_)
 refine bG (α:=(Nat)×(Int)) (λ⟨i,r⟩=>i≤(gg (cA B who) who).length∧r=((gg (cA B who) who).take i).foldl (l4 B key) 0) (λ⟨i,r⟩=>[(0,(.pointer (some ⟨b,off,none⟩))),(6,(.int .i64 0)),(7,(.pointer (some ⟨b7,0,none⟩))),(9,(.int .i64 (r))),(33,ul1),(34,(.int .i64 ((((gg (cA B who) who).length:Nat):Int)))),(35,(.int .i64 (((i:Nat):Int))))]) (λ⟨i,r⟩=>[own ul1 ((gg (cA B who) who).length) (ints (gg (cA B who) who)) 3 1,aj b7 (ints (C.toList.flatMap CellT.flat)) 154,aj b (cs B) T]) (λ⟨i,r⟩=>(gg (cA B who) who).length-i) (0,0)
     ⟨aP _,rfl⟩ SB
     (λ_ s=>ak [0,0,0] rfl s) (λ⟨i,r⟩ hinv=>?_)
 obtain⟨hi,hr⟩:=hinv;have hE: ∀(j:Nat) (h:j<5),C[j]=cr B j key:=λj h=>hC j h (by omega)
 refine sr λ_ J15=>PS ?_
 refine ap ?_ ?_<;>intro h36;refine nx J15 (aa λ_ J16=>CY (qx J16 (aa λ_ J17=>am (sr λ_ J18=>jV 0 rfl rfl (by omega) (λga capa hva hcapa=>?_)))));obtain⟨q,hq,hq5⟩: ∃q:Nat,(gg (cA B who) who)[i]=((q:Nat):Int)∧q<5:=by have:=Fq (cA B who) who _ (ez (show i< (gg (cA B who) who).length by omega));exact⟨(gg (cA B who) who)[i].toNat,by omega,by omega⟩
 have hE2:C[q]=cr B (gg (cA B who) who)[i] key:=by rw[hE q hq5,hq]
 refine tp (bn (r:=i) hva rfl eh aO rfl rfl (by omega) (by omega) (by omega)) ?_;refine tp (cm (v:=(.int .i64 (((q:Nat):Int)))) rfl Y3 rfl rfl (gM 0 rfl hva rfl) (by rw[←hq];simp[ints,show i< (gg (cA B who) who).length by omega])) ?_;refine PS ?_;refine nx J18 (aa λ_ J19=>D1 1 bl ?_);refine PD 0 ?_;refine PD 1 ?_;refine IY 2 (q*7) uy fm ?_;refine ta 3 rfl (bc (r:=q*7) rfl nF rfl aO rfl rfl) ?_;refine LX 4 Y3 (.int .i64 ((C[q]'(by omega)).inn)) ?_ (hc:=by exact pU bu C (i:=q) 0 (by omega) (by omega) (by decide) (zz _ rfl));refine PD 5 ?_;refine IY 6 (q*7) uy fm ?_;refine ta 7 rfl (bc (r:=q*7+1) rfl nF rfl aO rfl rfl) ?_;refine LX 8 Y3 (.int .i64 ((C[q]'(by omega)).out)) ?_ (hc:=by exact pU bu C (i:=q) 1 (by omega) (by omega) (by decide) (zy _ rfl));refine ta 9 rfl (iE (r:=(fy (((C[q]'(by omega)).inn)- ((C[q]'(by omega)).out)))) rfl rfl rfl rfl) ?_;refine ta 10 rfl (bA (r:=(fy (r+(fy (((C[q]'(by omega)).inn)- ((C[q]'(by omega)).out)))))) rfl rfl rfl rfl) ?_;refine PD 11 ?_;refine DN (ad J19 (sr λ_ J20=>PS ?_));refine nx J20 (am ?_)
 refine bG (α:=(Nat)×(Int)) (λ⟨o,r3⟩=>o≤5∧r3=rightsIn B key (gg (cA B who) who)[i] (fy (r+fy (C[q].inn-C[q].out))) o) (λ⟨o,r3⟩=>[(0,(.pointer (some ⟨b,off,none⟩))),(6,(.int .i64 0)),(7,(.pointer (some ⟨b7,0,none⟩))),(9,(.int .i64 (r3))),(11,(.int .i64 (((q:Nat):Int)))),(33,ul1),(34,(.int .i64 ((((gg (cA B who) who).length:Nat):Int)))),(35,(.int .i64 (((i:Nat):Int)))),(50,(.int .i64 (((o:Nat):Int))))]) (λ⟨o,r3⟩=>[own ul1 ((gg (cA B who) who).length) (ints (gg (cA B who) who)) 3 1,aj b7 (ints (C.toList.flatMap CellT.flat)) 154,aj b (cs B) T]) (λ⟨o,r3⟩=>5-o) (0,(fy (r+(fy (((C[q]'(by omega)).inn)- ((C[q]'(by omega)).out))))))
     ⟨aP _,rfl⟩ SB
     (λ_ s=>ak [0,0,0] rfl s) (λ⟨o,r3⟩ hinv=>?_)
 obtain⟨ho,hr3⟩:=hinv;refine sr λ_ J21=>PS ?_
 refine ap ?_ ?_<;>intro h51;refine nx J21 (aa λ_ J22=>CY (qx J22 (aa λ_ J23=>am (sr λ_ J24=>P2 ?_))));refine nx J24 (D1 1 bl ?_);refine PD 0 ?_;refine PD 1 ?_;refine PD 2 ?_;refine IY 3 (o*7) uy fm ?_;refine ta 4 rfl (bc (r:=o*7+2) rfl nF rfl fR rfl rfl) ?_;refine IY 5 (o*7+2+q) kJ aO ?_;refine LX 6 Y3 (.int .i64 ((((C[o]'(by omega)).given)[q]'(by omega)))) ?_ (hc:=by exact pU bu C (i:=o) (2+q) (by omega) (by omega) (by omega) (Qi (C[o]'(by omega)) q (by omega) (by omega) (li ((C[o]'(by omega)).given) (by omega))));refine PD 7 ?_;refine PD 8 ?_;refine IY 9 (q*7) uy fm ?_;refine ta 10 rfl (bc (r:=q*7+2) rfl nF rfl fR rfl rfl) ?_;refine IY 11 (q*7+2+o) kJ aO ?_;refine LX 12 Y3 (.int .i64 ((((C[q]'(by omega)).given)[o]'(by omega)))) ?_ (hc:=by exact pU bu C (i:=q) (2+o) (by omega) (by omega) (by omega) (Qi (C[q]'(by omega)) o (by omega) (by omega) (li ((C[q]'(by omega)).given) (by omega))));refine ta 13 rfl (iE (r:=(fy ((((C[o]'(by omega)).given)[q]'(by omega))- (((C[q]'(by omega)).given)[o]'(by omega))))) rfl rfl rfl rfl) ?_;refine ta 14 rfl (bA (r:=(fy (r3+(fy ((((C[o]'(by omega)).given)[q]'(by omega))- (((C[q]'(by omega)).given)[o]'(by omega))))))) rfl rfl rfl rfl) ?_;refine PD 15 ?_;refine DN (af (ad J23 (ac (AD ?_))));refine PS ?_;refine au ?_
 exact aL ((o+1,(fy (r3+(fy ((((C[o]'(by omega)).given)[q]'(by omega))- (((C[q]'(by omega)).given)[o]'(by omega))))))):(Nat)×(Int)) ⟨by omega,by rw[oI,←hr3,yi _ (by omega),hq,yi _ hq5,←hE o (by omega),←hE q hq5]⟩ (by show 5- (o+1)<5-o;omega)
   SB
   (λ_ s=>ak [0,0,0] rfl s)
 refine nx J21 (aa λ_ J25=>CN (aW (aA (aA (bq (af (ad J17 (ac (AD ?_)))))))));refine PS ?_;refine au ?_
 exact aL ((i+1,r3):(Nat)×(Int)) ⟨by omega,by
          have h5:o=5:=by omega
          rw[bZ (by omega),fl,←hr];show r3=l4 B key r _
          rw[hr3,h5,l4,←hE2]⟩ (by show(gg (cA B who) who).length- (i+1)< (gg (cA B who) who).length-i;omega)
   SB
   (λ_ s=>ak [0,0,0] rfl s)
 refine nx J15 (aa λ_ J26=>CN (aW (aA (aA (bq (ad J13 (sr λ_ J27=>P2 ?_)))))));refine nx J27 (ah (WK [2] (aw rfl rfl ?_)));obtain rfl:i=(gg (cA B who) who).length:=by omega
 exact⟨by rw[dE,if_pos h14,hr,gC],rfl⟩;refine PS ?_;refine nx J3 (CY (sr λ_ J28=>PS ?_));refine nx J28 (ah (ae (WK [0] (aw rfl rfl ?_))));exact⟨by rw[dE,if_neg (by simp[h14])],rfl⟩
theorem mD(b off T:Nat)(cs:MirT→List Value)(hA:Arnd cs MirT.cells off)(M:MirT)(who:Int):
 DT 74 #[(.pointer (some ⟨b,off,none⟩)),(.int .i64 (who))] T0 [aj b (cs M) T] (RI (.agg (ints (mirRow M who).flat).toArray) [aj b (cs M) T]):=by
 refine BD 15 Tryz.func74 rfl rfl rfl λw0 F hF=>sr λ_ J1=>XZ vw (ints RowT.zero.flat) λb4=>?_
 refine nx J1 (aa λ_ J2=>sr λ_ J3=>PS ?_);refine CE GR (iX who) ID ?_;refine bg ?_ ?_<;>intro h6;have hm:0≤who∧who<5:=of_decide_eq_true h6;refine PS ?_;refine nx J3 (CN (qx J2 (sr λ_ J4=>P3 ?_)));refine tp (bc (r:=off) rfl Ol rfl uN rfl rfl) ?_;refine IX (off+who.toNat*174) IZ bf ?_;refine tp (aN (vs:=ints (M.rows[who.toNat]'(by omega)).flat) rfl el rfl bf rfl (RO 1) (ai (M.rows[who.toNat]'(by omega))) (Qn hA (j:=who.toNat*174) (by omega) (LB (re _)) (MirT.sub_rows M (who.toNat*174) (by omega) (by omega) (lD dQ M.rows (i:=who.toNat) 0 (by omega) (by omega) (by decide) (whole (ai (M.rows[who.toNat]'(by omega)))))))) ?_;refine SW 0 bf ai ?_;refine nx J4 (ah (RC 0 [1] el bf (ai _) ?_));exact⟨by rw[mirRow,dif_pos h6],rfl⟩;refine PS ?_;refine nx J3 (CY (sr λ_ J5=>BV ((ints RowT.zero.flat).toArray) ?_));refine SW 0 bf ai ?_;refine nx J5 (ah (ae (RC 0 [1] el bf (ai _) ?_)));exact⟨by rw[mirRow,dif_neg (by simp[h6])],rfl⟩
theorem nY(b off T:Nat)(cs:MirT→List Value)(hA:Arnd cs MirT.cells off)(M:MirT)(who:Int):
 DT 75 #[(.pointer (some ⟨b,off,none⟩)),(.int .i64 (who))] T0 [aj b (cs M) T] (RI (.bool (fg M who)) [aj b (cs M) T]):=by
 refine BD 15 Tryz.func75 rfl rfl rfl λw0 F hF=>sr λ_ J1=>PS ?_
 refine nx J1 (sr λ_ J2=>PS ?_);refine CE GR (iX who) ID ?_;refine bg ?_ ?_<;>intro h6;have hm:0≤who∧who<5:=of_decide_eq_true h6;refine P4 ?_;refine tq (bc (r:=off+870) rfl Ol rfl Nw rfl rfl) ?_;refine IX (off+870+who.toNat) Tryz.underlying86 lT ?_;refine LT 0 Y4 (.bool ((M.sealed[who.toNat]'(by omega)))) ?_ (hc:=by exact Arnd.at hA (j:=870+who.toNat) (by omega) (LB (re _)) (MirT.pt_sealed M (who.toNat) (by omega) (by omega) (MU M.sealed (by omega))));refine P2 ?_;refine nx J2 (ah (WK [0] (aw rfl rfl ?_)));exact⟨by simp[fg, *],rfl⟩;refine PS ?_
 iterate 6 refine UF ?_
 refine P2 ?_;refine nx J2 (ah (WK [0] (aw rfl rfl ?_)));exact⟨by simp[fg, *],rfl⟩
theorem rP(b off T:Nat)(cs:MirT→List Value)(hA:Arnd cs MirT.cells off)(M:MirT)(who:Int)(x:RowT)(hx:WF x.flat):
 DT 140 #[(.pointer (some ⟨b,off,none⟩)),(.int .i64 (who)),(.agg (ints x.flat).toArray)] T0 [aj b (cs M) T] (RI (.bool (iO M who x)) [aj b (cs M) T]):=by
 refine BD 34 Tryz.func140 rfl rfl rfl λw0 F hF=>sr λ_ J1=>XY (ints x.flat) λb5=>?_
 refine PS ?_;refine nx J1 (aa λ_ J2=>D2 1 0 bl ?_);refine PD 0 ?_;refine AL 1 ?_;refine CE GR (iX who) ID ?_;refine bg ?_ ?_<;>intro h8;have hm:0≤who∧who<5:=of_decide_eq_true h8;refine EN (PD 2 ?_);refine PD 3 ?_;refine PD 4 ?_;refine PD 5 ?_;refine tb 6 rfl (bc (r:=off+870) rfl Ol rfl Nw rfl rfl) ?_;refine IY 7 (off+870+who.toNat) Tryz.underlying86 lT ?_;refine LX 8 Y4 (.bool ((M.sealed[who.toNat]'(by omega)))) ?_ (hc:=by exact Arnd.at hA (j:=870+who.toNat) (by omega) (LB (re _)) (MirT.pt_sealed M (who.toNat) (by omega) (by omega) (MU M.sealed (by omega))));refine sQ ?_ ?_<;>intro h15;refine PD 9 ?_;refine PD 10 ?_;refine PD 11 ?_;refine NT 12 ?_;refine NT 13 ?_;refine PD 14 ?_;refine PD 15 ?_;refine NT 16 ?_;refine NT 17 ?_;refine NT 18 ?_;refine NT 19 ?_;refine NT 20 ?_;refine NT 21 ?_;refine NT 22 ?_;refine NT 23 ?_;refine NT 24 ?_;refine NT 25 ?_;refine PD 26 ?_;refine PD 27 ?_;refine DN (ad J2 (ah (WK [1] (aw rfl rfl ?_))));exact⟨by simp[iO,fg,mirRow, *],rfl⟩;refine PD 9 ?_;refine PD 10 ?_;refine PD 11 ?_;refine LY 12 el bf ai ?_;refine AL 13 ?_;refine CE JU (kC x hx) ID ?_;refine bg ?_ ?_<;>intro h20;refine EN (PD 14 ?_);refine PD 15 ?_;refine FD 16 0 el aO ?_;refine LR 17 Y3 (cM x rfl) ?_;refine PD 18 ?_;refine PD 19 ?_;refine PD 20 ?_;refine tb 21 rfl (bc (r:=off) rfl Ol rfl uN rfl rfl) ?_;refine IY 22 (off+who.toNat*174) IZ bf ?_;refine tb 23 rfl (bc (r:=off+who.toNat*174) rfl el rfl aO rfl rfl) ?_
 refine LX 24 Y3 (.int .i64 ((M.rows[who.toNat]'(by omega)).version)) ?_ (hc:=by exact Arnd.at hA (j:=who.toNat*174) (by omega) (LB (re _)) (MirT.pt_rows M (who.toNat*174) (by omega) (by omega) (pU dQ M.rows (i:=who.toNat) 0 (by omega) (by omega) (by decide) (cM _ rfl))));refine PD 25 ?_;refine PD 26 ?_;refine PD 27 ?_;refine DN (ad J2 (ah (WK [1] (aw rfl rfl ?_))));exact⟨by simp[iO,fg,mirRow, *],rfl⟩;refine EN (PD 14 ?_);refine PD 15 ?_;refine NT 16 ?_;refine NT 17 ?_;refine NT 18 ?_;refine NT 19 ?_;refine NT 20 ?_;refine NT 21 ?_;refine NT 22 ?_;refine NT 23 ?_;refine NT 24 ?_;refine NT 25 ?_;refine PD 26 ?_;refine PD 27 ?_;refine DN (ad J2 (ah (WK [1] (aw rfl rfl ?_))));exact⟨by simp[iO,fg,mirRow, *],rfl⟩;refine EN (PD 2 ?_);refine NT 3 ?_;refine NT 4 ?_;refine NT 5 ?_;refine NT 6 ?_;refine NT 7 ?_;refine NT 8 ?_;refine NT 9 ?_;refine PD 10 ?_;refine PD 11 ?_;refine NT 12 ?_;refine NT 13 ?_;refine PD 14 ?_;refine PD 15 ?_;refine NT 16 ?_;refine NT 17 ?_;refine NT 18 ?_;refine NT 19 ?_;refine NT 20 ?_;refine NT 21 ?_;refine NT 22 ?_;refine NT 23 ?_;refine NT 24 ?_;refine NT 25 ?_;refine PD 26 ?_;refine PD 27 ?_;refine DN (ad J2 (ah (WK [1] (aw rfl rfl ?_))));exact⟨by simp[iO,fg,mirRow, *],rfl⟩
theorem tV(b off T:Nat)(cs:MirT→List Value)(hA:Arnd cs MirT.cells off)(M:MirT)(who:Int)(x:RowT)(hx:WF x.flat):
 DT 91 #[(.pointer (some ⟨b,off,none⟩)),(.int .i64 (who)),(.agg (ints x.flat).toArray)] T0 [aj b (cs M) T] (RI (.bool (iH M who x).2) [aj b (cs (iH M who x).1) T]):=by
 refine BD 18 Tryz.func91 rfl rfl rfl λw0 F hF=>sr λ_ J1=>XY (ints x.flat) λb5=>?_
 refine PS ?_;refine nx J1 (aa λ_ J2=>sr λ_ J3=>P2 ?_);refine LW 0 el bf ai ?_;refine CE M7 (rP b off T cs hA M who x hx) (SM [1]) ?_;refine bg ?_ ?_<;>intro h10;have hm0:cI who=true:=by have:=h10;simp only[iO,ao]at this;exact this.1.1.1
 have hm:0≤who∧who<5:=of_decide_eq_true hm0;refine PS ?_;refine nx J3 (CN (qx J2 (aa λ_ J4=>D1 1 bl ?_)));refine PD 0 ?_;refine PD 1 ?_;refine LY 2 el bf ai ?_;refine PD 3 ?_;refine ta 4 rfl (bc (r:=off) rfl Ol rfl uN rfl rfl) ?_;refine IY 5 (off+who.toNat*174) IZ bf ?_;refine AL 6 ?_;refine bW (vs:=ints x.flat) (i:=0) (ab rfl) rfl rfl rfl rfl rfl (by rw[(ai x)];exact bf) (bv _) rfl rfl (by have h0:=(re M);have h2:=Arnd.le hA M;have h1:=(ai x);omega) (Arnd.wr hA (x:=M) (x':=(MirT.mk (M.rows.set who.toNat x (by omega)) M.sealed)) (j:=who.toNat*174) (by omega) (LC (re _) (ai _)) (MirT.wr_rows_ M (who.toNat*174) (by omega) (by have h1:=(ai x);omega) (pT dQ M.rows (i:=who.toNat) 0 (by omega) (by omega) (by have h1:=(ai x);omega) (cy ((ai (M.rows[who.toNat]'(by omega))).trans (ai x).symm))))) rfl (au (E1 1 (DN (ad J4 (sr λ_ J5=>PS ?_)))));refine nx J5 (ah (WK [0] (aw rfl rfl ?_)));have e:iH M who x=(sD M who x,true):=by rw[iH,if_pos h10]
 exact⟨by rw[e],by rw[e,sD,dif_pos hm0];rfl⟩;refine PS ?_;refine nx J3 (CY (sr λ_ J6=>PS ?_));refine nx J6 (ah (ae (WK [0] (aw rfl rfl ?_))));have e:iH M who x=(M,false):=by rw[iH,if_neg (by simp[h10])]
 exact⟨by rw[e],by rw[e];rfl⟩
theorem tU(b off T:Nat)(cs:MirT→List Value)(hA:Arnd cs MirT.cells off)(M:MirT)(who:Int):
 DT 92 #[(.pointer (some ⟨b,off,none⟩)),(.int .i64 (who))] T0 [aj b (cs M) T] (RI (.tuple #[.agg (ints (mirRow M who).flat).toArray, .bool (cI who)]) [aj b (cs (jk M who)) T]):=by
 refine Leg.Does.body (vs:=[(.pointer (some ⟨b,off,none⟩)),(.int .i64 (who))]) (n:=21) Tryz.func92 rfl rfl rfl (λw0 F hF=>?_);refine sr λ_ J1=>?_
 refine q7 (ab rfl) rfl rfl rfl vw (λb4=>?_);change TL _ _ _ _ _ _ _ _ _ [aj b4 (ints RowT.zero.flat) 74,aj b (cs M) T];refine qh ?_;refine nx J1 ?_;clear J1;refine aa λ_ J2=>?_
 refine sr λ_ J3=>?_
 refine mv ?_;refine lR (ab rfl) rfl rfl rfl GR rfl (iX who) (λ_ s=>s) (λ_ _ _=>trivial) (λvR HR hR=>?_);obtain⟨rfl,rfl⟩:=hR;refine bg (λh7=>?_) (λh7=>?_);have hm:0≤who∧who<5:=of_decide_eq_true h7;refine tp (pg (r:=false) rfl rfl rfl) ?_;refine nx J3 ?_;clear J3;refine Hb rfl ?_;refine aR ?_;refine ad J2 ?_;clear J2;refine sr λ_ J4=>?_
 refine mv ?_;refine mv ?_;refine tp (gU rfl rfl) ?_;refine tp (bc (r:=off+870) rfl Ol rfl Nw rfl rfl) ?_;refine tp (q9 (r:=off+870+who.toNat) rfl Tryz.underlying86 lT rfl rfl (by omega) (by omega) (by omega)) ?_;refine bK (i:=1) (ab rfl) rfl rfl rfl rfl rfl lT rfl rfl (by have h0:=(re M);have h2:=Arnd.le hA M;omega) (Arnd.set hA (x:=M) (x':=(MirT.mk M.rows (M.sealed.set who.toNat true (by omega)))) (j:=870+who.toNat) (by omega) (by have h0:=(re M);omega) (MirT.st_sealed M (who.toNat) (by omega) (by omega) (OE M.sealed (by omega) _))) rfl ?_;refine nx J4 ?_;clear J4;refine sr λ_ J5=>?_
 refine mv ?_;refine mv ?_;refine tp (gU rfl rfl) ?_;refine tp (bc (r:=off) rfl Ol rfl uN rfl rfl) ?_;refine tp (q9 (r:=off+who.toNat*174) rfl IZ bf rfl rfl (by omega) (by omega) (by omega)) ?_;refine tp (aN (vs:=ints (M.rows[who.toNat]'(by omega)).flat) rfl el rfl bf rfl (fC 1 rfl rfl) (ai (M.rows[who.toNat]'(by omega))) (Qn hA (j:=who.toNat*174) (by omega) (by have h0:=(re (MirT.mk M.rows (M.sealed.set who.toNat true (by omega))));omega) (MirT.sub_rows (MirT.mk M.rows (M.sealed.set who.toNat true (by omega))) (who.toNat*174) (by omega) (by omega) (lD dQ M.rows (i:=who.toNat) 0 (by omega) (by omega) (by decide) (whole (ai (M.rows[who.toNat]'(by omega)))))))) ?_;refine bW (vs:=ints (M.rows[who.toNat]'(by omega)).flat) (i:=0) (ab rfl) rfl rfl rfl rfl rfl (by rw[(ai (M.rows[who.toNat]'(by omega)))];exact bf) (bv _) rfl rfl (by have h0:=(ai RowT.zero);have h1:=(ai (M.rows[who.toNat]'(by omega)));omega) (cy ((ai RowT.zero).trans (ai (M.rows[who.toNat]'(by omega))).symm)) rfl ?_;refine qh ?_;refine nx J5 ?_;clear J5;refine ah ?_;refine mL (H':=[aj b (cs (MirT.mk M.rows (M.sealed.set who.toNat true (by omega)))) T]) rfl rfl rfl el rfl bf (fC 0 rfl rfl) (ai (M.rows[who.toNat]'(by omega))) (λ_ s=>ak [1] rfl s) ?_;exact⟨by simp[mirRow, *],by simp[jk, *]⟩;refine tp (pg (r:=true) rfl rfl rfl) ?_;refine nx J3 ?_;clear J3;refine oj rfl ?_;refine sr λ_ J6=>?_
 refine tp (kM (cells:=(ints RowT.zero.flat).toArray) rfl rfl (by as_aux_lemma=>kernel_rfl)) ?_;refine bW (vs:=ints RowT.zero.flat) (i:=0) (ab rfl) rfl rfl rfl rfl rfl (by rw[(ai RowT.zero)];exact bf) (bv _) rfl rfl (by have h0:=(ai RowT.zero);have h1:=(ai RowT.zero);omega) (cy ((ai RowT.zero).trans (ai RowT.zero).symm)) rfl ?_;refine qh ?_;refine nx J6 ?_;clear J6;refine ah ?_;refine ae ?_;clear J2;refine mL (H':=[aj b (cs M) T]) rfl rfl rfl el rfl bf (fC 0 rfl rfl) (ai RowT.zero) (λ_ s=>ak [1] rfl s) ?_;exact⟨by simp[mirRow, *],by simp[jk, *]⟩
end Go.Proofs.YtkhjnolhhidecaaGreatDoor
end

section
namespace Api
open Go Leg Codec
def eA(k:Int):Bool:=decide (k=0∨k=2∨k=9)
def fj(k:Int):Bool:=decide (k=3∨k=6)
def cL:Ps (MsgT×Bool):=pb (fo 10) λk=>
 if eA k then pb (fo 5) λw=>pb tK λx=>pr (⟨k,w,x,0,0, .zero, .zero, .zero, .zero⟩,gh x)
 else if k=1 then pb nq λn=>pr (⟨k,0, .zero,n,0, .zero, .zero, .zero, .zero⟩,true)
 else if fj k then pb nq λn=>pb jw λb=>pr (⟨k,0, .zero,0,n,b, .zero, .zero, .zero⟩,true)
 else if k=4 then pb nq λn=>pb jw λb=>pb jw λd=>pb kU λc=>pr (⟨k,0, .zero,0,n,b,d,c, .zero⟩,true)
 else if k=5 then pb nq λn=>pb jw λb=>pb kU λc=>pr (⟨k,0, .zero,0,n,b, .zero,c, .zero⟩,true)
 else if k=7 then pb lV λv=>pr (⟨k,0, .zero,0,0, .zero, .zero, .zero,v⟩,jF v)
 else if k=8 then pb (fo 5) λw=>pb lV λv=>pr (⟨k,w, .zero,0,0, .zero, .zero, .zero,v⟩,jF v)
 else pr (⟨k,0, .zero,0,0, .zero, .zero, .zero, .zero⟩,true)
def dK:Ps (RecT×Bool):=pb (fo 6) λk=>
 if k=0 then pb tK λx=>pr (⟨k,0,x,0, .zero, .zero, .zero⟩,gh x)
 else if k=1 then pb (fo 5) λw=>pb tK λx=>pr (⟨k,w,x,0, .zero, .zero, .zero⟩,gh x)
 else if k=2 then pb (fo 5) λw=>pr (⟨k,w, .zero,0, .zero, .zero, .zero⟩,true)
 else if k=3 then pb nq λn=>pb jw λb=>pr (⟨k,0, .zero,n,b, .zero, .zero⟩,true)
 else if k=4 then pb nq λn=>pb jw λb=>pb kU λc=>pr (⟨k,0, .zero,n,b,c, .zero⟩,true)
 else if k=5 then pb lV λv=>pr (⟨k,0, .zero,0, .zero, .zero,v⟩,jF v)
 else pr (⟨k,0, .zero,0, .zero, .zero, .zero⟩,true)
def jx(bs:List UInt8):MsgT×Int:=match cL bs with
 |some ((m,true),[])=>(m,0)
 |_=>(.zero,1)
def pa(bs:List UInt8):RecT×Int:=match dK bs with
 |some ((m,true),[])=>(m,0)
 |_=>(.zero,1)
def cX(m:MsgT):List UInt8:=
 if eA m.kind then bh [m.kind,m.whose]++iv m.row
 else if m.kind=1 then bh [m.kind,m.version]
 else if fj m.kind then bh [m.kind,m.epoch]++bh m.ballot.flat
 else if m.kind=4 then bh [m.kind,m.epoch]++bh m.ballot.flat++bh m.had.flat++bh m.change.flat
 else if m.kind=5 then bh [m.kind,m.epoch]++bh m.ballot.flat++bh m.change.flat
 else if m.kind=7 then bh [m.kind]++bh m.view.flat
 else if m.kind=8 then bh [m.kind,m.whose]++bh m.view.flat
 else []
def la(m:RecT):List UInt8:=
 if m.kind=0 then bh [m.kind]++iv m.row
 else if m.kind=1 then bh [m.kind,m.whose]++iv m.row
 else if m.kind=2 then bh [m.kind,m.whose]
 else if m.kind=3 then bh [m.kind,m.epoch]++bh m.ballot.flat
 else if m.kind=4 then bh [m.kind,m.epoch]++bh m.ballot.flat++bh m.change.flat
 else if m.kind=5 then bh [m.kind]++bh m.view.flat
 else []
theorem td{v:ViewT}{bs r:List UInt8}(h:lV bs=some (v,r)):Rng v:=λi hi=>by
 have:=(oU h).1.2.2 i hi;exact⟨this.1,by omega⟩
theorem Bl{x:RowT}{bs r:List UInt8}(h:tK bs=some (x,r)):WF x.flat:=(tJ h).1.wf
def Nm(n:Int):Prop:=0≤n∧n<9223372036854775808
def OkB(b:BallotT):Prop:=Nm b.round∧0≤b.who∧b.who<5
def OkC(c:ChangeT):Prop:=(0≤c.kind∧c.kind<2)∧(0≤c.who∧c.who<5)∧(0≤c.heir∧c.heir<5)
def Rw(v:ViewT):Prop:=Nm v.epoch∧(0≤v.members∧v.members<32)∧∀(i:Nat) (h:i<5),0≤v.heirs[i]∧v.heirs[i]<6
theorem pR{b:BallotT}(h:OkB b)(r:List UInt8):jw (bh b.flat++r)=some (b,r):=by
 obtain⟨a,c⟩:=b;obtain⟨h1,h2,h3⟩:=h;replace h3:c<5:=h3;simp only[BallotT.flat,ii,jl,aG,ba,jw];rw[ax (l6 h1.1 h1.2 _),ax (iu (n:=c) h2 h3 (by omega) _)];rfl
theorem yw{c:ChangeT}(h:OkC c)(r:List UInt8):kU (bh c.flat++r)=some (c,r):=by
 obtain⟨a,b,d⟩:=c;obtain⟨⟨h1,h2⟩,⟨h3,h4⟩,h5,h6⟩:=h;simp only at h1 h2 h3 h4 h5 h6;simp only[ChangeT.flat,ii,jl,aG,ba,kU];rw[ax (iu h1 h2 (by omega) _),ax (iu h3 h4 (by omega) _),ax (iu h5 h6 (by omega) _)];rfl
theorem Cw{v:ViewT}(h:Rw v)(r:List UInt8):lV (bh v.flat++r)=some (v,r):=by
 obtain⟨i,o,g⟩:=v;obtain⟨h1,⟨h2,h3⟩,h4⟩:=h;replace h2:0≤o:=h2;replace h3:o<32:=h3;revert h4;refine Ly (p:=λg=>(∀(i_1:Nat) (h:i_1<5),0≤g[i_1]∧g[i_1]<6)→lV (bh (ViewT.flat ⟨i,o,g⟩)++r)=some (⟨i,o,g⟩,r)) (λa b c d e h4=>?_) g;have e0:=h4 0 (by omega);have e1:=h4 1 (by omega);have e2:=h4 2 (by omega);have e3:=h4 3 (by omega);have e4:=h4 4 (by omega);have s:=λn (h:0≤n∧n<6) r=>iu (n:=n) (lim:=6) h.1 h.2 (by omega) r
 simp only[ViewT.flat,Vector.toList_mk,ii,jl,aG,ba,lV];rw[ax (l6 h1.1 h1.2 _),ax (iu h2 h3 (by omega) _),ax (s a e0 _),ax (s b e1 _),ax (s c e2 _),ax (s d e3 _),ax (s e e4 _)];rfl
def tR(m:MsgT):MsgT:=
 if eA m.kind then⟨m.kind,m.whose,m.row,0,0, .zero, .zero, .zero, .zero⟩
 else if m.kind=1 then⟨m.kind,0, .zero,m.version,0, .zero, .zero, .zero, .zero⟩
 else if fj m.kind then⟨m.kind,0, .zero,0,m.epoch,m.ballot, .zero, .zero, .zero⟩
 else if m.kind=4 then⟨m.kind,0, .zero,0,m.epoch,m.ballot,m.had,m.change, .zero⟩
 else if m.kind=5 then⟨m.kind,0, .zero,0,m.epoch,m.ballot, .zero,m.change, .zero⟩
 else if m.kind=7 then⟨m.kind,0, .zero,0,0, .zero, .zero, .zero,m.view⟩
 else⟨m.kind,m.whose, .zero,0,0, .zero, .zero, .zero,m.view⟩
def ES(m:MsgT):Bool:=if eA m.kind then gh m.row else if m.kind=7∨m.kind=8 then jF m.view else true
structure OkM(m:MsgT):Prop where
 kind:0≤m.kind∧m.kind<10
 whose:0≤m.whose∧m.whose<5
 row:TameR m.row
 version:Nm m.version
 epoch:Nm m.epoch
 ballot:OkB m.ballot
 had:OkB m.had
 change:OkC m.change
 view:Rw m.view
theorem Mp{m:MsgT}(h:OkM m)(r:List UInt8):cL (cX m++r)=some ((tR m,ES m),r):=by
 have hk:=h.kind;have k0:fo 10 (p8 m.kind++r)=some (m.kind,r):=iu hk.1 hk.2 (by omega) r;have kk:=λr=>iu hk.1 hk.2 (show m.kind<9223372036854775808 by omega) r
 have kw:=λr=>iu h.whose.1 h.whose.2 (show m.whose<9223372036854775808 by have:=h.whose;omega) r
 have kv:=λr=>l6 h.version.1 h.version.2 r
 have ke:=λr=>l6 h.epoch.1 h.epoch.2 r
 unfold cL cX tR ES
 by_cases c0:eA m.kind=true
 · simp only[if_pos c0,ii,jl,aG,ba]
   rw[ax (kk _)];simp only[if_pos c0];rw[ax (kw _),ax (JC h.row _)];rfl
 simp only[if_neg c0]
 by_cases c1:m.kind=1
 · have q: ¬(m.kind=7∨m.kind=8):=by omega
   simp only[if_pos c1,if_neg q,ii,jl,aG,ba];rw[ax (kk _)];simp only[if_neg c0,if_pos c1];rw[ax (kv _)];rfl
 simp only[if_neg c1]
 by_cases c2:fj m.kind=true
 · have q: ¬(m.kind=7∨m.kind=8):=by have:=of_decide_eq_true c2;omega
   simp only[if_pos c2,if_neg q,ii,jl,aG,ba];rw[ax (kk _)];simp only[if_neg c0,if_neg c1,if_pos c2];rw[ax (ke _),ax (pR h.ballot _)];rfl
 simp only[if_neg c2]
 by_cases c3:m.kind=4
 · have q: ¬(m.kind=7∨m.kind=8):=by omega
   simp only[if_pos c3,if_neg q,ii,jl,aG,ba];rw[ax (kk _)];simp only[if_neg c0,if_neg c1,if_neg c2,if_pos c3];rw[ax (ke _),ax (pR h.ballot _),ax (pR h.had _),ax (yw h.change _)];rfl
 simp only[if_neg c3]
 by_cases c4:m.kind=5
 · have q: ¬(m.kind=7∨m.kind=8):=by omega
   simp only[if_pos c4,if_neg q,ii,jl,aG,ba];rw[ax (kk _)];simp only[if_neg c0,if_neg c1,if_neg c2,if_neg c3,if_pos c4];rw[ax (ke _),ax (pR h.ballot _),ax (yw h.change _)];rfl
 simp only[if_neg c4]
 by_cases c5:m.kind=7
 · have q:m.kind=7∨m.kind=8:= .inl c5
   simp only[if_pos c5,if_pos q,ii,jl,aG,ba];rw[ax (kk _)];simp only[if_neg c0,if_neg c1,if_neg c2,if_neg c3,if_neg c4,if_pos c5];rw[ax (Cw h.view _)];rfl
 have c6:m.kind=8:=by
  have n0: ¬(m.kind=0∨m.kind=2∨m.kind=9):=λe=>c0 (decide_eq_true e)
  have n2: ¬(m.kind=3∨m.kind=6):=λe=>c2 (decide_eq_true e)
  omega
 have q:m.kind=7∨m.kind=8:= .inr c6;simp only[if_neg c5,if_pos c6,if_pos q,ii,jl,aG,ba];rw[ax (kk _)];simp only[if_neg c0,if_neg c1,if_neg c2,if_neg c3,if_neg c4,if_neg c5,if_pos c6];rw[ax (kw _),ax (Cw h.view _)];rfl
theorem Ks(i:Nat)(hi:i<5):RowT.zero.heir[i]=0:=by match i,hi with|0,_|1,_|2,_|3,_|4,_=>rfl
theorem yy(k:Nat)(hk:k<4):RowT.zero.cells[k]=CellT.zero:=by match k,hk with|0,_|1,_|2,_|3,_=>rfl
theorem qM(i:Nat)(hi:i<5):RowT.zero.left[i]=RowT.zero.cells:=by match i,hi with|0,_|1,_|2,_|3,_|4,_=>rfl
theorem tame_rzero:TameR RowT.zero:=⟨⟨by decide,by decide⟩,λk hk=>by rw[yy k hk];exact uK,λi hi=>by rw[Ks i hi];decide,λi k hi hk=>by rw[show RowT.zero.left[i][k]=RowT.zero.cells[k]from by rw[qM i hi],yy k hk];exact uK,λi hi _=>by rw[qM i hi,qM 0 (by decide)]⟩
theorem kRow_cases{k:Int}(h: ¬eA k=true)(h2: ¬fj k=true):k≠0∧k≠2∧k≠9∧k≠3∧k≠6:=by
 have n0: ¬(k=0∨k=2∨k=9):=λe=>h (decide_eq_true e)
 have n2: ¬(k=3∨k=6):=λe=>h2 (decide_eq_true e)
 omega
theorem PO{m:MsgT}{g:Bool}{bs r:List UInt8}(h:cL bs=some ((m,g),r)):bs=cX m++r∧ES m=g∧(0≤m.kind∧m.kind<10)∧(0≤m.whose∧m.whose<5)∧TameR m.row:=by
 obtain⟨k,r1,h1,h2⟩:=bp h;clear h;obtain⟨k1,rfl⟩:=dd h1;have tz:=tame_rzero;have kz:(0:Int)≤0∧(0:Int)<5:=by omega
 by_cases c0:eA k=true
 · simp only[if_pos c0]at h2
   obtain⟨w,r2,h3,h4⟩:=bp h2;obtain⟨k3,rfl⟩:=dd h3;obtain⟨x,r3,h5,h6⟩:=bp h4;obtain⟨k5,rfl⟩:=tJ h5;obtain⟨e,rfl⟩:=gy h6;injection e with e1 e2;subst e1;subst e2
   exact⟨by simp[cX,c0,bh],by simp[ES,c0],⟨k1.1,k1.2.1⟩,⟨k3.1,k3.2.1⟩,k5⟩
 simp only[if_neg c0]at h2;have fin: ∀{m:MsgT} {bs':List UInt8},m.kind=k→p8 k++bs'=cX m++r→ES m=g→(0≤m.whose∧m.whose<5)→TameR m.row→p8 k++bs'=cX m++r∧ES m=g∧(0≤m.kind∧m.kind<10)∧(0≤m.whose∧m.whose<5)∧TameR m.row:=λe a b c d=>⟨a,b,by rw[e];exact⟨k1.1,k1.2.1⟩,c,d⟩
 by_cases c1:k=1
 · simp only[if_pos c1]at h2
   subst c1;obtain⟨n,r2,h3,h4⟩:=bp h2;obtain⟨_,_,rfl⟩:=iN h3;obtain⟨e,rfl⟩:=gy h4;injection e with e1 e2;subst e1;subst e2
   exact fin rfl (by simp[cX,eA,fj,bh]) (by simp[ES,eA]) kz tz
 simp only[if_neg c1]at h2
 by_cases c2:fj k=true
 · simp only[if_pos c2]at h2
   obtain⟨n,r2,h3,h4⟩:=bp h2;obtain⟨_,_,rfl⟩:=iN h3;obtain⟨b,r3,h5,h6⟩:=bp h4;obtain⟨_,rfl⟩:=jT h5;obtain⟨e,rfl⟩:=gy h6;injection e with e1 e2;subst e1;subst e2
   have:=of_decide_eq_true c2;exact fin rfl (by simp[cX,c0,c1,c2,bh]) (by simp[ES,c0];omega) kz tz
 simp only[if_neg c2]at h2
 by_cases c3:k=4
 · simp only[if_pos c3]at h2
   subst c3;obtain⟨n,r2,h3,h4⟩:=bp h2;obtain⟨_,_,rfl⟩:=iN h3;obtain⟨b,r3,h5,h6⟩:=bp h4;obtain⟨_,rfl⟩:=jT h5;obtain⟨d,r4,h7,h8⟩:=bp h6;obtain⟨_,rfl⟩:=jT h7;obtain⟨c,r5,h9,h10⟩:=bp h8;obtain⟨_,rfl⟩:=oA h9;obtain⟨e,rfl⟩:=gy h10;injection e with e1 e2;subst e1;subst e2
   exact fin rfl (by simp[cX,eA,fj,bh]) (by simp[ES,eA]) kz tz
 simp only[if_neg c3]at h2
 by_cases c4:k=5
 · simp only[if_pos c4]at h2
   subst c4;obtain⟨n,r2,h3,h4⟩:=bp h2;obtain⟨_,_,rfl⟩:=iN h3;obtain⟨b,r3,h5,h6⟩:=bp h4;obtain⟨_,rfl⟩:=jT h5;obtain⟨c,r5,h9,h10⟩:=bp h6;obtain⟨_,rfl⟩:=oA h9;obtain⟨e,rfl⟩:=gy h10;injection e with e1 e2;subst e1;subst e2
   exact fin rfl (by simp[cX,eA,fj,bh]) (by simp[ES,eA]) kz tz
 simp only[if_neg c4]at h2
 by_cases c5:k=7
 · simp only[if_pos c5]at h2
   subst c5;obtain⟨v,r3,h5,h6⟩:=bp h2;obtain⟨_,rfl⟩:=oU h5;obtain⟨e,rfl⟩:=gy h6;injection e with e1 e2;subst e1;subst e2
   exact fin rfl (by simp[cX,eA,fj,bh]) (by simp[ES,eA]) kz tz
 simp only[if_neg c5]at h2;have c6:k=8:=by have:=kRow_cases c0 c2;omega
 simp only[if_pos c6]at h2;subst c6;obtain⟨w,r2,h3,h4⟩:=bp h2;obtain⟨k3,rfl⟩:=dd h3;obtain⟨v,r3,h5,h6⟩:=bp h4;obtain⟨_,rfl⟩:=oU h5;obtain⟨e,rfl⟩:=gy h6;injection e with e1 e2;subst e1;subst e2
 exact fin rfl (by simp[cX,eA,fj,bh]) (by simp[ES,eA]) ⟨k3.1,k3.2.1⟩ tz
def Fy(m:RecT):Bool:=if m.kind=0∨m.kind=1 then gh m.row else if m.kind=5 then jF m.view else true
theorem JH{m:RecT}{g:Bool}{bs r:List UInt8}(h:dK bs=some ((m,g),r)):bs=la m++r∧Fy m=g∧(0≤m.kind∧m.kind<6)∧(0≤m.whose∧m.whose<5)∧TameR m.row:=by
 obtain⟨k,r1,h1,h2⟩:=bp h;clear h;obtain⟨k1,rfl⟩:=dd h1;have tz:=tame_rzero;have kz:(0:Int)≤0∧(0:Int)<5:=by omega
 by_cases c0:k=0
 · simp only[if_pos c0]at h2
   subst c0;obtain⟨x,r3,h5,h6⟩:=bp h2;obtain⟨k5,rfl⟩:=tJ h5;obtain⟨e,rfl⟩:=gy h6;injection e with e1 e2;subst e1;subst e2
   exact⟨by simp[la,bh],by simp[Fy],⟨k1.1,k1.2.1⟩,kz,k5⟩
 simp only[if_neg c0]at h2
 by_cases c1:k=1
 · simp only[if_pos c1]at h2
   subst c1;obtain⟨w,r2,h3,h4⟩:=bp h2;obtain⟨k3,rfl⟩:=dd h3;obtain⟨x,r3,h5,h6⟩:=bp h4;obtain⟨k5,rfl⟩:=tJ h5;obtain⟨e,rfl⟩:=gy h6;injection e with e1 e2;subst e1;subst e2
   exact⟨by simp[la,bh],by simp[Fy],⟨k1.1,k1.2.1⟩,⟨k3.1,k3.2.1⟩,k5⟩
 simp only[if_neg c1]at h2
 by_cases c2:k=2
 · simp only[if_pos c2]at h2
   subst c2;obtain⟨w,r2,h3,h4⟩:=bp h2;obtain⟨k3,rfl⟩:=dd h3;obtain⟨e,rfl⟩:=gy h4;injection e with e1 e2;subst e1;subst e2
   exact⟨by simp[la,bh],by simp[Fy],⟨k1.1,k1.2.1⟩,⟨k3.1,k3.2.1⟩,tz⟩
 simp only[if_neg c2]at h2
 by_cases c3:k=3
 · simp only[if_pos c3]at h2
   subst c3;obtain⟨n,r2,h3,h4⟩:=bp h2;obtain⟨_,_,rfl⟩:=iN h3;obtain⟨b,r3,h5,h6⟩:=bp h4;obtain⟨_,rfl⟩:=jT h5;obtain⟨e,rfl⟩:=gy h6;injection e with e1 e2;subst e1;subst e2
   exact⟨by simp[la,bh],by simp[Fy],⟨k1.1,k1.2.1⟩,kz,tz⟩
 simp only[if_neg c3]at h2
 by_cases c4:k=4
 · simp only[if_pos c4]at h2
   subst c4;obtain⟨n,r2,h3,h4⟩:=bp h2;obtain⟨_,_,rfl⟩:=iN h3;obtain⟨b,r3,h5,h6⟩:=bp h4;obtain⟨_,rfl⟩:=jT h5;obtain⟨c,r5,h9,h10⟩:=bp h6;obtain⟨_,rfl⟩:=oA h9;obtain⟨e,rfl⟩:=gy h10;injection e with e1 e2;subst e1;subst e2
   exact⟨by simp[la,bh],by simp[Fy],⟨k1.1,k1.2.1⟩,kz,tz⟩
 simp only[if_neg c4]at h2;have c5:k=5:=by omega
 simp only[if_pos c5]at h2;subst c5;obtain⟨v,r3,h5,h6⟩:=bp h2;obtain⟨_,rfl⟩:=oU h5;obtain⟨e,rfl⟩:=gy h6;injection e with e1 e2;subst e1;subst e2
 exact⟨by simp[la,bh],by simp[Fy],⟨k1.1,k1.2.1⟩,kz,tz⟩
theorem Rng.zeros{v:ViewT}(h:v.heirs= #v[0,0,0,0,0]):Rng v:=λi hi=>by
 have:v.heirs[i]=0:=by
  rw[show v.heirs[i]=(#v[0,0,0,0,0]:Vector Int 5)[i]from by rw[h]]
  match i,hi with|0,_|1,_|2,_|3,_|4,_=>rfl
 omega
theorem Rng.zero:Rng ViewT.zero:=Rng.zeros rfl
theorem Rng.first:Rng firstV:=Rng.zeros rfl
abbrev ET:= @Rng.first
def xF(x:RepT):MsgT:= {MsgT.zero with kind:=0,whose:=x.id,row:=x.own}
def pD(id:Int)(x:RowT):MsgT:= {MsgT.zero with kind:=2,whose:=id,row:=x}
def vu(k w:Int):Bool:=decide (k.fdiv (2^min w.toNat IntKind.i64.bits)%2=0)
def oy(x:RepT):List SaidT:=((iD x.id).filter λw=>vu x.kept w).map λw=>⟨w,xF x⟩
end Api
namespace Api
open Go Leg Codec
def fT(x:RepT)(o:OpT):RowT×Int:=
 if o.kind=0 then px x.own o.key o.n else if o.kind=1 then py x.own o.key o.n else if o.kind=2 then(if o.to'≠x.id then mh x.own o.key o.n o.to' else(.zero,5))else(.zero,5)
def kD(x:RepT)(o:OpT):RowT×Int×Int:=
 if js x.view x.id=false then(.zero,0,9)else if nr o.key=false then(.zero,0,5)else if o.kind=3 then(.zero,kd x.book o.key,0)else if x.busy then(.zero,0,8)
 else if(fT x o).2≠0 then(.zero,0,(fT x o).2)else if o.kind≠0∧dE x.book x.id o.key<o.n then(.zero,0,7)else((fT x o).1,0,0)
def gX(y:RowT):RecT:= {RecT.zero with kind:=0,row:=y}
end Api
namespace Api
open Go Leg Codec
end Api
namespace Api
open Go Leg Codec
end Api
namespace Api
open Go Leg Codec
end Api
namespace Api
open Go Leg Codec
end Api
end

section
namespace Leg
open Go
section
variable {P:Program} {w0:World} {F:Hl} {n:Nat} {ops:Array Oper} {Q:QQ} {D:List Deferred} {L:List (Nat×Value)} {H:List HP} {o:Oper} {l:List Oper} {d:Nat} {S:World→Prop}
def yK(P:Program)(t:TypeId)(rv:Value)(nm:String)(f:FuncId):Prop:=∀w,(method (P.types.size+Made.depth) t rv nm).run P w= .ok (f,rv) w
theorem TL.callI{recv:Operand}{nm:String}{t:TypeId}{rv:Value}{f:FuncId}{xs:Array Operand}{ts:Array TypeId}{vs:List Value}{R:Hl→Prop}{A B:List HP}{p:Value→List HP→Prop}(hw:Want n D ops o L)
 (ho:o.op= .call {callee:= .invoke recv nm,args:=xs,argTypes:=ts}) (hd:o.dst=some d) (hn:Nat.blt d n=true) (hr:cR L recv=some (.iface t rv)) (hm:yK P t rv nm f) (hf:Named P f) (hx:BP L xs.toList=some vs)
 (sp:Does P f (rv::vs).toArray R A (dG p)) (hp: ∀h,bR H h→bR (A++B) h) (hR: ∀g,Dj g F→bR B g→R (jn g F))
 (hret: ∀v H',p v H'→TL P w0 F n ops Q l D ((d,v)::L) (H'++B)):TL P w0 F n ops Q (o::l) D L H:=
 TL.callw hw (λa w g=>by
  have e:xs.map a.eval=vs.toArray:=g.evals hx;have e2:a.eval recv= .iface t rv:=g.eval hr;have e3:=hm w
  simp[execOp,ho,resolve,invoke,callMethod,e,e2,e3,nl hf])
  sp hp hR (λv H' q a g w s m=>by rw[hd];exact hret v H' q _ w (g.put (lb hn) v) s m) (λ_ _ h=>h.elim) (λ_ h=>h)
theorem TE.retCTT{H':List HP}{fn:Func}{post:Ending→List HP→Prop}{t t' t2 ty e m b:Nat}{cs:List Value}{z:Nat×Nat}{dt:TypeDesc}{v' v2:Value}(hr:fn.results=#[.cell t ty, .tmp t', .tmp t2])(he:lk L t=some (.pointer (some ⟨b,0,none⟩)))(e':lk L t'=some v')(e2:lk L t2=some v2)
 (hu:P.underlying ty=some dt) (hp:eP dt=false) (hm:(P.info? ty).map (·.size)=some m) (hR:Rd (Sat H F) b (.cells cs.toArray e z)) (hl:cs.length=m) (hk: ∀h,bR H h→bR H' h)
 (h:post (.returned (.tuple #[.agg cs.toArray,v',v2])) H'):TE w0 F n (bodyPost P fn (kq post w0 F)) .ret [] L H:=λa w f s q=>by
 have h1:a.tmps.getD t undef= .pointer (some ⟨b,0,none⟩):=f.eval (x:= .tmp t) he;have h2:a.tmps.getD t' undef=v':=f.eval (x:= .tmp t') e';have h4:a.tmps.getD t2 undef=v2:=f.eval (x:= .tmp t2) e2
 have h3:(results fn a.tmps).run P w= .ok (.tuple #[.agg cs.toArray,v',v2]) w:=by
  have h1':a.tmps[t]?.getD undef= .pointer (some ⟨b,0,none⟩):=by simpa using h1
  have h2':a.tmps[t']?.getD undef=v':=by simpa using h2
  have h4':a.tmps[t2]?.getD undef=v2:=by simpa using h4
  simp[results,hr,h1',h2',h4',asAddr,run_loadVar_row w b e ty cs.toArray z dt (hR w q) hu (by cases dt<;>simp[eP]at hp ⊢) (by simp[hm,hl])]
 exact bodyPost_ret h3 f.2.1 ⟨s,H',q.mono hk,h⟩
theorem PV.ifaceNotNil{t t' u:TypeId}{x:Operand}{v:Value}{ms:Array (String×TypeId)}(ho:o.op= .binOp .neq t x (.const .nilIface) t')(ht:P.underlying t=some (.interface ms))(hx:cR L x=some (.iface u v)):PV P n D L S o (.bool true):=
 gN ho hx rfl λw=>by
  have:=rT (P:=P) (w:=w) 9999 (u:=u) (v:=v) ht;simp[eqGuard,binOp,Op.equal,Op.maxDepth,this]
end
theorem tY(i:Nat){v:Value}{l:List Int}{e:Nat}{B:List HP}{F:Hl}(hi:Nat.blt i B.length=true)(hH:B.getD i (λ_=>True)=own v l.length (Api.ints l) e 1): ∀g,Dj g F→bR B g→IsI .i64 v l (jn g F):=λg _ s=>by
 obtain⟨h1,h2,d',rfl,a,_⟩:=eJ i (lb hi) s;rw[hH]at a;rcases a with⟨_,⟨h0,hn,_⟩| ⟨g,cap,cur,hv,hh,h3,h4,h5,h6⟩⟩
 · exact .inl ⟨h0,List.eq_nil_of_length_eq_zero hn⟩
 · refine .inr ⟨g,0,cap,cur.toList,e,(0,0),hv,h3,by simp only[maxLen]at h4;omega,g9 (g9 (by rw[hh];simp[sg])),λj hj=>?_⟩
   rw[gB]at h6;have e1:(cur.toList.take l.length)[j]?=some (.int .i64 (l.getD j 0)):=by rw[h6];exact Api.ints_get l j hj
   rw[List.getElem?_take,if_pos hj]at e1
   simpa using e1
variable {P:Program} {w0:World} {F:Hl} {n:Nat} {ops:Array Oper} {Q:QQ} {D:List Deferred} {L:List (Nat×Value)} {H:List HP} {d:Nat} {o:Oper} {l:List Oper}
theorem RU{fn:Func}{post:Ending→List HP→Prop}{t t' t2 ty e m b:Nat}{cs:List Value}{dt:TypeDesc}{v' v2:Value}(k:Nat)(is:List Nat)(hu:P.underlying ty=some dt)(hm:(P.info? ty).map (·.size)=some m)(hl:cs.length=m)(h:post (.returned (.tuple #[.agg cs.toArray,v',v2])) ((Dl H is).take is.length))(hr:fn.results=#[.cell t ty, .tmp t', .tmp t2]:=by exact rfl)(he:lk L t=some (.pointer (some ⟨b,0,none⟩)):=by exact rfl)(e':lk L t'=some v':=by exact rfl)(e2:lk L t2=some v2:=by exact rfl)(hp:eP dt=false:=by exact rfl)(hk:Nat.blt k H.length=true:=by exact rfl)(hH:H.getD k (λ_=>True)=aj b cs e:=by exact rfl)(hs:Mf H.length is=true:=by exact rfl):TE w0 F n (bodyPost P fn (kq post w0 F)) .ret [] L H:=TE.retCTT hr he e' e2 hu hp hm (fC k hk hH) hl (λ_ s=>ak is hs s) h
end Leg
end

section
namespace Dsk
open Go Leg Codec Api
abbrev jz:=List UInt8
def zs:jz:=List.replicate 64 0
def HJ(b:jz):Value:= .agg (dX b).toArray
abbrev gj:=List (Int×jz)
def kY(s:gj)(k:Int):jz:=match s with
 | []=>zs
 | (a,b)::s=>if k=a then b else kY s k
def oW(s:gj)(k:Int)(v:jz):gj:=match s with
 | []=>[(k,v)]
 | (a,b)::s=>if k=a then(a,v)::s else(a,b)::oW s k v
theorem Ju(s:gj)(k j:Int)(v:jz):kY (oW s k v) j=if j=k then v else kY s j:=by
 induction s with
 |nil=>simp[oW,kY]
 |cons p s ih=>
  obtain⟨a,b⟩:=p;simp only[oW]
  by_cases h:k=a
  · subst h
    rw[if_pos rfl]
    by_cases h2:j=k
    · simp[kY,h2]
    · simp[kY,h2]
  · rw[if_neg h]
    simp only[kY]
    by_cases h2:j=a
    · subst h2
      rw[if_pos rfl,if_pos rfl,if_neg (by omega)]
    · rw[if_neg h2,if_neg h2,ih]
def uC(s:gj):List (Int×Value):=s.map λp=>(p.1,HJ p.2)
theorem D4(s:gj)(k:Int):(Iv (uC s) k).getD (HJ zs)=HJ (kY s k):=by
 induction s with
 |nil=>rfl
 |cons p s ih=>
  obtain⟨a,b⟩:=p;simp only[uC,fe,Iv,kY]at ih ⊢;split
  · rfl
  · exact ih
theorem Ko(s:gj)(k:Int)(v:jz):ye (uC s) k (HJ v)=uC (oW s k v):=by
 induction s with
 |nil=>rfl
 |cons p s ih=>
  obtain⟨a,b⟩:=p;simp only[uC,fe,ye,oW]at ih ⊢;split
  · rfl
  · rw[ih];rfl
def dr(p:Int×jz):List Value:= .int .i64 p.1::dX p.2
def ee(ws:gj):List Value:=ws.flatMap dr
def eY(b:List UInt8):jz:=b++List.replicate (64-b.length) 0
theorem dT{b:List UInt8}(h:b.length≤64):(eY b).length=64:=by simp[eY];omega
def Whole(s:gj):Prop:=∀p∈s,p.2.length=64
theorem cB{p:Int×jz}(h:p.2.length=64):(dr p).length=65:=by simp[dr,dX,h]
theorem Hj{ws:gj}(h:Whole ws){k:Nat}(hk:k<ws.length):((ee ws).drop (k*65)).take 65=dr ws[k]:=by
 induction ws generalizing k with
 |nil=>simp at hk
 |cons p ws ih=>
  have h1:=cB (h p (by simp));simp only[ee,cS]at ih ⊢;cases k with
  |zero=>
   simp only[iS,bb,pj];rw[cG (by omega),aC (by omega)]
  |succ k=>
   rw[jg,dz (by omega),h1,show(k+1)*65-65=k*65 by omega,ba]
   simpa using ih (λq hq=>h q (by simp[hq])) (by simpa using hk)
theorem fG{s:gj}(h:Whole s)(k:Int):(kY s k).length=64:=by
 induction s with
 |nil=>simp[kY,zs]
 |cons p s ih=>
  obtain⟨a,b⟩:=p;simp only[kY];split
  · exact h (a,b) (by simp)
  · exact ih λq hq=>h q (by simp[hq])
theorem Whole.put{s:gj}(h:Whole s)(k:Int){v:jz}(hv:v.length=64):Whole (oW s k v):=by
 induction s with
 |nil=>intro p hp;simp only[oW,hX]at hp;subst hp;exact hv
 |cons p s ih=>
  obtain⟨a,b⟩:=p;intro q hq;simp only[oW]at hq;split at hq
  · rcases bU.1 hq with rfl|hq
    · exact hv
    · exact h q (by simp[hq])
  · rcases bU.1 hq with rfl|hq
    · exact h (a,b) (by simp)
    · exact ih (λq hq=>h q (by simp[hq])) q hq
theorem Whole.add{s:gj}(h:Whole s)(k:Int){v:jz}(hv:v.length=64):Whole (s++[(k,v)]):=λp hp=>by
 rcases fw.1 hp with hp|hp
 · exact h p hp
 · simp only[hX]at hp;subst hp;exact hv
section
variable {P:Program} {n:Nat} {D:List Deferred} {L:List (Nat×Value)} {S:World→Prop} {o:Oper}
theorem PV.mapNil{t t' k e m:TypeId}{x y:Operand}(ho:o.op= .binOp .eql t x y t')(hu:P.underlying t=some (.map k e))(hx:cR L x=some (.map (some m)))(hy:cR L y=some (.map none)):PV P n D L S o (.bool false):=
 gN ho hx hy λw=>by
  have e:(Op.equal t (.map (some m)) (.map none)).run P w= .ok false w:=run_equalIn_map_nil w 9999 t k e (some m) hu;simp[eqGuard,binOp,e]
end
end Dsk
namespace Dsk
open Go Leg Codec Api
theorem AU{k:Int}{b:List UInt8}(h:b.length≤64):wr (.int .i64 k::dX zs) 1 ((dX b).take (min b.length 64))=dr (k,eY b):=by
 have e:(dX b).take (min b.length 64)=dX b:=aC (by rw[bo];omega);rw[e,wr,bo]
 have e2:(Value.int IntKind.i64 k::dX zs).drop (1+b.length)=dX (List.replicate (64-b.length) 0):=by
  rw[show 1+b.length=b.length+1 by omega,iP];rw[dX,dX,zs,←lS,List.drop_replicate]
 rw[e2];simp only[dr,eY,dX,e8,List.take_succ_cons,List.take_zero,kP,ba]
theorem Ky(vs:List Value): ∀(j:Nat) (pre zeros:List Value),pre.length=j→zeros.length=vs.length→
 ((vs.zipIdx j).foldl (λ(cs:Array Value) (c,i)=>cs.setIfInBounds (0+i) c) (pre++zeros).toArray)=(pre++vs).toArray:=by
 induction vs with
 |nil=>intro j pre zeros _ h;rw[List.eq_nil_of_length_eq_zero h];rfl
 |cons v vs ih=>
  intro j pre zeros hp hz
  match zeros,hz with
  |z::zeros,hz=>
   rw[List.zipIdx_cons,List.foldl_cons]
   have e:(pre++z::zeros).toArray.setIfInBounds (0+j) v=((pre++[v])++zeros).toArray:=by
    rw[bm,List.setIfInBounds_toArray,gZ _ _ (by omega),hp,zv,co,aG];rfl
   simp only[e];rw[ih (j+1) (pre++[v]) zeros (by simp[hp]) (by simpa using hz),aG];rfl
theorem FZ{zeros:Array Value}{vs:List Value}(h:zeros.size=vs.length):Instr.fill (λi=>some (i*vs.length,vs.length)) zeros [(0, .agg vs.toArray)]=some vs.toArray:=by
 have e:=Ky vs 0 [] zeros.toList rfl (by simpa using h);simp only[ba,Array.toArray_toList]at e;simp only[Instr.fill,Value.cells,List.size_toArray,iS,bm,ne_eq,not_true_eq_false,false_or,decide_false,Bool.false_or];rw[if_neg (by simp[h])];rw[←Array.foldl_toList,Array.toList_zipIdx];simp only[bm]at e;rw[e]
theorem kc{zeros:Array Value}{vs:List Value}{size:Nat}(h:vs.length=size)(hz:zeros.size=size):Instr.fill (λi=>some (i*size,size)) zeros [(0, .agg vs.toArray)]=some vs.toArray:=by
 subst h;exact FZ hz
theorem jo(p:Int×jz): ∀u∈dr p,u.oneCell'=true:=by
 intro u hu;rcases bU.1 hu with rfl|hu
 · rfl
 · exact ff _ u hu
end Dsk
namespace Leg
open Go
section
variable {P:Program} {w0:World} {F:Hl} {n:Nat} {ops:Array Oper} {Q:QQ} {D:List Deferred} {L:List (Nat×Value)} {H:List HP} {l:List Oper}
end
end Leg
namespace Dsk
open Go Leg Codec Api
def lq(ws:gj)(k:Nat):Int×jz:=ws.getD k (0,zs)
theorem w5{ws:gj}{k:Nat}(hk:k<ws.length):lq ws k=ws[k]:=by simp[lq,List.getD_eq_getElem?_getD,hk]
theorem ei{ws:gj}(h:Whole ws){k:Nat}(hk:k<ws.length):(lq ws k).2.length=64:=by rw[w5 hk];exact h _ (ez hk)
theorem rk{ws:gj}(h:Whole ws){k:Nat}(hk:k<ws.length):((ee ws).drop (k*65)).take 65=dr (lq ws k):=by rw[w5 hk];exact Hj h hk
theorem Hn{ws:gj}(h:Whole ws){k:Nat}(hk:k<ws.length):(ee ws)[k*65]?=some (.int .i64 (lq ws k).1):=by
 have e:=congrArg (λl:List Value=>l[0]?) (rk h hk)
 simpa [dr]using e
theorem Hk{ws:gj}(h:Whole ws){k:Nat}(hk:k<ws.length):((ee ws).drop (k*65+1)).take 64=dX (lq ws k).2:=by
 have e:=congrArg (λl:List Value=>l.drop 1) (rk h hk);simp only[kO,mP,dr,iP,bb]at e;exact e
theorem wY{p:Int×jz}(h:p.2.length=64):((dr p).drop 1).take 64=dX p.2:=by
 simp only[dr,iP,bb];exact aC (by rw[bo,h];exact aK _)
theorem Cq{p:Int×jz}{c:Nat}(h:p.2.length=64)(hc:c≤64):((dr p).drop 1).take (min c 64)=(dX p.2).take c:=by
 simp only[dr,iP,bb];congr 1;omega
theorem xb{l:List Value}{n:Nat}(h:l.length=n):(l.drop 0).take n=l:=by rw[bb,aC (by omega)]
def DZ(s ws:gj):Nat→gj
 |0=>s
 |k+1=>oW (DZ s ws k) (lq ws k).1 (lq ws k).2
theorem Whole.lay{s ws:gj}(h:Whole s)(hw:Whole ws): ∀k,k≤ws.length→Whole (DZ s ws k)
 |0,_=>h
 |k+1,hk=>(Whole.lay h hw k (by omega)).put _ (ei hw (by omega))
def tm(old new:jz)(c:Nat):jz:=new.take c++old.drop c
theorem rm{old new:jz}{c:Nat}(h1:old.length=64)(h2:new.length=64):(tm old new c).length=64:=by simp[tm];omega
def qT(n:Int):Nat:=(min (max n 0) 64).toNat
theorem MA(n:Int):min (max n 0) 64=((qT n:Nat):Int):=by unfold qT;omega
theorem um(n:Int):qT n≤64:=by unfold qT;omega
def nE(mask torn:Int)(c:Nat)(s:gj)(k:Nat)(p:Int×jz):gj:=
 if(k:Int)=torn then oW s p.1 (tm (kY s p.1) p.2 c)else if mask.fdiv (2^ (k%32))%2=1 then oW s p.1 p.2 else s
def n4(mask torn:Int)(c:Nat)(s ws:gj):Nat→gj
 |0=>s
 |k+1=>nE mask torn c (n4 mask torn c s ws k) k (lq ws k)
theorem Whole.crash{mask torn:Int}{c:Nat}{s ws:gj}(h:Whole s)(hw:Whole ws): ∀k,k≤ws.length→Whole (n4 mask torn c s ws k)
 |0,_=>h
 |k+1,hk=>by
  have ih:=Whole.crash (mask:=mask) (torn:=torn) (c:=c) h hw k (by omega);simp only[n4,nE];split
  · exact ih.put _ (rm (fG ih _) (ei hw (by omega)))
  · split
    · exact ih.put _ (ei hw (by omega))
    · exact ih
def jj(s ws:gj)(at':Int):Nat→jz
 |0=>kY s at'
 |k+1=>if(lq ws k).1=at' then(lq ws k).2 else jj s ws at' k
theorem zZ{s ws:gj}(h:Whole s)(hw:Whole ws)(at':Int): ∀k,k≤ws.length→(jj s ws at' k).length=64
 |0,_=>fG h _
 |k+1,hk=>by
  simp only[jj];split
  · exact ei hw (by omega)
  · exact zZ h hw at' k (by omega)
theorem HX{s ws:gj}{at':Int}{k:Nat}(h:(lq ws k).1=at'):jj s ws at' (k+1)=(lq ws k).2:=by simp[jj,h]
theorem Ft{s ws:gj}{at':Int}{k:Nat}(h:(lq ws k).1≠at'):jj s ws at' (k+1)=jj s ws at' k:=by simp[jj,h]
theorem Ht{old new:jz}{c m:Nat}(hc:c≤64)(h1:old.length=64)(h2:new.length=64)(hm:m=c):wr (dX old) 0 (((dX new).take c).take m)=dX (tm old new c):=by
 subst hm;have:((dX new).take m).length=m:=by rw[bB,bo];omega
 rw[aC (by omega),wr,this,List.take_zero,ba,bm];simp[dX,tm,ql,lS]
structure DS where
 s:gj
 ws:gj
 ar:Bool
 lf:Int
 dn:Bool
structure DS.Ok(D:DS):Prop where
 s:Whole D.s
 ws:Whole D.ws
 lf:0≤D.lf∧D.lf≤9223372036854775807
def DS.new:DS:=⟨[],[],false,0,false⟩
def DS.arm(D:DS)(n:Int):DS:= {D with ar:=true,lf:=max n 0}
def DS.write(D:DS)(at':Int)(bs:List UInt8):Int×DS:=
 if at'<0∨2048≤at'∨64<bs.length then(5,D)
 else if D.dn=true∨(D.ar=true∧D.lf=0)then(4,{D with dn:=true})
 else(0,{D with ws:=D.ws++[(at',eY bs)],lf:=if D.ar=true then D.lf-1 else D.lf,dn:=false})
def DS.sync(D:DS):Int×DS:=if D.dn=true then(4,D)else(0,{D with s:=DZ D.s D.ws D.ws.length,ws:=[]})
def DS.crash(D:DS)(mask torn n:Int):DS:=⟨n4 mask torn (qT n) D.s D.ws D.ws.length,[],false,0,false⟩
def DS.read(D:DS)(at':Int):jz:=jj D.s D.ws at' D.ws.length
theorem nB:Whole []:=λ_ h=>absurd h (by simp)
theorem DS.new_ok:DS.new.Ok:=⟨nB,nB,⟨by decide,by decide⟩⟩
theorem DS.write_ok{D:DS}(h:D.Ok)(at':Int)(bs:List UInt8):(D.write at' bs).2.Ok:=by
 unfold DS.write;split
 · exact h
 · split
   · exact⟨h.s,h.ws,h.lf⟩
   · rename_i h1 h2
     refine⟨h.s,h.ws.add _ (dT (by omega)),?_⟩;have:=h.lf;show 0≤(if D.ar=true then D.lf-1 else D.lf)∧(if D.ar=true then D.lf-1 else D.lf)≤9223372036854775807;split<;>rename_i h3
     · have:D.lf≠0:=λq=>h2 (.inr ⟨h3,q⟩)
       exact⟨by omega,by omega⟩
     · exact this
theorem DS.sync_ok{D:DS}(h:D.Ok):D.sync.2.Ok:=by
 unfold DS.sync;split
 · exact h
 · exact⟨h.s.lay h.ws _ (aK _),nB,h.lf⟩
theorem DS.crash_ok{D:DS}(h:D.Ok)(mask torn n:Int):(D.crash mask torn n).Ok:=⟨h.s.crash h.ws _ (aK _),nB,⟨by simp[DS.crash],by simp[DS.crash]⟩⟩
theorem DS.read_len{D:DS}(h:D.Ok)(at':Int):(D.read at').length=64:=zZ h.s h.ws _ _ (aK _)
abbrev mR:= @DS.read_len
theorem DS.write_ws{D:DS}{at':Int}{bs:List UInt8}:(D.write at' bs).2.ws.length≤D.ws.length+1:=by
 unfold DS.write;split
 · simp
 · split
   · simp
   · simp
abbrev PT(DT WT:Nat)(d:Nat)(D:DS):HP:=pack λx:Nat×Value=>[aj d [.map (some x.1),x.2, .bool D.ar, .int .i64 D.lf, .bool D.dn] DT,lN x.1 (uC D.s),own x.2 D.ws.length (ee D.ws) WT 65]
end Dsk
end

section
namespace Go.Proofs.YtkhjnolhhidecaaGreatDoor
open Go Leg Codec Api Dsk
theorem BW(d m:Nat)(wv:Value)(ar dn:Bool)(lf:Int):
 DT 48 #[(.pointer (some ⟨d,0,none⟩))] T0 [aj d [(.map (some m)),wv,(.bool (ar)),(.int .i64 (lf)),(.bool (dn))] 111] (RI (.bool dn) [aj d [(.map (some m)),wv,(.bool (ar)),(.int .i64 (lf)),(.bool (dn))] 111]):=by
 refine BD 7 Tryz.func48 rfl rfl rfl λw0 F hF=>sr λ_ J1=>PS ?_
 refine nx J1 (sr λ_ J2=>P2 ?_);refine FA 4 iy lT ?_;refine LA 0 Y4 ?_;refine PS ?_;exact nx J2 (ah (WK [0] (aw rfl rfl ⟨rfl,rfl⟩)))
theorem Ei(d m:Nat)(wv:Value)(ar dn:Bool)(lf n:Int):
 DT 27 #[(.pointer (some ⟨d,0,none⟩)),(.int .i64 (n))] T0 [aj d [(.map (some m)),wv,(.bool (ar)),(.int .i64 (lf)),(.bool (dn))] 111] (dG (λ_ H=>H=[aj d [(.map (some m)),wv,(.bool true),(.int .i64 ((max n 0))),(.bool (dn))] 111])):=by
 refine BD 12 Tryz.func27 rfl rfl rfl λw0 F hF=>ac (P3 ?_)
 refine tp (zr rfl rfl rfl) ?_;refine PS ?_;refine FA 2 iy lT ?_;refine S0 0 lT ?_;refine PS ?_;refine FA 3 iy aO ?_;refine S0 0 aO ?_;exact au (WK [0] (bC rfl rfl))
theorem Eh:
 DT 20 #[] T0 [] (dG (λv H=>∃d m,v= .pointer (some ⟨d,0,none⟩)∧H=[aj d [(.map (some m)),(.slice none 0 0),(.bool false),(.int .i64 0),(.bool false)] 111,lN m ([])])):=by
 refine BD 4 Tryz.func20 rfl rfl rfl λw0 F hF=>sr λ_ J1=>PS ?_
 refine nx J1 (sr λ_ J2=>TL.makeMap (ab rfl) rfl rfl rfl (λm1=>BV #[(.map (some m1)),(.slice none 0 0),(.bool false),(.int .i64 0),(.bool false)] ?_));refine XB λb3=>?_
 refine PS ?_;exact nx J2 (ah (WK [0,0] (aw rfl rfl ⟨b3,m1,rfl,rfl⟩)))
theorem df:Tryz.prog.follows .mixedOrders=true:=by kernel_rfl
theorem pM(d m:Nat)(wv:Value)(s:gj)(ar dn:Bool)(lf at':Int)(b:List UInt8)(hb:b.length=64):
 DT 71 #[(.pointer (some ⟨d,0,none⟩)),(.int .i64 (at')),(.agg (dX b).toArray)] T0 [aj d [(.map (some m)),wv,(.bool (ar)),(.int .i64 (lf)),(.bool (dn))] 111,lN m (uC s)] (dG (λ_ H=>H=[aj d [(.map (some m)),wv,(.bool (ar)),(.int .i64 (lf)),(.bool (dn))] 111,lN m (uC (oW s at' b))])):=by
 refine BD 21 Tryz.func71 rfl rfl rfl λw0 F hF=>sr λ_ J1=>XY (dX b) λb5=>?_
 refine nx J1 (aa λ_ J2=>sr λ_ J3=>P2 ?_);refine FA 0 iy Gu ?_;refine LA 1 EH ?_;refine tp (PV.mapNil rfl EH rfl rfl) ?_;refine nx J3 (CN (qx J2 (D2 1 0 df ?_)));refine PD 0 ?_;refine PD 1 ?_;refine FD 2 0 iy Gu ?_;refine LX 3 EH (.map (some m)) ?_ (hc:=by exact rfl);refine PD 4 ?_;refine ta 5 rfl (aN (vs:=dX b) rfl sP rfl lW rfl (λ_ h=>h.2.2.1) (by rw[bo];exact hb) (by rw[bb,aC (by rw[bo,hb];exact aK _)])) ?_;refine AL 6 ?_;exact TL.mapUpdate (i:=2) (H':=[aj b5 (dX b) 145,aj d [(.map (some m)),wv,(.bool (ar)),(.int .i64 (lf)),(.bool (dn))] 111,lN m (uC (oW s at' b))]) (ab rfl) rfl rfl EH Y3 rfl rfl rfl rfl rfl (congrArg (λq=>List.set _ 2 (lN m q)) (Ko _ _ _)) (EN (DN (WK [1,1] (bC rfl rfl))))
theorem zc(d m:Nat)(wv:Value)(ws:gj)(ar dn:Bool)(lf at':Int)(x:Value)(bs:List UInt8)(hl:0≤lf∧lf≤9223372036854775807)(hw:ws.length≤1000000000):
 DT 86 #[(.pointer (some ⟨d,0,none⟩)),(.int .i64 (at')),x] (IsW x bs) [aj d [(.map (some m)),wv,(.bool (ar)),(.int .i64 (lf)),(.bool (dn))] 111,own wv (ws.length) (ee ws) 147 65] (dG (λv H=>if at'<0∨2048≤at'∨64<bs.length then v= .int .i64 5∧H=[aj d [(.map (some m)),wv,(.bool (ar)),(.int .i64 (lf)),(.bool (dn))] 111,own wv (ws.length) (ee ws) 147 65]else if dn=true∨(ar=true∧lf=0)then v= .int .i64 4∧H=[aj d [(.map (some m)),wv,(.bool (ar)),(.int .i64 (lf)),(.bool true)] 111,own wv (ws.length) (ee ws) 147 65]else v= .int .i64 0∧∃wv',H=[aj d [(.map (some m)),wv',(.bool (ar)),(.int .i64 ((if ar=true then lf-1 else lf))),(.bool false)] 111,own wv' ((ws++[(at',eY bs)]).length) (ee (ws++[(at',eY bs)])) 147 65])):=by
 refine BD 64 Tryz.func86 rfl rfl rfl λw0 F hF=>sr λ_ J1=>PS ?_
 refine nx J1 (aa λ_ J2=>sr λ_ J3=>P2 ?_);refine ap ?_ ?_<;>intro h9;refine PS ?_;refine UT ?_;refine UT ?_;refine P2 ?_
 iterate 3 refine UT ?_
 refine PS ?_;refine nx J3 (CY (sr λ_ J4=>PS ?_));refine nx J4 (ah (ae (WK [0,0] (aw rfl rfl ?_))));show(if _ then _ else _)
 first
  | (rw[if_pos (by omega)];exact⟨rfl,rfl⟩)
  | (rw[if_neg (by omega),if_pos (by simp_all)];exact⟨rfl,by simp_all<;>rfl⟩)
  | (rw[if_neg (by omega),if_neg (by simp_all)];exact⟨rfl,v61,by simp_all<;>rfl⟩)
 refine P3 ?_;refine ap ?_ ?_<;>intro h12;refine P2 ?_
 iterate 3 refine UT ?_
 refine PS ?_;refine nx J3 (CY (sr λ_ J5=>PS ?_));refine nx J5 (ah (ae (WK [0,0] (aw rfl rfl ?_))));show(if _ then _ else _)
 first
  | (rw[if_pos (by omega)];exact⟨rfl,rfl⟩)
  | (rw[if_neg (by omega),if_pos (by simp_all)];exact⟨rfl,by simp_all<;>rfl⟩)
  | (rw[if_neg (by omega),if_neg (by simp_all)];exact⟨rfl,v61,by simp_all<;>rfl⟩)
 refine P3 ?_;refine tq (dO rfl fO rfl hF.len) ?_;refine PS ?_;refine ap ?_ ?_<;>intro h17;refine PS ?_;refine nx J3 (CY (sr λ_ J6=>PS ?_));refine nx J6 (ah (ae (WK [0,0] (aw rfl rfl ?_))));show(if _ then _ else _)
 first
  | (rw[if_pos (by omega)];exact⟨rfl,rfl⟩)
  | (rw[if_neg (by omega),if_pos (by simp_all)];exact⟨rfl,by simp_all<;>rfl⟩)
  | (rw[if_neg (by omega),if_neg (by simp_all)];exact⟨rfl,v61,by simp_all<;>rfl⟩)
 refine PS ?_;refine nx J3 (CN (qx J2 (aa λ_ J7=>sr λ_ J8=>P2 ?_)));refine FA 2 iy lT ?_;refine LA 0 Y4 ?_;refine bg ?_ ?_<;>intro h22;refine P3 ?_;refine FA 3 iy aO ?_;refine LA 0 Y3 ?_;refine PS ?_;refine ap ?_ ?_<;>intro h28;refine PS ?_;refine nx J8 (CY (ac (P2 ?_)));refine FA 4 iy lT ?_;refine S0 0 lT ?_;refine nx J7 (aa λ_ J9=>sr λ_ J10=>P2 ?_);refine FA 4 iy lT ?_;refine LA 0 Y4 ?_;refine nx J10 (CY (sr λ_ J11=>PS ?_));refine nx J11 (ah (ae (WK [0,0] (aw rfl rfl ?_))));show(if _ then _ else _)
 first
  | (rw[if_pos (by omega)];exact⟨rfl,rfl⟩)
  | (rw[if_neg (by omega),if_pos (by simp_all)];exact⟨rfl,by simp_all<;>rfl⟩)
  | (rw[if_neg (by omega),if_neg (by simp_all)];exact⟨rfl,v61,by simp_all<;>rfl⟩)
 refine PS ?_;refine nx J8 (CN (qx J7 (aa λ_ J12=>sr λ_ J13=>P2 ?_)));refine FA 4 iy lT ?_;refine LA 0 Y4 ?_;refine bg ?_ ?_<;>intro h36;refine nx J13 (CY (sr λ_ J14=>PS ?_));refine nx J14 (ah (ae (WK [0,0] (aw rfl rfl ?_))));show(if _ then _ else _)
 first
  | (rw[if_pos (by omega)];exact⟨rfl,rfl⟩)
  | (rw[if_neg (by omega),if_pos (by simp_all)];exact⟨rfl,by simp_all<;>rfl⟩)
  | (rw[if_neg (by omega),if_neg (by simp_all)];exact⟨rfl,v61,by simp_all<;>rfl⟩)
 refine nx J13 (CN (qx J12 (aa λ_ J15=>sr λ_ J16=>P2 ?_)));refine FA 2 iy lT ?_;refine LA 0 Y4 ?_;refine bg ?_ ?_<;>intro h40;refine nx J16 (CY (ac (P2 ?_)));refine FA 3 iy aO ?_;refine LA 0 Y3 ?_;refine tp (iE rfl rfl rfl (bH (by omega) (by omega))) ?_;refine PS ?_;refine FA 3 iy aO ?_;refine S0 0 aO ?_;refine nx J15 (sr λ_ J17=>PS ?_);refine BV (((.int .i64 (at'))::List.replicate 64 (.int .u8 0)).toArray) ?_;refine XA Hg λb7=>?_
 refine bW (vs:=((.int .i64 (at'))::List.replicate 64 (.int .u8 0))) (i:=0) (ab rfl) rfl rfl rfl rfl rfl m9 (by simp[Value.oneCell']) rfl rfl (Ls rfl) rfl rfl (nx J17 (sr λ_ J18=>FA 1 pS lW ?_));refine tp (oE rfl sP kx rfl) ?_;refine PS ?_;refine Ox (i:=0) (m:=bs.length) (news:=(dX bs)) (H':=[aj b7 (dr (at',eY bs)) 147,aj d [(.map (some m)),wv,(.bool (ar)),(.int .i64 (lf-1)),(.bool (dn))] 111,own wv (ws.length) (ee ws) 147 65]) (ab rfl) rfl rfl rfl fO kx rfl rfl rfl rfl (λ_ _=>hF.src (λ_ h=>fD h)) (ff _) (by show 1+min bs.length 64≤65;omega) (AU (by omega)) rfl (nx J18 (aa λ_ J19=>D1 0 df ?_));refine PD 0 ?_;refine PD 1 ?_;refine PD 2 ?_;refine FD 3 1 iy ij ?_;refine ta 5 rfl (aN (vs:=dr (at',eY bs)) rfl pS rfl m9 rfl (λ_ h=>h.2.1) (cB (dT (by omega))) (by rw[bb,aC (by rw[(cB (dT (by omega)))];exact aK _)])) ?_;refine db [4,6] (by kernel_rfl) rfl (aF rfl ?_ ?_);refine LA 1 jy ?_;refine EN (AL 6 ?_);refine aM (cells:=(dr (at',eY bs)).toArray) (ab rfl) rfl rfl rfl jy nb rfl rfl rfl (kc (cB (dT (by omega))) (by simp)) (λb60=>?_);change TL _ _ _ _ _ _ _ _ _ [aj b60 (dr (at',eY bs)) 147,aj b7 (dr (at',eY bs)) 147,aj d [(.map (some m)),wv,(.bool (ar)),(.int .i64 (lf-1)),(.bool (dn))] 111,own wv (ws.length) (ee ws) 147 65];refine EN (AL 7 ?_)
 refine bX (k:=3) (news:=dr (at',eY bs)) (nn':=(ws++[(at',eY bs)]).length) (xs':=ee (ws++[(at',eY bs)])) (ab rfl) rfl rfl rfl jy nb rfl rfl rfl rfl rfl rfl (λ_ _=>gn (cB (dT (by omega))) (RO 0) (by rw[bb,aC (aK _)])) (jo _) (by simp only[maxLen];omega) (by omega) (by simp) (by simp[ee]) (λv61 ov61=>EN (PD 8 ?_));refine FD 9 1 iy ij ?_;refine AL 10 ?_;refine bK (i:=2) (ab rfl) rfl rfl rfl rfl ov61 ij rfl rfl (lb rfl) rfl rfl (EN (DN (ad J19 (sr λ_ J20=>PS ?_))));refine nx J20 (ah (WK [2,2] (aw rfl rfl ?_)));show(if _ then _ else _)
 first
  | (rw[if_pos (by omega)];exact⟨rfl,rfl⟩)
  | (rw[if_neg (by omega),if_pos (by simp_all)];exact⟨rfl,by simp_all<;>rfl⟩)
  | (rw[if_neg (by omega),if_neg (by simp_all)];exact⟨rfl,v61,by simp_all<;>rfl⟩)
 refine aF rfl ?_ ?_;refine aM (cells:=(dr (at',eY bs)).toArray) (ab rfl) rfl rfl rfl jy nb rfl rfl rfl (kc (cB (dT (by omega))) (by simp)) (λb60=>?_);change TL _ _ _ _ _ _ _ _ _ [aj b60 (dr (at',eY bs)) 147,aj b7 (dr (at',eY bs)) 147,aj d [(.map (some m)),wv,(.bool (ar)),(.int .i64 (lf-1)),(.bool (dn))] 111,own wv (ws.length) (ee ws) 147 65];refine EN (AL 4 ?_);refine LA 2 jy ?_;refine EN (AL 7 ?_);refine bX (k:=3) (news:=dr (at',eY bs)) (nn':=(ws++[(at',eY bs)]).length) (xs':=ee (ws++[(at',eY bs)])) (ab rfl) rfl rfl rfl jy nb rfl rfl rfl rfl rfl rfl (λ_ _=>gn (cB (dT (by omega))) (RO 0) (by rw[bb,aC (aK _)])) (jo _) (by simp only[maxLen];omega) (by omega) (by simp) (by simp[ee]) (λv61 ov61=>EN (PD 8 ?_));refine FD 9 1 iy ij ?_;refine AL 10 ?_;refine bK (i:=2) (ab rfl) rfl rfl rfl rfl ov61 ij rfl rfl (lb rfl) rfl rfl (EN (DN (ad J19 (sr λ_ J21=>PS ?_))));refine nx J21 (ah (WK [2,2] (aw rfl rfl ?_)));show(if _ then _ else _)
 first
  | (rw[if_pos (by omega)];exact⟨rfl,rfl⟩)
  | (rw[if_neg (by omega),if_pos (by simp_all)];exact⟨rfl,by simp_all<;>rfl⟩)
  | (rw[if_neg (by omega),if_neg (by simp_all)];exact⟨rfl,v61,by simp_all<;>rfl⟩)
 exact bP;refine nx J16 (CN (qx J15 (sr λ_ J22=>PS ?_)));refine BV (((.int .i64 (at'))::List.replicate 64 (.int .u8 0)).toArray) ?_;refine XA Hg λb7=>?_
 refine bW (vs:=((.int .i64 (at'))::List.replicate 64 (.int .u8 0))) (i:=0) (ab rfl) rfl rfl rfl rfl rfl m9 (by simp[Value.oneCell']) rfl rfl (Ls rfl) rfl rfl (nx J22 (sr λ_ J23=>FA 1 pS lW ?_));refine tp (oE rfl sP kx rfl) ?_;refine PS ?_;refine Ox (i:=0) (m:=bs.length) (news:=(dX bs)) (H':=[aj b7 (dr (at',eY bs)) 147,aj d [(.map (some m)),wv,(.bool (ar)),(.int .i64 (lf)),(.bool (dn))] 111,own wv (ws.length) (ee ws) 147 65]) (ab rfl) rfl rfl rfl fO kx rfl rfl rfl rfl (λ_ _=>hF.src (λ_ h=>fD h)) (ff _) (by show 1+min bs.length 64≤65;omega) (AU (by omega)) rfl (nx J23 (aa λ_ J24=>D1 0 df ?_));refine PD 0 ?_;refine PD 1 ?_;refine PD 2 ?_;refine FD 3 1 iy ij ?_;refine ta 5 rfl (aN (vs:=dr (at',eY bs)) rfl pS rfl m9 rfl (λ_ h=>h.2.1) (cB (dT (by omega))) (by rw[bb,aC (by rw[(cB (dT (by omega)))];exact aK _)])) ?_;refine db [4,6] (by kernel_rfl) rfl (aF rfl ?_ ?_);refine LA 1 jy ?_;refine EN (AL 6 ?_);refine aM (cells:=(dr (at',eY bs)).toArray) (ab rfl) rfl rfl rfl jy nb rfl rfl rfl (kc (cB (dT (by omega))) (by simp)) (λb60=>?_);change TL _ _ _ _ _ _ _ _ _ [aj b60 (dr (at',eY bs)) 147,aj b7 (dr (at',eY bs)) 147,aj d [(.map (some m)),wv,(.bool (ar)),(.int .i64 (lf)),(.bool (dn))] 111,own wv (ws.length) (ee ws) 147 65];refine EN (AL 7 ?_)
 refine bX (k:=3) (news:=dr (at',eY bs)) (nn':=(ws++[(at',eY bs)]).length) (xs':=ee (ws++[(at',eY bs)])) (ab rfl) rfl rfl rfl jy nb rfl rfl rfl rfl rfl rfl (λ_ _=>gn (cB (dT (by omega))) (RO 0) (by rw[bb,aC (aK _)])) (jo _) (by simp only[maxLen];omega) (by omega) (by simp) (by simp[ee]) (λv61 ov61=>EN (PD 8 ?_));refine FD 9 1 iy ij ?_;refine AL 10 ?_;refine bK (i:=2) (ab rfl) rfl rfl rfl rfl ov61 ij rfl rfl (lb rfl) rfl rfl (EN (DN (ad J24 (sr λ_ J25=>PS ?_))));refine nx J25 (ah (WK [2,2] (aw rfl rfl ?_)));show(if _ then _ else _)
 first
  | (rw[if_pos (by omega)];exact⟨rfl,rfl⟩)
  | (rw[if_neg (by omega),if_pos (by simp_all)];exact⟨rfl,by simp_all<;>rfl⟩)
  | (rw[if_neg (by omega),if_neg (by simp_all)];exact⟨rfl,v61,by simp_all<;>rfl⟩)
 refine aF rfl ?_ ?_;refine aM (cells:=(dr (at',eY bs)).toArray) (ab rfl) rfl rfl rfl jy nb rfl rfl rfl (kc (cB (dT (by omega))) (by simp)) (λb60=>?_);change TL _ _ _ _ _ _ _ _ _ [aj b60 (dr (at',eY bs)) 147,aj b7 (dr (at',eY bs)) 147,aj d [(.map (some m)),wv,(.bool (ar)),(.int .i64 (lf)),(.bool (dn))] 111,own wv (ws.length) (ee ws) 147 65];refine EN (AL 4 ?_);refine LA 2 jy ?_;refine EN (AL 7 ?_);refine bX (k:=3) (news:=dr (at',eY bs)) (nn':=(ws++[(at',eY bs)]).length) (xs':=ee (ws++[(at',eY bs)])) (ab rfl) rfl rfl rfl jy nb rfl rfl rfl rfl rfl rfl (λ_ _=>gn (cB (dT (by omega))) (RO 0) (by rw[bb,aC (aK _)])) (jo _) (by simp only[maxLen];omega) (by omega) (by simp) (by simp[ee]) (λv61 ov61=>EN (PD 8 ?_));refine FD 9 1 iy ij ?_;refine AL 10 ?_;refine bK (i:=2) (ab rfl) rfl rfl rfl rfl ov61 ij rfl rfl (lb rfl) rfl rfl (EN (DN (ad J24 (sr λ_ J26=>PS ?_))));refine nx J26 (ah (WK [2,2] (aw rfl rfl ?_)));show(if _ then _ else _)
 first
  | (rw[if_pos (by omega)];exact⟨rfl,rfl⟩)
  | (rw[if_neg (by omega),if_pos (by simp_all)];exact⟨rfl,by simp_all<;>rfl⟩)
  | (rw[if_neg (by omega),if_neg (by simp_all)];exact⟨rfl,v61,by simp_all<;>rfl⟩)
 exact bP;refine PS ?_
 iterate 5 refine UF ?_
 refine PS ?_;refine nx J8 (CN (qx J7 (aa λ_ J27=>sr λ_ J28=>P2 ?_)));refine FA 4 iy lT ?_;refine LA 0 Y4 ?_;refine bg ?_ ?_<;>intro h36;refine nx J28 (CY (sr λ_ J29=>PS ?_));refine nx J29 (ah (ae (WK [0,0] (aw rfl rfl ?_))));show(if _ then _ else _)
 first
  | (rw[if_pos (by omega)];exact⟨rfl,rfl⟩)
  | (rw[if_neg (by omega),if_pos (by simp_all)];exact⟨rfl,by simp_all<;>rfl⟩)
  | (rw[if_neg (by omega),if_neg (by simp_all)];exact⟨rfl,v61,by simp_all<;>rfl⟩)
 refine nx J28 (CN (qx J27 (aa λ_ J30=>sr λ_ J31=>P2 ?_)));refine FA 2 iy lT ?_;refine LA 0 Y4 ?_;refine bg ?_ ?_<;>intro h40;refine nx J31 (CY (ac (P2 ?_)));refine FA 3 iy aO ?_;refine LA 0 Y3 ?_;refine tp (iE rfl rfl rfl (bH (by omega) (by omega))) ?_;refine PS ?_;refine FA 3 iy aO ?_;refine S0 0 aO ?_;refine nx J30 (sr λ_ J32=>PS ?_);refine BV (((.int .i64 (at'))::List.replicate 64 (.int .u8 0)).toArray) ?_;refine XA Hg λb7=>?_
 refine bW (vs:=((.int .i64 (at'))::List.replicate 64 (.int .u8 0))) (i:=0) (ab rfl) rfl rfl rfl rfl rfl m9 (by simp[Value.oneCell']) rfl rfl (Ls rfl) rfl rfl (nx J32 (sr λ_ J33=>FA 1 pS lW ?_));refine tp (oE rfl sP kx rfl) ?_;refine PS ?_;refine Ox (i:=0) (m:=bs.length) (news:=(dX bs)) (H':=[aj b7 (dr (at',eY bs)) 147,aj d [(.map (some m)),wv,(.bool (ar)),(.int .i64 (lf-1)),(.bool (dn))] 111,own wv (ws.length) (ee ws) 147 65]) (ab rfl) rfl rfl rfl fO kx rfl rfl rfl rfl (λ_ _=>hF.src (λ_ h=>fD h)) (ff _) (by show 1+min bs.length 64≤65;omega) (AU (by omega)) rfl (nx J33 (aa λ_ J34=>D1 0 df ?_));refine PD 0 ?_;refine PD 1 ?_;refine PD 2 ?_;refine FD 3 1 iy ij ?_;refine ta 5 rfl (aN (vs:=dr (at',eY bs)) rfl pS rfl m9 rfl (λ_ h=>h.2.1) (cB (dT (by omega))) (by rw[bb,aC (by rw[(cB (dT (by omega)))];exact aK _)])) ?_;refine db [4,6] (by kernel_rfl) rfl (aF rfl ?_ ?_);refine LA 1 jy ?_;refine EN (AL 6 ?_);refine aM (cells:=(dr (at',eY bs)).toArray) (ab rfl) rfl rfl rfl jy nb rfl rfl rfl (kc (cB (dT (by omega))) (by simp)) (λb60=>?_);change TL _ _ _ _ _ _ _ _ _ [aj b60 (dr (at',eY bs)) 147,aj b7 (dr (at',eY bs)) 147,aj d [(.map (some m)),wv,(.bool (ar)),(.int .i64 (lf-1)),(.bool (dn))] 111,own wv (ws.length) (ee ws) 147 65];refine EN (AL 7 ?_)
 refine bX (k:=3) (news:=dr (at',eY bs)) (nn':=(ws++[(at',eY bs)]).length) (xs':=ee (ws++[(at',eY bs)])) (ab rfl) rfl rfl rfl jy nb rfl rfl rfl rfl rfl rfl (λ_ _=>gn (cB (dT (by omega))) (RO 0) (by rw[bb,aC (aK _)])) (jo _) (by simp only[maxLen];omega) (by omega) (by simp) (by simp[ee]) (λv61 ov61=>EN (PD 8 ?_));refine FD 9 1 iy ij ?_;refine AL 10 ?_;refine bK (i:=2) (ab rfl) rfl rfl rfl rfl ov61 ij rfl rfl (lb rfl) rfl rfl (EN (DN (ad J34 (sr λ_ J35=>PS ?_))));refine nx J35 (ah (WK [2,2] (aw rfl rfl ?_)));show(if _ then _ else _)
 first
  | (rw[if_pos (by omega)];exact⟨rfl,rfl⟩)
  | (rw[if_neg (by omega),if_pos (by simp_all)];exact⟨rfl,by simp_all<;>rfl⟩)
  | (rw[if_neg (by omega),if_neg (by simp_all)];exact⟨rfl,v61,by simp_all<;>rfl⟩)
 refine aF rfl ?_ ?_;refine aM (cells:=(dr (at',eY bs)).toArray) (ab rfl) rfl rfl rfl jy nb rfl rfl rfl (kc (cB (dT (by omega))) (by simp)) (λb60=>?_);change TL _ _ _ _ _ _ _ _ _ [aj b60 (dr (at',eY bs)) 147,aj b7 (dr (at',eY bs)) 147,aj d [(.map (some m)),wv,(.bool (ar)),(.int .i64 (lf-1)),(.bool (dn))] 111,own wv (ws.length) (ee ws) 147 65];refine EN (AL 4 ?_);refine LA 2 jy ?_;refine EN (AL 7 ?_);refine bX (k:=3) (news:=dr (at',eY bs)) (nn':=(ws++[(at',eY bs)]).length) (xs':=ee (ws++[(at',eY bs)])) (ab rfl) rfl rfl rfl jy nb rfl rfl rfl rfl rfl rfl (λ_ _=>gn (cB (dT (by omega))) (RO 0) (by rw[bb,aC (aK _)])) (jo _) (by simp only[maxLen];omega) (by omega) (by simp) (by simp[ee]) (λv61 ov61=>EN (PD 8 ?_));refine FD 9 1 iy ij ?_;refine AL 10 ?_;refine bK (i:=2) (ab rfl) rfl rfl rfl rfl ov61 ij rfl rfl (lb rfl) rfl rfl (EN (DN (ad J34 (sr λ_ J36=>PS ?_))));refine nx J36 (ah (WK [2,2] (aw rfl rfl ?_)));show(if _ then _ else _)
 first
  | (rw[if_pos (by omega)];exact⟨rfl,rfl⟩)
  | (rw[if_neg (by omega),if_pos (by simp_all)];exact⟨rfl,by simp_all<;>rfl⟩)
  | (rw[if_neg (by omega),if_neg (by simp_all)];exact⟨rfl,v61,by simp_all<;>rfl⟩)
 exact bP;refine nx J31 (CN (qx J30 (sr λ_ J37=>PS ?_)));refine BV (((.int .i64 (at'))::List.replicate 64 (.int .u8 0)).toArray) ?_;refine XA Hg λb7=>?_
 refine bW (vs:=((.int .i64 (at'))::List.replicate 64 (.int .u8 0))) (i:=0) (ab rfl) rfl rfl rfl rfl rfl m9 (by simp[Value.oneCell']) rfl rfl (Ls rfl) rfl rfl (nx J37 (sr λ_ J38=>FA 1 pS lW ?_));refine tp (oE rfl sP kx rfl) ?_;refine PS ?_;refine Ox (i:=0) (m:=bs.length) (news:=(dX bs)) (H':=[aj b7 (dr (at',eY bs)) 147,aj d [(.map (some m)),wv,(.bool (ar)),(.int .i64 (lf)),(.bool (dn))] 111,own wv (ws.length) (ee ws) 147 65]) (ab rfl) rfl rfl rfl fO kx rfl rfl rfl rfl (λ_ _=>hF.src (λ_ h=>fD h)) (ff _) (by show 1+min bs.length 64≤65;omega) (AU (by omega)) rfl (nx J38 (aa λ_ J39=>D1 0 df ?_));refine PD 0 ?_;refine PD 1 ?_;refine PD 2 ?_;refine FD 3 1 iy ij ?_;refine ta 5 rfl (aN (vs:=dr (at',eY bs)) rfl pS rfl m9 rfl (λ_ h=>h.2.1) (cB (dT (by omega))) (by rw[bb,aC (by rw[(cB (dT (by omega)))];exact aK _)])) ?_;refine db [4,6] (by kernel_rfl) rfl (aF rfl ?_ ?_);refine LA 1 jy ?_;refine EN (AL 6 ?_);refine aM (cells:=(dr (at',eY bs)).toArray) (ab rfl) rfl rfl rfl jy nb rfl rfl rfl (kc (cB (dT (by omega))) (by simp)) (λb60=>?_);change TL _ _ _ _ _ _ _ _ _ [aj b60 (dr (at',eY bs)) 147,aj b7 (dr (at',eY bs)) 147,aj d [(.map (some m)),wv,(.bool (ar)),(.int .i64 (lf)),(.bool (dn))] 111,own wv (ws.length) (ee ws) 147 65];refine EN (AL 7 ?_)
 refine bX (k:=3) (news:=dr (at',eY bs)) (nn':=(ws++[(at',eY bs)]).length) (xs':=ee (ws++[(at',eY bs)])) (ab rfl) rfl rfl rfl jy nb rfl rfl rfl rfl rfl rfl (λ_ _=>gn (cB (dT (by omega))) (RO 0) (by rw[bb,aC (aK _)])) (jo _) (by simp only[maxLen];omega) (by omega) (by simp) (by simp[ee]) (λv61 ov61=>EN (PD 8 ?_));refine FD 9 1 iy ij ?_;refine AL 10 ?_;refine bK (i:=2) (ab rfl) rfl rfl rfl rfl ov61 ij rfl rfl (lb rfl) rfl rfl (EN (DN (ad J39 (sr λ_ J40=>PS ?_))));refine nx J40 (ah (WK [2,2] (aw rfl rfl ?_)));show(if _ then _ else _)
 first
  | (rw[if_pos (by omega)];exact⟨rfl,rfl⟩)
  | (rw[if_neg (by omega),if_pos (by simp_all)];exact⟨rfl,by simp_all<;>rfl⟩)
  | (rw[if_neg (by omega),if_neg (by simp_all)];exact⟨rfl,v61,by simp_all<;>rfl⟩)
 refine aF rfl ?_ ?_;refine aM (cells:=(dr (at',eY bs)).toArray) (ab rfl) rfl rfl rfl jy nb rfl rfl rfl (kc (cB (dT (by omega))) (by simp)) (λb60=>?_);change TL _ _ _ _ _ _ _ _ _ [aj b60 (dr (at',eY bs)) 147,aj b7 (dr (at',eY bs)) 147,aj d [(.map (some m)),wv,(.bool (ar)),(.int .i64 (lf)),(.bool (dn))] 111,own wv (ws.length) (ee ws) 147 65];refine EN (AL 4 ?_);refine LA 2 jy ?_;refine EN (AL 7 ?_);refine bX (k:=3) (news:=dr (at',eY bs)) (nn':=(ws++[(at',eY bs)]).length) (xs':=ee (ws++[(at',eY bs)])) (ab rfl) rfl rfl rfl jy nb rfl rfl rfl rfl rfl rfl (λ_ _=>gn (cB (dT (by omega))) (RO 0) (by rw[bb,aC (aK _)])) (jo _) (by simp only[maxLen];omega) (by omega) (by simp) (by simp[ee]) (λv61 ov61=>EN (PD 8 ?_));refine FD 9 1 iy ij ?_;refine AL 10 ?_;refine bK (i:=2) (ab rfl) rfl rfl rfl rfl ov61 ij rfl rfl (lb rfl) rfl rfl (EN (DN (ad J39 (sr λ_ J41=>PS ?_))));refine nx J41 (ah (WK [2,2] (aw rfl rfl ?_)));show(if _ then _ else _)
 first
  | (rw[if_pos (by omega)];exact⟨rfl,rfl⟩)
  | (rw[if_neg (by omega),if_pos (by simp_all)];exact⟨rfl,by simp_all<;>rfl⟩)
  | (rw[if_neg (by omega),if_neg (by simp_all)];exact⟨rfl,v61,by simp_all<;>rfl⟩)
 exact bP
theorem vl(d m:Nat)(wv:Value)(ar:Bool)(lf:Int):
 DT 87 #[(.pointer (some ⟨d,0,none⟩))] T0 [aj d [(.map (some m)),wv,(.bool (ar)),(.int .i64 (lf)),(.bool true)] 111] (RI (.int .i64 4) [aj d [(.map (some m)),wv,(.bool (ar)),(.int .i64 (lf)),(.bool true)] 111]):=by
 refine BD 28 Tryz.func87 rfl rfl rfl λw0 F hF=>sr λ_ J1=>PS ?_
 refine nx J1 (aa λ_ J2=>sr λ_ J3=>P2 ?_);refine FA 4 iy lT ?_;refine LA 0 Y4 ?_;refine nx J3 (CY (sr λ_ J4=>PS ?_));exact nx J4 (ah (ae (WK [0] (aw rfl rfl ⟨rfl,rfl⟩))))
theorem yr(d m:Nat)(wv:Value)(s ws:gj)(ar:Bool)(lf:Int)(hw:Whole ws):
 DT 87 #[(.pointer (some ⟨d,0,none⟩))] T0 [aj d [(.map (some m)),wv,(.bool (ar)),(.int .i64 (lf)),(.bool false)] 111,lN m (uC s),own wv (ws.length) (ee ws) 147 65] (RI (.int .i64 0) [aj d [(.map (some m)),(.slice none 0 0),(.bool (ar)),(.int .i64 (lf)),(.bool false)] 111,lN m (uC (DZ s ws ws.length)),own (.slice none 0 0) 0 [] 147 65]):=by
 refine BD 28 Tryz.func87 rfl rfl rfl λw0 F hF=>sr λ_ J1=>je 2 rfl rfl (λhwl _=>PS ?_)
 refine nx J1 (aa λ_ J2=>sr λ_ J3=>P2 ?_);refine FA 4 iy lT ?_;refine LA 0 Y4 ?_;refine nx J3 (CN (qx J2 (aa λ_ J4=>sr λ_ J5=>P2 ?_)));refine FA 1 iy ij ?_;refine LA 0 jy ?_;refine tp (dO rfl jy rfl hwl) ?_;refine PS ?_;refine nx J5 (am ?_)
 refine bG (α:=(Nat)×(gj)) (λ⟨k,s'⟩=>k≤ws.length∧s'=DZ s ws k) (λ⟨k,s'⟩=>[(0,(.pointer (some ⟨d,0,none⟩))),(2,(.int .i64 0)),(12,wv),(13,(.int .i64 (((ws.length:Nat):Int)))),(14,(.int .i64 (((k:Nat):Int))))]) (λ⟨k,s'⟩=>[aj d [(.map (some m)),wv,(.bool (ar)),(.int .i64 (lf)),(.bool false)] 111,lN m (uC s'),own wv (ws.length) (ee ws) 147 65]) (λ⟨k,s'⟩=>ws.length-k) (0,s)
  ⟨aP _,rfl⟩ SB
  (λ_ s=>s) (λ⟨k,s'⟩ hinv=>?_)
 obtain⟨hk,hs'⟩:=hinv;refine sr λ_ J6=>PS ?_
 refine ap ?_ ?_<;>intro h15;refine jV 2 rfl rfl (by omega) (λg cap hv hcap=>nx J6 (aa λ_ J7=>CY (qx J7 (aa λ_ J8=>am (sr λ_ J9=>tp (bn (r:=k*65) hv rfl jy m9 rfl rfl (by omega) (by omega) (by omega)) ?_)))));refine tp (MT (vs:=dr (lq ws k)) rfl pS rfl m9 rfl (gM 2 rfl hv rfl) (cB (ei hw (by omega))) (rk hw (by omega))) ?_;refine XA Hg λb4=>?_
 refine bW (vs:=dr (lq ws k)) (i:=0) (ab rfl) rfl rfl rfl rfl rfl (by rw[cB (ei hw (by omega))];exact m9) (jo _) rfl rfl (by rw[cB (ei hw (by omega))];exact aK _) (jC (Eq.trans (rfl:_=65) (by rw[cB (ei hw (by omega))]:(dr (lq ws k)).length=65).symm)) rfl (nx J9 (ac (PS ?_)));refine FA 0 pS aO ?_;refine LA 0 Y3 ?_;refine FA 1 pS lW ?_;refine tp (aN (vs:=dX (lq ws k).2) rfl sP rfl lW rfl (RO 0) (by rw[bo];exact ei hw (by omega)) (wY (ei hw (by omega)))) ?_;refine CR NP (pM d m wv s' ar false lf ((lq ws k).1) (lq ws k).2 (by exact ei hw (by omega))) (SM [1,1]) λvR HR hR=>?_
 subst hR;refine au (af (ad J8 (ac (AD ?_))));refine PS ?_;refine au ?_
 exact aL ((k+1,oW s' (lq ws k).1 (lq ws k).2):(Nat)×(gj)) ⟨by omega,by rw[hs'];rfl⟩ (by show ws.length- (k+1)<ws.length-k;omega)
  SB
  (λ_ s=>ak [0,0,1] rfl s)
 refine nx J6 (aa λ_ J10=>CN (aW (aA (aA (bq (ad J4 (sr λ_ J11=>P2 ?_)))))));refine FA 1 iy ij ?_;refine S0 0 ij ?_;refine nx J11 (sr λ_ J12=>PS ?_);refine nx J12 (ah (aE (H':=[aj d [(.map (some m)),(.slice none 0 0),(.bool (ar)),(.int .i64 (lf)),(.bool false)] 111,lN m (uC s'),own (.slice none 0 0) 0 [] 147 65]) (dN _) (λ_ s=>eO (List.Perm.trans (List.Perm.swap _ _ _) (List.Perm.cons _ (List.Perm.swap _ _ _))) (gf 147 65 (ak [0,0] rfl s))) (aw rfl rfl ?_)));obtain rfl:k=ws.length:=by omega
 subst hs';exact⟨rfl,rfl⟩
theorem BU(d m:Nat)(wv:Value)(s ws:gj)(ar dn:Bool)(lf at':Int)(hs2:Whole s)(hw:Whole ws)(hb:ws.length≤1000000000):
 DT 85 #[(.pointer (some ⟨d,0,none⟩)),(.int .i64 (at'))] T0 [aj d [(.map (some m)),wv,(.bool (ar)),(.int .i64 (lf)),(.bool (dn))] 111,lN m (uC s),own wv (ws.length) (ee ws) 147 65] (RI (HJ (jj s ws at' ws.length)) [aj d [(.map (some m)),wv,(.bool (ar)),(.int .i64 (lf)),(.bool (dn))] 111,lN m (uC s),own wv (ws.length) (ee ws) 147 65]):=by
 refine BD 40 Tryz.func85 rfl rfl rfl λw0 F hF=>sr λ_ J1=>je 2 rfl rfl (λhwl _=>XA Lv λb4=>?_)
 refine nx J1 (aa λ_ J2=>sr λ_ J3=>P2 ?_);refine FA 1 iy ij ?_;refine LA 1 jy ?_;refine tp (dO rfl jy rfl hwl) ?_;refine tp (iE rfl rfl rfl (bH (by omega) (by omega))) ?_;refine PS ?_;refine nx J3 (am ?_)
 refine bG (α:=(Int)) (λp=> -1≤p∧p<ws.length∧jj s ws at' (p+1).toNat=jj s ws at' ws.length) (λp=>[(0,(.pointer (some ⟨d,0,none⟩))),(1,(.int .i64 (at'))),(4,(.pointer (some ⟨b4,0,none⟩))),(5,(.int .i64 (p)))]) (λp=>[aj b4 [(.int .u8 0),(.int .u8 0),(.int .u8 0),(.int .u8 0),(.int .u8 0),(.int .u8 0),(.int .u8 0),(.int .u8 0),(.int .u8 0),(.int .u8 0),(.int .u8 0),(.int .u8 0),(.int .u8 0),(.int .u8 0),(.int .u8 0),(.int .u8 0),(.int .u8 0),(.int .u8 0),(.int .u8 0),(.int .u8 0),(.int .u8 0),(.int .u8 0),(.int .u8 0),(.int .u8 0),(.int .u8 0),(.int .u8 0),(.int .u8 0),(.int .u8 0),(.int .u8 0),(.int .u8 0),(.int .u8 0),(.int .u8 0),(.int .u8 0),(.int .u8 0),(.int .u8 0),(.int .u8 0),(.int .u8 0),(.int .u8 0),(.int .u8 0),(.int .u8 0),(.int .u8 0),(.int .u8 0),(.int .u8 0),(.int .u8 0),(.int .u8 0),(.int .u8 0),(.int .u8 0),(.int .u8 0),(.int .u8 0),(.int .u8 0),(.int .u8 0),(.int .u8 0),(.int .u8 0),(.int .u8 0),(.int .u8 0),(.int .u8 0),(.int .u8 0),(.int .u8 0),(.int .u8 0),(.int .u8 0),(.int .u8 0),(.int .u8 0),(.int .u8 0),(.int .u8 0)] 145,aj d [(.map (some m)),wv,(.bool (ar)),(.int .i64 (lf)),(.bool (dn))] 111,lN m (uC s),own wv (ws.length) (ee ws) 147 65]) (λp=>(p+1).toNat) (((ws.length:Nat):Int)-1)
  ⟨by omega,by omega,by congr 1;omega⟩ SB
  (λ_ s=>s) (λp hinv=>?_)
 obtain⟨hp1,hp2,hp3⟩:=hinv;refine aa λ_ J4=>sr λ_ J5=>P2 ?_
 refine ap ?_ ?_<;>intro h13;refine jV 3 rfl rfl (by omega) (λg cap hv hcap=>nx J5 (CY (qx J4 (aa λ_ J6=>am (sr λ_ J7=>P2 ?_)))));refine FA 1 iy ij ?_;refine LA 1 jy ?_;refine PS ?_;refine tp (bn (r:=p.toNat*65) hv rfl jy m9 rfl rfl (by omega) (by omega) (by omega)) ?_;refine tp (bc (r:=p.toNat*65) rfl pS rfl aO rfl rfl) ?_;refine tp (cm (v:=(.int .i64 ((lq ws p.toNat).1))) rfl Y3 rfl rfl (gM 3 rfl hv rfl) (Hn hw (by omega))) ?_;refine P2 ?_;refine ap ?_ ?_<;>intro h25;refine nx J7 (CY (sr λ_ J8=>P2 ?_));refine FA 1 iy ij ?_;refine LA 1 jy ?_;refine PS ?_;refine tp (bn (r:=p.toNat*65) hv rfl jy m9 rfl rfl (by omega) (by omega) (by omega)) ?_;refine tp (bc (r:=p.toNat*65+1) rfl pS rfl lW rfl rfl) ?_;refine tp (MT (vs:=dX (lq ws p.toNat).2) rfl sP rfl lW rfl (gM 3 rfl hv rfl) (by rw[bo];exact ei hw (by omega)) (Hk hw (by omega))) ?_;refine bW (vs:=dX (lq ws p.toNat).2) (i:=0) (ab rfl) rfl rfl rfl rfl rfl (by rw[bo,ei hw (by omega)];exact lW) (ff _) rfl rfl (by rw[bo,ei hw (by omega)];exact aK _) (jC (Eq.trans (rfl:_=64) (by rw[bo,ei hw (by omega)]:(dX (lq ws p.toNat).2).length=64).symm)) rfl (nx J8 (ah (aI (ae (ae (aI (ae (RN (H':=[aj d [(.map (some m)),wv,(.bool (ar)),(.int .i64 (lf)),(.bool (dn))] 111,lN m (uC s),own wv (ws.length) (ee ws) 147 65]) rfl rfl sP rfl lW (RO 0) (by rw[bo];exact ei hw (by omega)) (λ_ s=>ak [1,1,1] rfl s) ?_))))))));have e:=HX (s:=s) h25
 rw[show p.toNat+1=(p+1).toNat by omega,hp3]at e;exact⟨by rw[e];rfl,rfl⟩;refine nx J7 (CN (aR (af (ad J6 (ac (PS ?_))))));refine tp (iE rfl rfl rfl (bH (by omega) (by omega))) ?_;refine PS ?_;refine au ?_
 exact aL ((p-1):(Int)) ⟨by omega,by omega,by rw[←hp3,show(p+1).toNat=p.toNat+1 by omega,Ft h25];congr 1;omega⟩ (by show(p-1+1).toNat< (p+1).toNat;omega)
  SB
  (λ_ s=>s)
 refine nx J5 (CN (aW (aA (aA (bq (ad J2 (sr λ_ J9=>P2 ?_)))))));refine FA 0 iy Gu ?_;refine LA 1 EH ?_;refine PS ?_;refine tp (PV.lookup rfl EH Y3 Lv rfl rfl (RdM.own 2 rfl rfl) (D4 _ _)) ?_;refine bW (vs:=dX (kY s at')) (i:=0) (ab rfl) rfl rfl rfl rfl rfl (by rw[bo,fG hs2];exact lW) (ff _) rfl rfl (by rw[bo,fG hs2];exact aK _) (jC (Eq.trans (rfl:_=64) (by rw[bo,fG hs2]:(dX (kY s at')).length=64).symm)) rfl (nx J9 (ah (RN (H':=[aj d [(.map (some m)),wv,(.bool (ar)),(.int .i64 (lf)),(.bool (dn))] 111,lN m (uC s),own wv (ws.length) (ee ws) 147 65]) rfl rfl sP rfl lW (RO 0) (by rw[bo];exact fG hs2 _) (λ_ s=>ak [1,1,1] rfl s) ?_)));rw[show(p+1).toNat=0 by omega]at hp3;exact⟨by rw[←hp3];rfl,rfl⟩
theorem zd(d m:Nat)(wv:Value)(s ws:gj)(ar dn:Bool)(lf mask torn n:Int)(hs1:Whole s)(hw:Whole ws):
 DT 28 #[(.pointer (some ⟨d,0,none⟩)),(.int .i64 (mask)),(.int .i64 (torn)),(.int .i64 (n))] T0 [aj d [(.map (some m)),wv,(.bool (ar)),(.int .i64 (lf)),(.bool (dn))] 111,lN m (uC s),own wv (ws.length) (ee ws) 147 65] (dG (λ_ H=>H=[aj d [(.map (some m)),(.slice none 0 0),(.bool false),(.int .i64 0),(.bool false)] 111,lN m (uC (n4 mask torn (qT n) s ws ws.length)),own (.slice none 0 0) 0 [] 147 65])):=by
 refine BD 70 Tryz.func28 rfl rfl rfl λw0 F hF=>sr λ_ J1=>je 2 rfl rfl (λhwl _=>PS ?_)
 refine tp (zr rfl rfl rfl) ?_;refine tp (nd (v':=(.int .i64 (((qT n:Nat):Int)))) (PV.minI rfl rfl rfl) (congrArg (Value.int .i64) (MA n))) ?_;refine PS ?_;refine nx J1 (aa λ_ J2=>sr λ_ J3=>P2 ?_);refine FA 1 iy ij ?_;refine LA 0 jy ?_;refine tp (dO rfl jy rfl hwl) ?_;refine PS ?_;refine nx J3 (am ?_)
 refine bG (α:=(Nat)×(gj)) (λ⟨k,s'⟩=>k≤ws.length∧s'=n4 mask torn (qT n) s ws k) (λ⟨k,s'⟩=>[(0,(.pointer (some ⟨d,0,none⟩))),(1,(.int .i64 (mask))),(2,(.int .i64 (torn))),(3,(.int .i64 (((qT n:Nat):Int)))),(17,wv),(18,(.int .i64 (((ws.length:Nat):Int)))),(19,(.int .i64 (((k:Nat):Int))))]) (λ⟨k,s'⟩=>[aj d [(.map (some m)),wv,(.bool (ar)),(.int .i64 (lf)),(.bool (dn))] 111,lN m (uC s'),own wv (ws.length) (ee ws) 147 65]) (λ⟨k,s'⟩=>ws.length-k) (0,s)
  ⟨aP _,rfl⟩ SB
  (λ_ s=>s) (λ⟨k,s'⟩ hinv=>?_)
 obtain⟨hk,hs'⟩:=hinv;have hs2:Whole s':=by rw[hs'];exact hs1.crash hw k hk
 have hcn:=um n;refine sr λ_ J4=>PS ?_
 refine ap ?_ ?_<;>intro h20;refine jV 2 rfl rfl (by omega) (λg cap hv hcap=>nx J4 (aa λ_ J5=>CY (qx J5 (aa λ_ J6=>am (sr λ_ J7=>PS ?_)))));refine tp (bn (r:=k*65) hv rfl jy m9 rfl rfl (by omega) (by omega) (by omega)) ?_;refine tp (MT (vs:=dr (lq ws k)) rfl pS rfl m9 rfl (gM 2 rfl hv rfl) (cB (ei hw (by omega))) (rk hw (by omega))) ?_;refine XA Hg λb9=>?_
 refine PS ?_;refine bW (vs:=dr (lq ws k)) (i:=0) (ab rfl) rfl rfl rfl rfl rfl (by rw[cB (ei hw (by omega))];exact m9) (jo _) rfl rfl (by rw[cB (ei hw (by omega))];exact aK _) (jC (Eq.trans (rfl:_=65) (by rw[cB (ei hw (by omega))]:(dr (lq ws k)).length=65).symm)) rfl (nx J7 (sr λ_ J8=>P3 ?_));refine ap ?_ ?_<;>intro h26;refine nx J8 (CY (aa λ_ J9=>sR (λw=>Frm F w∧w.heap[d]?=some (.cells ([(.map (some m)),wv,(.bool (ar)),(.int .i64 (lf)),(.bool (dn))]).toArray 111 (0,0))∧Hm m (uC s') w∧w.heap[b9]?=some (.cells (dr (lq ws k)).toArray 147 (0,0))∧True) df rfl (λ_ s=>⟨fD s,s.block 1 (lb rfl) rfl,s.map 2 rfl rfl,s.block 0 (lb rfl) rfl,trivial⟩) (PD 0 ?_)));refine PD 1 ?_;refine FD 2 0 iy Gu ?_;refine LX 3 EH (.map (some m)) ?_ (hc:=by exact rfl);refine FD 4 0 pS aO ?_;refine LX 5 Y3 (.int .i64 ((lq ws k).1)) ?_ (hc:=by exact rfl);refine ta 6 rfl (PV.lookup rfl EH Y3 Lv rfl rfl (λ_ h=>h.2.2.1) (D4 _ _)) ?_;refine AL 7 ?_;refine XA Lv λb10=>?_
 refine au (wn (λ_ s=>⟨fD s,s.block 2 (lb rfl) rfl,s.map 3 rfl rfl,s.block 1 (lb rfl) rfl,trivial⟩) (AL 8 ?_));refine bW (vs:=dX (kY s' ((lq ws k).1))) (i:=0) (ab rfl) rfl rfl rfl rfl rfl (by rw[bo,fG hs2];exact lW) (ff _) rfl rfl (by rw[bo,fG hs2];exact aK _) (jC (Eq.trans (rfl:_=64) (by rw[bo,fG hs2]:(dX (kY s' ((lq ws k).1))).length=64).symm)) rfl (au (wn (λ_ s=>⟨fD s,s.block 2 (lb rfl) rfl,s.map 3 rfl rfl,s.block 1 (lb rfl) rfl,trivial⟩) (DN (ad J9 (aa λ_ J10=>D1 1 df ?_)))));refine PD 0 ?_;refine ta 1 rfl (Ru (k:=qT n) rfl sP kx rfl rfl (by omega) (by omega) rfl) ?_;refine FD 2 1 pS lW ?_;refine PD 3 ?_;refine ta 4 rfl (Ru (k:=qT n) rfl sP kx rfl rfl (by omega) (by omega) rfl) ?_;refine AL 5 ?_;refine Ox (i:=0) (m:=qT n) (news:=((dX (lq ws k).2).take (qT n))) (H':=[aj b10 (dX (tm (kY s' ((lq ws k).1)) (lq ws k).2 (qT n))) 145,aj b9 (dr (lq ws k)) 147,aj d [(.map (some m)),wv,(.bool (ar)),(.int .i64 (lf)),(.bool (dn))] 111,lN m (uC s'),own wv (ws.length) (ee ws) 147 65]) (ab rfl) rfl rfl rfl fO kx rfl rfl rfl rfl (λ_ _=>gn (by rw[bB,bo,ei hw (by omega)];have:=um n;omega) (RO 1) (by rw[bB,bo,ei hw (by omega)];exact Cq (ei hw (by omega)) (um n))) (λu hu=>ff _ u (rh hu)) (by rw[bo,fG hs2];have:=um n;omega) (Ht (um n) (fG hs2 _) (ei hw (by omega)) (by omega)) rfl (EN (DN (ad J10 (ac (PS ?_)))));refine FA 0 pS aO ?_;refine LA 1 Y3 ?_
 refine tp (aN (vs:=dX (tm (kY s' ((lq ws k).1)) (lq ws k).2 (qT n))) rfl sP rfl lW rfl (RO 0) (by rw[bo];exact rm (fG hs2 _) (ei hw (by omega))) (xb (by rw[bo];exact rm (fG hs2 _) (ei hw (by omega))))) ?_;refine CR NP (pM d m wv s' ar (dn) lf ((lq ws k).1) (tm (kY s' ((lq ws k).1)) (lq ws k).2 (qT n)) (by exact rm (fG hs2 _) (ei hw (by omega)))) (SM [2,2]) λvR HR hR=>?_
 subst hR;refine au (af (ad J6 (ac (AD ?_))));refine PS ?_;refine au ?_
 exact aL ((k+1,oW s' (lq ws k).1 (tm (kY s' (lq ws k).1) (lq ws k).2 (qT n))):(Nat)×(gj)) ⟨by omega,by rw[hs',n4,nE,if_pos h26]⟩ (by show ws.length- (k+1)<ws.length-k;omega)
  SB
  (λ_ s=>ak [0,0,2] rfl s)
 refine nx J8 (CN (sr λ_ J11=>P2 ?_));refine tp (P8 (r:=((k%32:Nat):Int)) rfl rfl rfl (by omega) (by rw[show(32:Int)=((32:Nat):Int)from rfl,←Int.ofNat_tmod])) ?_;refine tp (iF (r:=mask.fdiv (2^ (k%32))) rfl rfl rfl (by omega) (by congr 2;show min ((k%32:Nat):Int).toNat 64=k%32;omega)) ?_;refine tp (jm (r:=mask.fdiv (2^ (k%32))%2) rfl rfl rfl (Rk _)) ?_;refine PS ?_;refine ap ?_ ?_<;>intro h50;refine nx J11 (CY (ac (PS ?_)));refine FA 0 pS aO ?_;refine LA 0 Y3 ?_;refine FA 1 pS lW ?_;refine tp (aN (vs:=dX (lq ws k).2) rfl sP rfl lW rfl (RO 0) (by rw[bo];exact ei hw (by omega)) (wY (ei hw (by omega)))) ?_;refine CR NP (pM d m wv s' ar (dn) lf ((lq ws k).1) (lq ws k).2 (by exact ei hw (by omega))) (SM [1,1]) λvR HR hR=>?_
 subst hR;refine au (af (ad J6 (ac (AD ?_))));refine PS ?_;refine au ?_
 exact aL ((k+1,oW s' (lq ws k).1 (lq ws k).2):(Nat)×(gj)) ⟨by omega,by rw[hs',n4,nE,if_neg h26,if_pos h50]⟩ (by show ws.length- (k+1)<ws.length-k;omega)
  SB
  (λ_ s=>ak [0,0,1] rfl s)
 refine nx J11 (CN (aR (af (ad J6 (ac (AD ?_))))));refine PS ?_;refine au ?_
 exact aL ((k+1,s'):(Nat)×(gj)) ⟨by omega,by rw[n4,nE,if_neg h26,if_neg h50];exact hs'⟩ (by show ws.length- (k+1)<ws.length-k;omega)
  SB
  (λ_ s=>ak [1,1,1] rfl s)
 refine nx J4 (aa λ_ J12=>CN (aW (aA (aA (bq (ad J2 (ac ?_)))))))
 iterate 5 refine PS ?_
 refine FA 1 iy ij ?_;refine S0 0 ij ?_;refine PS ?_;refine FA 2 iy lT ?_;refine S0 0 lT ?_;refine PS ?_;refine FA 3 iy aO ?_;refine S0 0 aO ?_;refine PS ?_;refine FA 4 iy lT ?_;refine S0 0 lT ?_;refine au (aE (H':=[aj d [(.map (some m)),(.slice none 0 0),(.bool false),(.int .i64 0),(.bool false)] 111,lN m (uC s'),own (.slice none 0 0) 0 [] 147 65]) (dN _) (λ_ s=>eO (List.Perm.trans (List.Perm.swap _ _ _) (List.Perm.cons _ (List.Perm.swap _ _ _))) (gf 147 65 (ak [0,0] rfl s))) (bC rfl ?_));obtain rfl:k=ws.length:=by omega
 subst hs';exact rfl
theorem OL:Tryz.prog.eqGuardType Tryz.prog.depth 145=false:=by kernel_rfl
theorem OJ:Tryz.prog.keyTypeAt 2 145=true:=by kernel_rfl
theorem OM:qP Tryz.prog 2 145=some (List.replicate 64 (some .u8)):=by kernel_rfl
theorem OO:IW Tryz.prog 145=true:=by kernel_rfl
theorem ON:Tryz.prog.cellsOf 145=64:=by kernel_rfl
abbrev dk(d:Nat)(D:DS):HP:=PT 111 147 d D
theorem G3(d:Nat)(D:DS):DT 48 #[(.pointer (some ⟨d,0,none⟩))] T0 [dk d D] (RI (.bool D.dn) [dk d (D)]):=Leg.Does.pack (B:=[]) λ⟨m,wv⟩=>
 Leg.Does.withinR (BW d m wv D.ar D.dn D.lf) (B:=[lN m (uC D.s),own wv D.ws.length (ee D.ws) 147 65]) (λ_ _ _ _=>trivial) (λ_ s=>s) (λv H h=>by
  obtain⟨rfl,rfl⟩:=h
  exact⟨_,λ_ s=>bw (H:=[]) (m,wv) (s),rfl,rfl⟩)
theorem Od(d:Nat)(D:DS)(n:Int):DT 27 #[(.pointer (some ⟨d,0,none⟩)), .int .i64 n] T0 [dk d D] (dG (λv H=>True∧H=[dk d (D.arm n)])):=Leg.Does.pack (B:=[]) λ⟨m,wv⟩=>
 Leg.Does.withinR (Ei d m wv D.ar D.dn D.lf n) (B:=[lN m (uC D.s),own wv D.ws.length (ee D.ws) 147 65]) (λ_ _ _ _=>trivial) (λ_ s=>s) (λv H h=>by
  subst h
  exact⟨_,λ_ s=>bw (H:=[]) (m,wv) s,trivial,rfl⟩)
theorem BX(d:Nat)(D:DS)(at':Int)(hD:D.Ok)(hb:D.ws.length≤1000000000):DT 85 #[(.pointer (some ⟨d,0,none⟩)), .int .i64 at'] T0 [dk d D] (RI (HJ (D.read at')) [dk d (D)]):=Leg.Does.pack (B:=[]) λ⟨m,wv⟩=>
 Leg.Does.withinR (BU d m wv D.s D.ws D.ar D.dn D.lf at' hD.s hD.ws hb) (B:=[]) (λ_ _ _ _=>trivial) (λ_ s=>s) (λv H h=>by
  obtain⟨rfl,rfl⟩:=h
  exact⟨_,λ_ s=>bw (H:=[]) (m,wv) (s),rfl,rfl⟩)
theorem En(d:Nat)(D:DS)(mask torn n:Int)(hD:D.Ok):DT 28 #[(.pointer (some ⟨d,0,none⟩)), .int .i64 mask, .int .i64 torn, .int .i64 n] T0 [dk d D] (dG (λv H=>True∧H=[dk d (D.crash mask torn n)])):=Leg.Does.pack (B:=[]) λ⟨m,wv⟩=>
 Leg.Does.withinR (zd d m wv D.s D.ws D.ar D.dn D.lf mask torn n hD.s hD.ws) (B:=[]) (λ_ _ _ _=>trivial) (λ_ s=>s) (λv H h=>by
  subst h
  exact⟨_,λ_ s=>bw (H:=[]) (m,(.slice none 0 0:Value)) s,trivial,rfl⟩)
theorem Em(d:Nat)(D:DS)(at':Int)(x:Value)(bs:List UInt8)(hD:D.Ok)(hb:D.ws.length≤1000000000):DT 86 #[(.pointer (some ⟨d,0,none⟩)), .int .i64 at',x] (IsW x bs) [dk d D] (RI (.int .i64 (D.write at' bs).1) [dk d ((D.write at' bs).2)]):=Leg.Does.pack (B:=[]) λ⟨m,wv⟩=>
 Leg.Does.withinR (zc d m wv D.ws D.ar D.dn D.lf at' x bs hD.lf hb) (B:=[lN m (uC D.s)]) (λ_ _ h d=>h.more d) (λ_ s=>aD [0,1] rfl s) (λv H h=>by
  unfold DS.write;replace h:(if at'<0∨2048≤at'∨64<bs.length then _ else _):=h;split at h<;>rename_i h1
  · rw[if_pos h1]
    obtain⟨rfl,rfl⟩:=h;exact⟨_,λ_ s=>bw (H:=[]) (m,wv) (aD [0,1] rfl s),rfl,rfl⟩
  · rw[if_neg h1]
    split at h<;>rename_i h2
    · rw[if_pos h2]
      obtain⟨rfl,rfl⟩:=h;exact⟨_,λ_ s=>bw (H:=[]) (m,wv) (aD [0,1] rfl s),rfl,rfl⟩
    · rw[if_neg h2]
      obtain⟨rfl,wv',rfl⟩:=h
      exact⟨_,λ_ s=>bw (H:=[]) (m,wv') (aD [0,1] rfl s),rfl,rfl⟩)
theorem G2(d:Nat)(D:DS)(hD:D.Ok):DT 87 #[(.pointer (some ⟨d,0,none⟩))] T0 [dk d D] (RI (.int .i64 D.sync.1) [dk d D.sync.2]):=by
 obtain⟨s,ws,ar,lf,dn⟩:=D;cases dn
 · exact Leg.Does.pack (B:=[]) λ⟨m,wv⟩=>Leg.Does.withinR (yr d m wv s ws ar lf hD.ws) (B:=[]) (λ_ _ _ _=>trivial) (λ_ s=>s) (λv H h=>by
    obtain⟨rfl,rfl⟩:=h
    exact⟨_,λ_ s=>bw (H:=[]) (m,(.slice none 0 0:Value)) s,rfl,rfl⟩)
 · exact Leg.Does.pack (B:=[]) λ⟨m,wv⟩=>Leg.Does.withinR (vl d m wv ar lf) (B:=[lN m (uC s),own wv ws.length (ee ws) 147 65]) (λ_ _ _ _=>trivial) (λ_ s=>s) (λv H h=>by
    obtain⟨rfl,rfl⟩:=h
    exact⟨_,λ_ s=>bw (H:=[]) (m,wv) s,rfl,rfl⟩)
theorem Oc:DT 20 #[] T0 [] (dG (λv H=>∃d,v= .pointer (some ⟨d,0,none⟩)∧H=[dk d DS.new])):=
 Leg.Does.withinR Eh (B:=[]) (λ_ _ _ _=>trivial) (λ_ s=>s) (λv H h=>by
  obtain⟨d,m,rfl,rfl⟩:=h
  exact⟨_,λ_ s=>bw (H:=[]) (m,(.slice none 0 0:Value)) (eO (List.Perm.trans (List.Perm.swap _ _ _) (List.Perm.cons _ (List.Perm.swap _ _ _))) (gf 147 65 s)),d,rfl,rfl⟩)
end Go.Proofs.YtkhjnolhhidecaaGreatDoor
end

section
namespace Wal
open Go Leg Codec Api Dsk
theorem uX{x y:Int}(k:Nat)(hx:0≤x)(hx2:x<2^k)(hy:0≤y)(h:x+y*2^k<4294967296):iR .u32 x (y*2^k)=x+y*2^k:=by
 obtain⟨a,rfl⟩:=Int.eq_ofNat_of_zero_le hx;obtain⟨b,rfl⟩:=Int.eq_ofNat_of_zero_le hy;have e2:((b:Nat):Int)*2^k=((b*2^k:Nat):Int):=by simp
 rw[e2]at h ⊢
 have ha:a<2^k:=by
  have:(((2:Nat)^k:Nat):Int)=(2:Int)^k:=by simp
  omega
 have hs:a+b*2^k<4294967296:=by omega
 have h1:(BitVec.ofInt 32 (a:Int)).toNat=a:=by rw[BitVec.toNat_ofInt];omega
 have h2:(BitVec.ofInt 32 ((b*2^k:Nat):Int)).toNat=b*2^k:=by
  rw[BitVec.toNat_ofInt];generalize b*2^k=q at*;omega
 have h3:a|||b*2^k=a+b*2^k:=by
  rw[Nat.or_comm,←Nat.shiftLeft_eq,←Nat.shiftLeft_add_eq_or_of_lt ha,m6]
 show IntKind.u32.wrap (((BitVec.ofInt 32 (a:Int))||| (BitVec.ofInt 32 ((b*2^k:Nat):Int))).toNat:Nat)=_;rw[BitVec.toNat_or,h1,h2,h3];generalize b*2^k=q at*;rw[lx (by omega) (by omega)];omega
theorem If{x y:Int}(k:Nat)(hx:0≤x)(hx2:x<2^k)(hy:0≤y)(h:x+y*2^k<9223372036854775808):iR .i64 (y*2^k) x=x+y*2^k:=by
 obtain⟨a,rfl⟩:=Int.eq_ofNat_of_zero_le hx;obtain⟨b,rfl⟩:=Int.eq_ofNat_of_zero_le hy;have e2:((b:Nat):Int)*2^k=((b*2^k:Nat):Int):=by simp
 rw[e2]at h ⊢
 have ha:a<2^k:=by
  have:(((2:Nat)^k:Nat):Int)=(2:Int)^k:=by simp
  omega
 have h1:(BitVec.ofInt 64 (a:Int)).toNat=a:=by rw[BitVec.toNat_ofInt];omega
 have h2:(BitVec.ofInt 64 ((b*2^k:Nat):Int)).toNat=b*2^k:=by
  rw[BitVec.toNat_ofInt];generalize b*2^k=q at*;omega
 have h3:b*2^k|||a=a+b*2^k:=by
  rw[←Nat.shiftLeft_eq,←Nat.shiftLeft_add_eq_or_of_lt ha,m6]
 show IntKind.i64.wrap (((BitVec.ofInt 64 ((b*2^k:Nat):Int))||| (BitVec.ofInt 64 (a:Int))).toNat:Nat)=_;rw[BitVec.toNat_or,h1,h2,h3];generalize b*2^k=q at*;rw[bH (by omega) (by omega)];omega
theorem Hq(x:Int):0≤IntKind.u32.wrap x∧IntKind.u32.wrap x<4294967296:=by
 simp only[IntKind.wrap,IntKind.signed,IntKind.bits];simp;omega
theorem Cg(a b:Int):0≤qm .u32 a b∧qm .u32 a b<4294967296:=Hq _
def r8(x:Int):UInt8:=UInt8.ofNat (x%256).toNat
theorem mX(x:Int):(((r8 x).toNat:Nat):Int)=x%256:=by
 have:(x%256).toNat<256:=by omega
 simp only[r8,UInt8.toNat_ofNat'];omega
theorem r8_wrap(x:Int):IntKind.u8.wrap x=(((r8 x).toNat:Nat):Int):=by
 rw[mX];simp only[IntKind.wrap,IntKind.signed,IntKind.bits];simp
def Gc(r:Int):Int:=if rH .u32 r 1=1 then qm .u32 (r.fdiv 2) 3988292384 else r.fdiv 2
def nw(r:Int):Nat→Int
 |0=>r
 |k+1=>Gc (nw r k)
def G6(r:Int)(c:UInt8):Int:=nw (qm .u32 r ((c.toNat:Nat):Int)) 8
def fU(r:Int)(bs:List UInt8):Int:=bs.foldl G6 r
def gK(bs:List UInt8):Int:=qm .u32 4294967295 (fU 4294967295 bs)
theorem Ep{r:Int}{bs:List UInt8}{k:Nat}(h:k<bs.length):fU r (bs.take (k+1))=G6 (fU r (bs.take k)) (bs.getD k 0):=by
 rw[fU,fU,bZ h,fl,List.getD_eq_getElem?_getD,List.getElem?_eq_getElem h];rfl
theorem ze(r:Int)(a b:List UInt8):fU r (a++b)=fU (fU r a) b:=by simp[fU]
theorem Er{r:Int}{ps:List (List UInt8)}{k:Nat}(h:k<ps.length):fU r (ps.take (k+1)).flatten=fU (fU r (ps.take k).flatten) ps[k]:=by
 rw[bZ h,List.flatten_append,ze];simp
theorem Es(bs:List UInt8):0≤gK bs∧gK bs<4294967296:=Cg _ _
def Rh(r:Int):List UInt8:=[r8 r,r8 (r.fdiv 256),r8 (r.fdiv 65536),r8 (r.fdiv 16777216)]
def Kn(a b c d:UInt8):Int:=
 iR .u32 (iR .u32 (iR .u32 ((a.toNat:Nat):Int) (IntKind.u32.wrap (((b.toNat:Nat):Int)*2^8))) (IntKind.u32.wrap (((c.toNat:Nat):Int)*2^16))) (IntKind.u32.wrap (((d.toNat:Nat):Int)*2^24))
theorem Mr(a b c d:UInt8):Kn a b c d=((a.toNat:Nat):Int)+((b.toNat:Nat):Int)*256+((c.toNat:Nat):Int)*65536+((d.toNat:Nat):Int)*16777216:=by
 have ha:=a.toNat_lt;have hb:=b.toNat_lt;have hc:=c.toNat_lt;have hd:=d.toNat_lt;unfold Kn;generalize a.toNat=a at*;generalize b.toNat=b at*;generalize c.toNat=c at*;generalize d.toNat=d at*;rw[lx (x:=(b:Int)*2^8) (by omega) (by omega),lx (x:=(c:Int)*2^16) (by omega) (by omega),lx (x:=(d:Int)*2^24) (by omega) (by omega)];rw[uX 8 (by omega) (by omega) (by omega) (by omega),uX 16 (by omega) (by omega) (by omega) (by omega),uX 24 (by omega) (by omega) (by omega) (by omega)];omega
def qG(bs:List UInt8):List UInt8:=bs++Rh (gK bs)
def nL(bs:List UInt8):Option (List UInt8):=
 if bs.length<4 then none
 else if gK (bs.take (bs.length-4))=Kn ((bs.drop (bs.length-4)).getD 0 0) ((bs.drop (bs.length-4)).getD 1 0) ((bs.drop (bs.length-4)).getD 2 0) ((bs.drop (bs.length-4)).getD 3 0)then some (bs.take (bs.length-4))else none
theorem lJ(bs:List UInt8):(qG bs).length=bs.length+4:=by simp[qG,Rh]
theorem Km{r:Int}(h:0≤r∧r<4294967296):Kn (r8 r) (r8 (r.fdiv 256)) (r8 (r.fdiv 65536)) (r8 (r.fdiv 16777216))=r:=by
 rw[Mr,mX,mX,mX,mX,Int.fdiv_eq_ediv_of_nonneg _ (by decide),Int.fdiv_eq_ediv_of_nonneg _ (by decide),Int.fdiv_eq_ediv_of_nonneg _ (by decide)];omega
theorem sj(bs:List UInt8):nL (qG bs)=some bs:=by
 have hl:=lJ bs;have e1:(qG bs).take (bs.length+4-4)=bs:=by rw[I3,qG];exact mO
 have e2:(qG bs).drop (bs.length+4-4)=Rh (gK bs):=by rw[I3,qG];exact EO
 unfold nL;rw[hl,if_neg (by omega),e1,e2];exact if_pos (Km (Es bs)).symm
theorem zH{bs t:List UInt8}(h:nL bs=some t):t.length+4=bs.length:=by
 unfold nL at h;split at h
 · cases h
 · split at h
   · injection h with h;subst h;rw[bB];omega
   · cases h
def br(n:Nat):Nat:=if n=0 then 1 else(n-1) / 52+1
theorem qI(n:Nat):0<br n:=by unfold br;split<;>omega
theorem pA{n:Nat}(h:n≤3000):br n≤58:=by unfold br;split<;>omega
theorem y1(n:Nat):n≤br n*52:=by unfold br;split<;>omega
def Lu(n:Int):List UInt8:=[r8 (n.fdiv 16777216),r8 (n.fdiv 65536),r8 (n.fdiv 256),r8 n]
def IV(bs:List UInt8):Int:=bs.foldl (λh c=>iR .i64 (IntKind.i64.wrap (h*2^8)) ((c.toNat:Nat):Int)) 0
theorem KW{bs:List UInt8}{k:Nat}(h:k<bs.length):IV (bs.take (k+1))=iR .i64 (IntKind.i64.wrap (IV (bs.take k)*2^8)) (((bs.getD k 0).toNat:Nat):Int):=by
 rw[IV,IV,bZ h,fl,List.getD_eq_getElem?_getD,List.getElem?_eq_getElem h];rfl
theorem wR{h:Int}(c:UInt8)(h0:0≤h)(h1:h<4294967296):iR .i64 (IntKind.i64.wrap (h*2^8)) ((c.toNat:Nat):Int)=h*256+((c.toNat:Nat):Int):=by
 have hc:=c.toNat_lt;generalize c.toNat=c at*;rw[bH (by omega) (by omega),If 8 (by omega) (by omega) (by omega) (by omega)];omega
theorem KX(a b c d:UInt8):IV [a,b,c,d]=((a.toNat:Nat):Int)*16777216+((b.toNat:Nat):Int)*65536+((c.toNat:Nat):Int)*256+((d.toNat:Nat):Int):=by
 have ha:=a.toNat_lt;have hb:=b.toNat_lt;have hc:=c.toNat_lt;have hd:=d.toNat_lt;simp only[IV,List.foldl_cons,List.foldl_nil];rw[wR a (by omega) (by omega),wR b (by omega) (by omega),wR c (by omega) (by omega),wR d (by omega) (by omega)];omega
theorem ML{n:Int}(h0:0≤n)(h1:n<4294967296):IV (Lu n)=n:=by
 rw[Lu,KX,mX,mX,mX,mX,Int.fdiv_eq_ediv_of_nonneg _ (by decide),Int.fdiv_eq_ediv_of_nonneg _ (by decide),Int.fdiv_eq_ediv_of_nonneg _ (by decide)];omega
def hY(b:List UInt8)(i:Nat):List UInt8:=(b.drop (i*52)).take 52
theorem uU(b:List UInt8)(i:Nat):(hY b i).length≤52:=by rw[hY,bB];omega
theorem Mb{n k:Nat}(h:k<br n):k*52≤n:=by unfold br at h;split at h<;>omega
theorem Mc(b:List UInt8)(k:Nat):((b.take (min ((k+1)*52) b.length)).drop (k*52))=hY b k:=by
 rw[hY,kO,fP,Nat.one_mul]
 by_cases q:k*52+52≤b.length
 · rw[Nat.min_eq_left q,cE]
 · rw[Nat.min_eq_right (by omega),aC (by rw[bV];omega),aC (by rw[bV];omega)]
theorem Ia(b:List UInt8): ∀k,b.length≤k*52→((List.range k).map (hY b)).flatten=b:=by
 have key: ∀k,((List.range k).map (hY b)).flatten=b.take (k*52):=by
  intro k
  induction k with
  |zero=>simp
  |succ k ih=>
   rw[cO,e8,List.flatten_append,ih,fP,Nat.one_mul,List.take_add];simp[hY]
 intro k hk;rw[key,aC hk]
def kl(number:Int)(place all:Nat)(p:List UInt8):List UInt8:=Lu number++([r8 (place:Int),r8 (all:Int),r8 (p.length:Int)]++(p++List.replicate (52-p.length) 0))
theorem j5{number:Int}{place all:Nat}{p:List UInt8}(h:p.length≤52):(kl number place all p).length=59:=by simp[kl,Lu];omega
def qC(number:Int)(place all:Nat)(p:List UInt8):jz:=qG (kl number place all p)++[1]
theorem HI{number:Int}{place all:Nat}{p:List UInt8}(h:p.length≤52):(qC number place all p).length=64:=by simp[qC,lJ,j5 h]
def cq(number:Int)(b:List UInt8):List jz:=(List.range (br b.length)).map λi=>qC number i (br b.length) (hY b i)
def nQ(number:Int)(b:List UInt8)(k:Nat):List jz:=(List.range k).map λi=>qC number i (br b.length) (hY b i)
theorem Fm(number:Int)(b:List UInt8)(k:Nat):nQ number b (k+1)=nQ number b k++[qC number k (br b.length) (hY b k)]:=by simp[nQ,cO]
theorem zQ(number:Int)(b:List UInt8)(k:Nat):(nQ number b k).length=k:=by simp[nQ]
theorem Hu{number:Int}{place all:Nat}{p:List UInt8}(h:p.length≤52):
 wr (dX (Lu number++([r8 (place:Int),r8 (all:Int),r8 (p.length:Int)]++List.replicate 52 0))) 7 ((dX p).take (min p.length 52))=dX (kl number place all p):=by
 have e:(dX p).take (min p.length 52)=dX p:=aC (by rw[bo];omega);rw[e,wr,bo];have e2:(dX (Lu number++([r8 (place:Int),r8 (all:Int),r8 (p.length:Int)]++List.replicate 52 0))).take 7=dX (Lu number++[r8 (place:Int),r8 (all:Int),r8 (p.length:Int)]):=rfl
 have e3:(dX (Lu number++([r8 (place:Int),r8 (all:Int),r8 (p.length:Int)]++List.replicate 52 0))).drop (7+p.length)=dX (List.replicate (52-p.length) 0):=by
  rw[←mP];have:(dX (Lu number++([r8 (place:Int),r8 (all:Int),r8 (p.length:Int)]++List.replicate 52 0))).drop 7=dX (List.replicate 52 0):=rfl;rw[this,dX,dX,←lS,List.drop_replicate]
 rw[e2,e3,kl];simp[dX]
theorem dY(number:Int)(b:List UInt8):(cq number b).length=br b.length:=by simp[cq]
def fS(s:jz)(number place:Int):Option (List UInt8×Int):=
 match nL (s.take 63)with
 |none=>none
 |some t=>if s.getD 63 0≠1 then none
  else if IV (t.take 4)≠number∨(((t.getD 4 0).toNat:Nat):Int)≠place∨place≥(((t.getD 5 0).toNat:Nat):Int)∨(((t.getD 6 0).toNat:Nat):Int)>52 then none
  else some ((t.drop 7).take (t.getD 6 0).toNat,(((t.getD 5 0).toNat:Nat):Int))
theorem DD{number:Int}{place all:Nat}{p:List UInt8}(h:p.length≤52)(h0:0≤number)(h1:number<4294967296)(hp:place<all)(ha:all≤255):fS (qC number place all p) number place=some (p,(all:Int)):=by
 have e1:(qC number place all p).take 63=qG (kl number place all p):=by
  rw[qC,cG (by rw[lJ,j5 h];omega),aC (by rw[lJ,j5 h];omega)]
 have e2:(qC number place all p).getD 63 0=1:=by
  rw[qC,List.getD_eq_getElem?_getD,List.getElem?_append_right (by rw[lJ,j5 h];omega),lJ,j5 h];rfl
 have n1:(((r8 (place:Int)).toNat:Nat):Int)=place:=by rw[mX];omega
 have n2:(((r8 (all:Int)).toNat:Nat):Int)=all:=by rw[mX];omega
 have n3:(((r8 (p.length:Int)).toNat:Nat):Int)=p.length:=by rw[mX];omega
 unfold fS;rw[e1,sj];simp only[e2,ne_eq,not_true_eq_false,if_false];have t4:(kl number place all p).take 4=Lu number:=rfl;have g4:(kl number place all p).getD 4 0=r8 (place:Int):=rfl;have g5:(kl number place all p).getD 5 0=r8 (all:Int):=rfl;have g6:(kl number place all p).getD 6 0=r8 (p.length:Int):=rfl;have g7:(kl number place all p).drop 7=p++List.replicate (52-p.length) 0:=rfl;rw[t4,ML h0 h1,g4,g5,g6,g7,n1,n2,n3];rw[if_neg (by omega)];have n3':(r8 (p.length:Int)).toNat=p.length:=by omega
 rw[n3'];simp
theorem sz{s:jz}{number place:Int}(h:s.getD 63 0≠1):fS s number place=none:=by
 unfold fS;split
 · rfl
 · rw[if_pos h]
theorem pB{s b:jz}{number place all:Int}(hs:s.length=64)(h:fS s number place=some (b,all)):place<all∧all≤255∧b.length≤52:=by
 unfold fS at h;split at h
 · cases h
 · rename_i t ht
   have hl:=zH ht;split at h
   · cases h
   · split at h
     · cases h
     · rename_i h2
       injection h with h
       simp only[Prod.mk.injEq]at h;obtain⟨rfl,rfl⟩:=h;have:=(t.getD 5 0).toNat_lt;rw[bB];omega
theorem Bz{s:jz}{number place:Int}(h:nL (s.take 63)=none):fS s number place=none:=by simp only[fS,h]
theorem np{s t:jz}{number place:Int}(h:nL (s.take 63)=some t)(h2:IV (t.take 4)≠number∨(((t.getD 4 0).toNat:Nat):Int)≠place∨place≥(((t.getD 5 0).toNat:Nat):Int)∨(((t.getD 6 0).toNat:Nat):Int)>52):fS s number place=none:=by
 simp only[fS,h];split
 · rfl
 · first|rfl|rw[if_pos h2]
theorem Dz{s t:jz}{number place:Int}(h:nL (s.take 63)=some t)(h1:s.getD 63 0=1)(h2: ¬(IV (t.take 4)≠number∨(((t.getD 4 0).toNat:Nat):Int)≠place∨place≥(((t.getD 5 0).toNat:Nat):Int)∨(((t.getD 6 0).toNat:Nat):Int)>52)):
 fS s number place=some ((t.drop 7).take (t.getD 6 0).toNat,(((t.getD 5 0).toNat:Nat):Int)):=by
 simp only[fS,h,h1,ne_eq,not_true_eq_false,if_false];rw[if_neg h2]
def lL(rd:Int→jz)(number at' all:Int):Nat→Option (List UInt8)
 |0=>some []
 |k+1=>match lL rd number at' all k with
  |none=>none
  |some b=>match fS (rd (at'+k)) number k with
   |none=>none
   |some (m,same)=>if same=all then some (b++m)else none
def gD(rd:Int→jz)(number at':Int):Option (List UInt8×Int):=
 match fS (rd at') number 0 with
 |none=>none
 |some (_,all)=>(lL rd number at' all all.toNat).map λb=>(b,all)
theorem FL{rd:Int→jz}{number at' all:Int}{k:Nat}(h:lL rd number at' all k=none): ∀m,k≤m→lL rd number at' all m=none:=by
 intro m hm
 induction hm with
 |refl=>exact h
 |step _ ih=>simp only[lL,ih]
theorem xY{rd:Int→jz}{number at' all:Int}{k:Nat}(h:fS (rd (at'+k)) number k=none∨∃m same,fS (rd (at'+k)) number k=some (m,same)∧same≠all): ∀m,k<m→lL rd number at' all m=none:=by
 refine λm hm=>FL (k:=k+1) ?_ m hm
 simp only[lL];cases lL rd number at' all k with
 |none=>rfl
 |some b=>
  rcases h with h| ⟨x,same,h,h2⟩
  · simp only[h]
  · simp only[h,if_neg h2]
theorem x7{rd:Int→jz}{number at' all:Int}{k:Nat}{b x:List UInt8}(h:lL rd number at' all k=some b)(h2:fS (rd (at'+k)) number k=some (x,all)):lL rd number at' all (k+1)=some (b++x):=by
 simp only[lL,h,h2,if_true]
theorem Im{rd:Int→jz}{number at' all:Int}{b:List UInt8}(h:fS (rd at') number 0=some (b,all)):lL rd number at' all 1=some b:=by
 have h0:lL rd number at' all 0=some []:=rfl;have:=x7 (rd:=rd) (number:=number) (at':=at') (all:=all) (k:=0) h0 (x:=b) (by simpa using h)
 simpa using this
theorem rO{rd:Int→jz}{number at':Int}(h:fS (rd at') number 0=none):gD rd number at'=none:=by simp only[gD,h]
theorem rN{rd:Int→jz}{number at' all:Int}{b:List UInt8}(h:fS (rd at') number 0=some (b,all))(h2:lL rd number at' all all.toNat=none):gD rd number at'=none:=by simp only[gD,h,h2,Option.map_none]
theorem tA{rd:Int→jz}{number at' all:Int}{b c:List UInt8}(h:fS (rd at') number 0=some (b,all))(h2:lL rd number at' all all.toNat=some c):gD rd number at'=some (c,all):=by simp only[gD,h,h2,Option.map_some]
def gJ(rd:Int→jz):Nat→Int→Int→List (List UInt8)×Int
 |0,_,used=>([],used)
 |f+1,cnt,used=>match gD rd (cnt+1) used with
  |none=>([],used)
  |some (b,all)=>let r:=gJ rd f (cnt+1) (used+all);(b::r.1,r.2)
def ki:Nat→Int→DS→Int×DS
 |0,_,D=>(0,D)
 |n+1,at',D=>if D.read at'=zs then ki n (at'+1) D else if(D.write at' []).1=0 then ki n (at'+1) (D.write at' []).2 else D.write at' []
structure OpenR where
 err:Int
 recs:List (List UInt8)
 used:Int
 D:DS
def jO:Nat:=2049
theorem ua:jO=2049:=rfl
def bY(D:DS):OpenR:=
 let r:=gJ D.read jO 0 0;let w:=ki (2048-r.2).toNat r.2 D
 if w.1≠0 then⟨w.1,[],0,w.2⟩else if w.2.sync.1≠0 then⟨w.2.sync.1,[],0,w.2.sync.2⟩else⟨0,r.1,r.2,w.2.sync.2⟩
def In(s:gj):Prop:=∀p∈s,0≤p.1∧p.1<2048
def DS.In(D:DS):Prop:=Wal.In D.s∧Wal.In D.ws
end Wal
end

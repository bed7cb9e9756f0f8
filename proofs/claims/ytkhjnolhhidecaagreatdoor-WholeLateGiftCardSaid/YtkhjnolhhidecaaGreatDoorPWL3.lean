/-
  Joined texts:what a statement's proof reaches.
-/
import Derived.Laws.MakeOwn
import Derived.OwnWalk
import Derived.WalkSpells
import Derived.Test.YtkhjnolhhidecaaGreatDoorPWL2
set_option maxHeartbeats 8000000
set_option maxRecDepth 100000
set_option linter.unusedSimpArgs false
set_option linter.unusedVariables false
section
namespace Leg
open Go Codec Api
theorem yY(v:Value)(n:Nat):madeCells #[v] n=(List.replicate n v).toArray:=by
 unfold madeCells;apply Array.ext
 · simp
 · intro i h1 h2
   simp at h1;simp[Nat.mod_one]
theorem Ly(n:Nat):dU (List.replicate n 0)=List.replicate n (.int .u8 0):=by simp[dU]
section
variable {P:Program} {w0:World} {F:Hl} {n:Nat} {ops:Array Oper} {Q:QQ} {D:List Deferred} {L:List (Nat×Value)} {H:List HP} {o:Oper} {l:List Oper} {d:Nat} {S:World→Prop}
theorem TL.mono{H':List HP}(m: ∀h,bR H h→bR H' h)(h:TL P w0 F n ops Q l D L H'):TL P w0 F n ops Q l D L H:=TL.weak (dK _) m h
abbrev cr:= @TL.mono
theorem TL.makeB{t e:TypeId}{x y:Operand}{k k':IntKind}{a b:Int}(m c:Nat)(hw:Want n D ops o L)(ho:o.op= .makeSlice t x y)(hd:o.dst=some d)(hn:Nat.blt d n=true)(ht:P.underlying t=some (.slice e))
 (hi:(P.info? e).map (λi=>(i.zero,i.size,i.bytes))=some (some (.int .u8 0),1,1)) (hx:cS L x=some (.int k a)) (hy:cS L y=some (.int k' b)) (ha:a=(m:Int)) (hb:b=(c:Int)) (h1:m≤c) (h2:c≤281474976710656)
 (h: ∀b,TL P w0 F n ops Q l D ((d, .slice (some ⟨b,0,none⟩) m c)::L) (aj b (dU (List.replicate c 0)) e::H)):TL P w0 F n ops Q (o::l) D L H:=
 ln hw λa w f sm q=>by
  subst ha;subst hb;obtain⟨i,hie,hz0,hs,hb⟩:=info_parts hi;have hr:=run_make (P:=P) w t e i (.int .u8 0) ht hie hz0 k k' (m:Int) (c:Int) (by omega) (by omega) (by rw[hb];omega) (by omega)
  have e1:madeCells (Value.cells (.int .u8 0)) ((c:Int).toNat*i.size)=(dU (List.replicate c 0)).toArray:=by
   rw[hs,gz,Lk,Ly];exact yY _ _
  rw[e1]at hr;simp only[Lk]at hr
  have r:(execOp a.eval o).run P w= .ok (.value (.slice (some ⟨w.heap.size,0,none⟩) m c)) (w.alloc (.cells (dU (List.replicate c 0)).toArray e)):=by
   simp only[execOp,ho,f.eval hx,f.eval hy,Sem.run_bind,hr,Result.andThen_ok,Sem.run_pure]
  unfold Oper.wp;rw[r,Oper.upon_value,hd];exact h _ _ _ (f.put (lb hn) _) (sm.trans ⟨rfl,rfl,rfl,by simp⟩) (q.alloc _)
def kG:Value→Nat→Nat→Value
 | .slice a m c,lo,hi=> .slice (if c=lo then a else a.map (·.add lo)) (hi-lo) (c-lo)
 |v,_,_=>v
theorem PV.sliceLH{t e:TypeId}{x y z:Operand}{a:Option Addr}{len cap lo hi:Nat}{k k':IntKind}{i j:Int}(ho:o.op= .slice t x (some y) (some z) none)(ht:P.underlying t=some (.slice e))(hs:(P.info? e).map (·.size)=some 1)
 (hx:cS L x=some (.slice a len cap)) (hy:cS L y=some (.int k i)) (hz:cS L z=some (.int k' j)) (hi':i=(lo:Int)) (hj:j=(hi:Int)) (h1:lo≤hi) (h2:hi≤cap):PV P n D L S o (kG (.slice a len cap) lo hi):=
 λb w g _=>by
  subst hi';subst hj;simp only[execOp,ho,g.eval hx,Option.map_some,Option.map_none,g.eval hy,g.eval hz,kG]
  by_cases q:cap=lo
  · have e2:hi=lo:=by omega
    subst e2;simp[Instr.sliceAt,Instr.slice,run_underlying ht,Instr.sliceBounds,Instr.sliceBound,asIntOf,ez hs,q]
  · simp[Instr.sliceAt,Instr.slice,run_underlying ht,Instr.sliceBounds,Instr.sliceBound,asIntOf,h1,h2,ez hs,q]
theorem PV.sliceH{t e:TypeId}{x z:Operand}{a:Option Addr}{len cap hi:Nat}{k':IntKind}{j:Int}(ho:o.op= .slice t x none (some z) none)(ht:P.underlying t=some (.slice e))(hs:(P.info? e).map (·.size)=some 1)
 (hx:cS L x=some (.slice a len cap)) (hz:cS L z=some (.int k' j)) (hj:j=(hi:Int)) (h2:hi≤cap):PV P n D L S o (kG (.slice a len cap) 0 hi):=
 λb w g _=>by
  subst hj;simp only[execOp,ho,g.eval hx,Option.map_some,Option.map_none,g.eval hz,kG]
  by_cases q:cap=0
  · have e2:hi=0:=by omega
    subst e2;simp[Instr.sliceAt,Instr.slice,run_underlying ht,Instr.sliceBounds,Instr.sliceBound,asIntOf,ez hs,q]
  · simp[Instr.sliceAt,Instr.slice,run_underlying ht,Instr.sliceBounds,Instr.sliceBound,asIntOf,h2,ez hs,q]
theorem PV.sliceL{t e:TypeId}{x y:Operand}{a:Option Addr}{len cap lo:Nat}{k:IntKind}{i:Int}(ho:o.op= .slice t x (some y) none none)(ht:P.underlying t=some (.slice e))(hs:(P.info? e).map (·.size)=some 1)
 (hx:cS L x=some (.slice a len cap)) (hy:cS L y=some (.int k i)) (hi:i=(lo:Int)) (h1:lo≤len):PV P n D L S o (kG (.slice a len cap) lo len):=
 λb w g _=>by
  subst hi;simp only[execOp,ho,g.eval hx,Option.map_some,Option.map_none,g.eval hy,kG]
  by_cases q:cap=lo
  · simp[Instr.sliceAt,Instr.slice,run_underlying ht,Instr.sliceBounds,Instr.sliceBound,asIntOf,h1,ez hs,q]
  · simp[Instr.sliceAt,Instr.slice,run_underlying ht,Instr.sliceBounds,Instr.sliceBound,asIntOf,h1,ez hs,q]
end
theorem IsW.form{v:Value}{bs:List UInt8}{F:Hl}(h:IsW v bs F): ∃a c,v= .slice a bs.length c∧bs.length≤c∧(bs.length=0∨c≤9223372036854775807):=by
 rcases h with(⟨rfl,rfl⟩| ⟨b,off,cap,cs,T,z,rfl,h1,h2,_⟩)| ⟨a,c,rfl,rfl⟩
 · exact⟨_,_,rfl,aK _, .inl rfl⟩
 · exact⟨_,_,rfl,h1, .inr h2⟩
 · exact⟨_,_,rfl,aO _, .inl rfl⟩
theorem IsW.lt{v:Value}{bs:List UInt8}{F:Hl}(h:IsW v bs F):bs.length≤9223372036854775807:=by
 obtain⟨a,c,_,h1,h2⟩:=h.form;omega
theorem IsW.cut{v:Value}{bs:List UInt8}{F:Hl}(h:IsW v bs F){lo hi:Nat}(h1:lo≤hi)(h2:hi≤bs.length):IsW (kG v lo hi) ((bs.take hi).drop lo) F:=by
 have hl:((bs.take hi).drop lo).length=hi-lo:=by simp;omega
 by_cases e:hi-lo=0
 · obtain⟨a,c,rfl,hc,_⟩:=h.form
   have e0:(bs.take hi).drop lo=[]:=List.eq_nil_of_length_eq_zero (by omega);rw[e0];simp only[kG,e];split
   · cases a with
     |some a=>exact .inr ⟨_,_,rfl,rfl⟩
     |none=>
      rcases h with(⟨h,rfl⟩| ⟨b,off,cap,cs,T,z,h,_⟩)| ⟨a,c,h,_⟩
      · injection h with _ _ h;subst h;exact .inl (.inl ⟨by simp,rfl⟩)
      · simp at h
      · simp at h
   · cases a with
     |some a=>exact .inr ⟨_,_,rfl,rfl⟩
     |none=>
      rcases h with(⟨h,rfl⟩| ⟨b,off,cap,cs,T,z,h,_⟩)| ⟨a,c,h,_⟩
      · injection h with _ _ h;subst h;exact .inl (.inl ⟨by simp,rfl⟩)
      · simp at h
      · simp at h
 · obtain⟨b,off,cap,cs,T,z,rfl,hb,hcs,hc⟩:=h.at (j:=0) (by omega)
   rcases h.form with⟨a,c,hv,_,hm⟩
   injection hv with _ _ hv
   subst hv;refine .inl (.inr ⟨b,off+lo,cap-lo,cs,T,z,?_,by omega,by omega,hb,λj hj=>?_⟩)
   · simp only[kG,hl,if_neg (show ¬cap=lo by omega),Option.map_some,qV]
   · rw[hl]at hj
     rw[n4,hcs (lo+j) (by omega)];congr 2;simp[List.getD_eq_getElem?_getD,List.getElem?_take,show lo+j<hi by omega]
def ie(v:Value)(bs:List UInt8)(e:Nat):HP:=λh=>
 (v= .slice none 0 0∧bs=[]∧h=em)∨∃g off cap cur,v= .slice (some ⟨g,off,none⟩) bs.length cap∧h=sg g (.cells cur e (0,0))∧bs.length≤cap∧cap≤maxLen∧off+cap≤cur.size∧(cur.toList.drop off).take bs.length=dU bs
theorem qy{v:Value}{bs:List UInt8}{e:Nat}{h:Hl}(x:cI v bs e h):ie v bs e h:=by
 rcases x with⟨_,⟨h1,h2,h3⟩| ⟨g,cap,cur,h1,h2,h3,h4,h5,h6⟩⟩
 · exact .inl ⟨h1,List.eq_nil_of_length_eq_zero h2,h3⟩
 · exact .inr ⟨g,0,cap,cur,h1,h2,h3,h4,by omega,by simpa using h6⟩
section
variable {H:List HP} {F:Hl} {v:Value} {bs:List UInt8} {e:Nat}
theorem A5(i:Nat)(hi:Nat.blt i H.length=true)(hH:H.getD i (λ_=>True)=cI v bs e){h:Hl}(s:bR H h):bR (H.set i (ie v bs e)) h:=
 kR i (lb hi) (cR (eF i (lb hi) s) (λ_ x=>qy (by rwa [hH]at x)) λ_ x=>x)
theorem xn{lo hi nn:Nat}{bs':List UInt8}(i:Nat)(hi':Nat.blt i H.length=true)(hH:H.getD i (λ_=>True)=cI v bs e){g cap:Nat}(hv:v= .slice (some ⟨g,0,none⟩) nn cap)(h1:lo≤hi)(h2:hi≤bs.length)(h3:lo<bs.length)(hb:(bs.take hi).drop lo=bs'){h:Hl}(s:bR H h):
 bR (H.set i (ie (kG v lo hi) bs' e)) h:=by
 subst hb;have hl:((bs.take hi).drop lo).length=hi-lo:=by simp;omega
 refine kR i (lb hi') (cR (eF i (lb hi') s) (λ_ x=>?_) λ_ x=>x);rw[hH]at x;rcases x with⟨_,⟨h1,h2,_⟩| ⟨g',cap',cur,h4,h5,h6,h7,h8,h9⟩⟩
 · rw[hv]at h1;simp at h1
 · rw[hv]at h4 ⊢
   simp only[Value.slice.injEq,Option.some.injEq,Addr.mk.injEq,and_true,true_and]at h4;obtain⟨rfl,rfl,rfl⟩:=h4;refine .inr ⟨g,lo,cap-lo,cur,?_,h5,by omega,by omega,by omega,?_⟩
   · simp only[kG,hl,if_neg (show ¬cap=lo by omega),Option.map_some,qV,bm]
   · rw[hl]
     rw[gz]at h9;have e1:=congrArg (λl:List Value=>(l.take hi).drop lo) h9;simp only[P7,Nat.min_eq_left h2]at e1;rw[←kN,e1];simp[dU,qi,lQ]
theorem Sat.sub_form{w:World}(i:Nat)(s:Sat H F w)(hi:Nat.blt i H.length=true)(hH:H.getD i (λ_=>True)=ie v bs e):(v= .slice none 0 0∧bs=[])∨∃g off cap cur,v= .slice (some ⟨g,off,none⟩) bs.length cap∧w.heap[g]?=some (.cells cur e (0,0))∧bs.length≤cap∧cap≤maxLen∧off+cap≤cur.size∧(cur.toList.drop off).take bs.length=dU bs:=by
 obtain⟨h,d,e',x⟩:=s;obtain⟨h1,h2,d',rfl,a,_⟩:=eF i (lb hi) x;rw[hH]at a;rcases a with⟨x1,x2,_⟩| ⟨g,off,cap,cur,x1,x2,x3⟩
 · exact .inl ⟨x1,x2⟩
 · refine .inr ⟨g,off,cap,cur,x1,?_,x3⟩
   have:hp w g=some (.cells cur e (0,0)):=by
    rw[e',jM];exact g8 (by rw[x2];simp[sg])
   exact this
theorem Sat.sub_len{w:World}(i:Nat)(s:Sat H F w)(hi:Nat.blt i H.length=true)(hH:H.getD i (λ_=>True)=ie v bs e):pY v bs.length∧v.oneCell'=true:=by
 rcases s.sub_form i hi hH with⟨rfl,rfl⟩| ⟨g,off,cap,cur,rfl,_⟩
 · exact⟨⟨_,_,rfl⟩,rfl⟩
 · exact⟨⟨_,_,rfl⟩,rfl⟩
theorem Src.sub(i:Nat)(hi:Nat.blt i H.length=true)(hH:H.getD i (λ_=>True)=ie v bs e){w:World}(s:Sat H F w):Src (Sat H F) v bs.length (dU bs) 1:=by
 refine⟨by simp[dU],?_⟩;rcases s.sub_form i hi hH with⟨rfl,rfl⟩| ⟨g,off,cap,cur,rfl,_⟩
 · exact .inl ⟨rfl,rfl⟩
 · refine .inr ⟨⟨g,off,none⟩,cap,rfl,λw s j u hj=>?_⟩
   rcases s.sub_form i hi hH with⟨h1,_⟩| ⟨g',off',cap',cur',h1,h2,h3,h4,h5,h6⟩
   · simp at h1
   · simp only[Value.slice.injEq,Option.some.injEq,Addr.mk.injEq,and_true,true_and]at h1
     obtain⟨⟨rfl,rfl⟩,rfl⟩:=h1;rw[qV];rw[←h6,List.getElem?_take]at hj;split at hj
     · simp only[World.cell?,h2,Option.isSome_none,Bool.false_eq_true,if_false]
       simpa using hj
     · cases hj
theorem By(i:Nat){B:List HP}(hi:Nat.blt i B.length=true)(hH:B.getD i (λ_=>True)=ie v bs e): ∀g,Dj g F→bR B g→IsB v bs (jn g F):=λg _ s=>by
 obtain⟨h1,h2,d',rfl,a,_⟩:=eF i (lb hi) s;rw[hH]at a;rcases a with⟨x1,x2,_⟩| ⟨g,off,cap,cur,x1,x2,x3,x4,x5,x6⟩
 · exact .inl ⟨x1,x2⟩
 · refine .inr ⟨g,off,cap,cur.toList,e,(0,0),x1,x3,by simpa [maxLen]using x4,g8 (g8 (by rw[x2];simp[sg])),λj hj=>?_⟩
   have e1:=congrArg (λl:List Value=>l[j]?) x6;simp only[List.getElem?_take,if_pos hj,List.getElem?_drop]at e1;rw[e1];simp[dU,List.getD_eq_getElem?_getD,hj]
end
theorem uI{P:Program}(w:World)(t ty e:TypeId)(i:TypeInfo)(ht:P.underlying t=some (.slice e))(hi:P.info? e=some i)(g off sLen sCap:Nat)(cur:Array Value)(hg:w.heap[g]?=some (.cells cur e (0,0)))
 (a:Addr) (m c:Nat) (news:List Value) (hl:news.length=m*i.size) (hnews: ∀j u,news[j]?=some u→w.cell? (a.add j)=some u) (h1: ∀u∈news,u.oneCell'=true)
 (hroom:sLen+m≤sCap) (hfit:off+sLen*i.size+news.length≤cur.size):
 (Builtin.append_ #[t,t] ty #[.slice (some ⟨g,off,none⟩) sLen sCap, .slice (some a) m c]).run P w=
  .ok (.slice (some ⟨g,off,none⟩) (sLen+m) sCap) (w.setRow g (cur.toList.take (off+sLen*i.size)++news++cur.toList.drop (off+sLen*i.size+news.length)).toArray):=by
 have hf:=run_firstCells_some (P:=P) w i.size m a m c news hl hnews;have hst:=run_storeCells_at P g (off+sLen*i.size) e news 0 cur w hg (by simpa using hfit) h1;simp only[zn]at hst;simp[Builtin.append_,run_underlying ht,Go.sizeOf,typeInfo,hi,Builtin.lenOf,hroom,hf,Addr.add_lit,hst]
section
variable {P:Program} {w0:World} {F:Hl} {n:Nat} {ops:Array Oper} {Q:QQ} {D:List Deferred} {L:List (Nat×Value)} {H:List HP} {o:Oper} {l:List Oper} {d:Nat} {S:World→Prop}
theorem Sat.sub_open{w:World}{k:Nat}{v:Value}{bs:List UInt8}{e:TypeId}(s:Sat H F w)(hk:Nat.blt k H.length=true)(hH:H.getD k (λ_=>True)=ie v bs e):
 (v= .slice none 0 0∧bs=[]∧Sat (H.set k (cI (.slice none 0 0) [] e)) F w)∨∃g off cap cur,v= .slice (some ⟨g,off,none⟩) bs.length cap∧Sat (H.set k (yF g (.cells cur e (0,0)))) F w∧bs.length≤cap∧cap≤maxLen∧off+cap≤cur.size∧(cur.toList.drop off).take bs.length=dU bs:=by
 obtain⟨h,d,e',x⟩:=s;obtain⟨h1,h2,d',rfl,a,y⟩:=eF k (lb hk) x;rw[hH]at a;rcases a with⟨x1,x2,x3⟩| ⟨g,off,cap,cur,x1,x2,x3⟩
 · exact .inl ⟨x1,x2,_,d,e',kR k (lb hk) ⟨h1,h2,d',rfl,⟨rfl, .inl ⟨rfl,rfl,x3⟩⟩,y⟩⟩
 · exact .inr ⟨g,off,cap,cur,x1,⟨_,d,e',kR k (lb hk) ⟨h1,h2,d',rfl,x2,y⟩⟩,x3⟩
theorem Src.of_eq{S':World→Prop}{x:Value}{m size:Nat}{news:List Value}(h:Src S x m news size)(hS: ∀w,S' w→S w):Src S' x m news size:=⟨h.1,h.2.imp id λ⟨a,c,q3,q4⟩=>⟨a,c,q3,λw' s'=>q4 w' (hS w' s')⟩⟩
theorem C2{k:Nat}{q:HP}(hk:Nat.blt k H.length=true)(hH:H.getD k (λ_=>True)=q):H.set k q=H:=by
 rw[←hH,List.getD_eq_getElem?_getD,List.getElem?_eq_getElem (lb hk)];exact List.set_getElem_self _
theorem C9{w:World}{k:Nat}{v x:Value}{bs news:List UInt8}{t ty e:TypeId}(s:Sat H F w)(ht:P.underlying t=some (.slice e))(hi:(P.info? e).map (λi=>(i.zero,i.size,i.bytes))=some (some (.int .u8 0),1,1))
 (hk:Nat.blt k H.length=true) (hH:H.getD k (λ_=>True)=ie v bs e) (hx:Src (Sat H F) x news.length (dU news) 1) (hb:bs.length+news.length≤140737488355328):
 ∃v' w',(Builtin.append_ #[t,t] ty #[v,x]).run P w= .ok v' w'∧Same w w'∧Sat (H.set k (ie v' (bs++news) e)) F w':=by
 rcases s.sub_open hk hH with⟨rfl,rfl,s1⟩| ⟨g,off,cap,cur,rfl,s1,h3,h4,h5,h6⟩
 · have hx':Src (Sat (H.set k (cI (.slice none 0 0) [] e)) F) x news.length (dU news) 1:=hx.of_eq λw' s'=>by
    have:=s'.turn (q:=ie (.slice none 0 0) [] e) k (by simpa using lb hk) λh hh=>by
     rw[fU (lb hk)]at hh;exact qy hh
    rwa [hZ,C2 hk hH]at this
   obtain⟨v',w',r1,r2,r3⟩:=vD (k:=k) (nn:=0) (m:=news.length) (v:= .slice none 0 0) (xs:=dU []) (news:=dU news) (ty:=ty) s1 ht hi rfl (by decide) (by simpa using lb hk) (fU (lb hk) _) hx' (e9 _) (by simp only[maxLen];simp at hb;omega) (by simp at hb;omega);refine⟨v',w',r1,r2,?_⟩;rw[hZ]at r3
   have:=r3.turn (q:=ie v' ([]++news) e) k (by simpa using lb hk) λh hh=>by
    rw[fU (lb hk)]at hh;refine qy ?_;rw[←gC,bm,ba]at hh;exact hh
   rwa [hZ]at this
 · obtain⟨i,hie,hz0,hsz,hby⟩:=info_parts hi
   obtain⟨hxl,hxx⟩:=hx;have hg:w.heap[g]?=some (.cells cur e (0,0)):=s1.block k (by simpa using lb hk) (fU (lb hk) _)
   by_cases hroom:bs.length+news.length≤cap
   · rcases hxx with⟨rfl,hm⟩| ⟨a0,c,rfl,hc⟩
     · have hn:news=[]:=List.eq_nil_of_length_eq_zero hm
       subst hn;refine⟨_,w,?_,qa w,by rw[aY,C2 hk hH];exact s⟩;simp[Builtin.append_,run_underlying ht,Go.sizeOf,typeInfo,hie,Builtin.lenOf,Builtin.firstCells,loadCells,loadCellsFrom,storeCells,h3]
     · have hfit:off+bs.length*i.size+(dU news).length≤cur.size:=by rw[hsz,gz,bo];omega
       refine⟨_,_,uI (P:=P) w t ty e i ht hie g off bs.length cap cur hg a0 news.length c (dU news) (by rw[hsz,bo,gz]) (λj v hj=>hc w s j v hj) (e9 _) hroom hfit,⟨rfl,rfl,rfl,by simp⟩,?_⟩;have h2:=s1.write k (by simpa using lb hk) (fU (lb hk) _) (setRow_heap w g cur (cur.toList.take (off+bs.length*i.size)++dU news++cur.toList.drop (off+bs.length*i.size+(dU news).length)).toArray e _ hg) (λj hj=>setRow_other w g j _ hj);rw[hZ]at h2
       have h7:=h2.turn (q:=ie (.slice (some ⟨g,off,none⟩) (bs.length+news.length) cap) (bs++news) e) k (by simpa using lb hk) (λh hh=>by
        rw[fU (lb hk)]at hh;rw[hsz,gz,bo]at hh;refine .inr ⟨g,off,cap,_,by rw[ag],hh,by rw[ag];exact hroom,h4,?_,?_⟩
        · simp only[List.size_toArray,ag,bA,bV,Array.length_toList,bo]
          rw[hsz,gz,bo]at hfit;omega
        · simp only[aG]
          rw[ll (by simp only[bA,Array.length_toList];rw[hsz,gz,bo]at hfit;omega),kN,cE,h6,←aG,←gC]
          rw[cH (by rw[bo];exact aK _),aC (by rw[bo];exact aK _)])
       rwa [hZ]at h7
   · rcases hxx with⟨rfl,hm⟩| ⟨a0,c,rfl,hc⟩
     · omega
     · have holds: ∀j u,(dU bs)[j]?=some u→w.cell? ((⟨g,off,none⟩:Addr).add j)=some u:=λj u hj=>by
        rw[qV];rw[←h6,List.getElem?_take]at hj;split at hj
        · simpa [World.cell?,hg]using hj
        · cases hj
       have hr:=run_append_grow (P:=P) w t ty e i _ ht hie hz0 ⟨g,off,none⟩ bs.length cap (dU bs) (by rw[hsz,bo,gz]) holds a0 news.length c (dU news) (by rw[hsz,bo,gz]) (λj v hj=>hc w s j v hj) (by omega) (by omega) (growslice_fits (by omega) (by rw[hby];omega));refine⟨_,_,hr,⟨rfl,rfl,rfl,by simp⟩,PY k (lb hk) (s.drew.alloc _) λh hh=>?_⟩;have hge:=grownCap_ge w (bs.length+news.length) cap e;refine .inr ⟨w.heap.size,0,_,_,by rw[ag],hh,by rw[ag];exact hge,grownCap_le_maxLen w (bs.length+news.length) cap e (by simp only[maxLen];omega),?_,?_⟩
       · simp only[Array.size_append,List.size_toArray,size_zeroCells,bo,bm]
         have:(Value.cells (.int .u8 0)).size=1:=rfl;rw[this,gz];omega
       · simp only[Array.toList_append,aG,bb]
         rw[←aG,←gC,←bo (bs++news)];exact mL
theorem TL.appendS{s x:Operand}{k:Nat}{v vx:Value}{bs news bs':List UInt8}{t e:TypeId}(hw:Want n D ops o L)
 (ho:o.op= .call {callee:= .builtin .append,args:=#[s,x],argTypes:=#[t,t]}) (hd:o.dst=some d) (hn:Nat.blt d n=true) (ht:P.underlying t=some (.slice e))
 (hi:(P.info? e).map (λi=>(i.zero,i.size,i.bytes))=some (some (.int .u8 0),1,1)) (hs:cS L s=some v) (hx:cS L x=some vx)
 (hk:Nat.blt k H.length=true) (hH:H.getD k (λ_=>True)=ie v bs e) (hsrc: ∀w,Sat H F w→Src (Sat H F) vx news.length (dU news) 1) (hb:bs.length+news.length≤140737488355328)
 (hxs:bs++news=bs') (h: ∀v',v'.oneCell'=true→TL P w0 F n ops Q l D ((d,v')::L) (H.set k (ie v' bs' e))):TL P w0 F n ops Q (o::l) D L H:=
 ln hw λa w f sm q=>by
  obtain⟨v',w',hr,s',q'⟩:=C9 (ty:=o.type) q ht hi hk hH (hsrc w q) hb;unfold Oper.wp execOp;simp only[ho,resolve,invoke,builtin,Sem.run_bind,Sem.run_pure,Result.andThen_ok,qd,e8,m4,f.eval hs,f.eval hx,hr];rw[Oper.upon_value,hd];subst hxs;have one:v'.oneCell'=true:=(q'.sub_len k (by simpa using hk) (fU (lb hk) _)).2;exact h v' one _ w' (f.put (lb hn) v') (sm.trans s') q'
theorem TL.subLen{v:Value}{bs:List UInt8}{e:Nat}(k:Nat)(hk:Nat.blt k H.length=true)(hH:H.getD k (λ_=>True)=ie v bs e)
 (h:pY v bs.length→v.oneCell'=true→TL P w0 F n ops Q l D L H):TL P w0 F n ops Q l D L H:=zd (λw m=>m.sub_len k hk hH) λ⟨h1,h2⟩=>h h1 h2
end
theorem tV{v:Value}{z:Array Value}(h:v.oneCell'=true)(hz:z.size=1):Instr.fill (λi=>some (i*1,1)) z [(0,v)]=some #[v]:=by
 rw[Instr.fill,Ay h];simp only[iO,List.size_toArray,av,az,bm,hz,ne_eq,not_true_eq_false,decide_false,Bool.false_or];rw[if_neg (by simp)]
 have:(#[v].zipIdx.foldl (λcs (c,j)=>cs.setIfInBounds (0+j) c) z)=#[v]:=by
  match z,hz with
  | ⟨[x]⟩,_=>rfl
 simp only[bm]at this;simp only[Instr.fill];rw[this]
theorem DR{x:Value}{bs:List UInt8}{F:Hl}(hx:IsW x bs F)(i:Nat){g T:Nat}{B:List HP}(hi:Nat.blt i B.length=true)(e:B.getD i (λ_=>True)=aj g [x] T): ∀h,Dj h F→bR B h→P9 (.slice (some ⟨g,0,none⟩) 1 1) [bs] (jn h F):=λh d s=>
 .inr (.inr ⟨g,0,1,[x],T,(0,0),rfl,aK _,by decide,tF i hi e h d s,λj hj=>by
  obtain rfl:j=0:=by simpa using hj
  exact⟨[x],rfl,rfl,x,rfl,hx.more d⟩⟩)
theorem Kt(i n:Nat){g T:Nat}{bs:List UInt8}{B:List HP}{F:Hl}(hn:bs.length=n)(hl:n≤9223372036854775807)(hi:Nat.blt i B.length=true)(e:B.getD i (λ_=>True)=aj g (dU bs) T): ∀h,Dj h F→bR B h→IsB (.slice (some ⟨g,0,none⟩) n n) bs (jn h F):=by
 subst hn;exact Mr i hl hi e
def eS(us:List Value)(ls:List (List UInt8))(e:Nat):HP:=λh=>us.length=ls.length∧bR (List.zipWith (λu l=>ie u l e) us ls) h
abbrev m6(te e:Nat)(v:Value)(ls:List (List UInt8)):HP:=pack λus:List Value=>[own v ls.length us te 1,eS us ls e]
theorem wN{α β γ:Type}(f:α→β→γ): ∀(us:List α) (ls:List β) (u:α) (l:β),us.length=ls.length→List.zipWith f (us++[u]) (ls++[l])=List.zipWith f us ls++[f u l]
 | [],[],_,_,_=>rfl
 | [],_::_,_,_,h=>by simp at h
 |_::_,[],_,_,h=>by simp at h
 |x::us,y::ls,u,l,h=>by simp[wN f us ls u l (by simpa using h)]
theorem vi{us:List Value}{ls:List (List UInt8)}{e:Nat}{u:Value}{l:List UInt8}{H:List HP}{h:Hl}(s:bR (eS us ls e::ie u l e::H) h):bR (eS (us++[u]) (ls++[l]) e::H) h:=by
 have t:=nK.2 s;refine cR t (λh' x=>?_) λ_ x=>x
 obtain⟨h1,h2,d,rfl,⟨hl,a⟩,b⟩:=x;refine⟨by simp[hl],?_⟩;rw[wN _ _ _ _ _ hl];exact(ci _ _).2 ⟨h1,h2,d,rfl,a,si b⟩
theorem AE{e:Nat}{H:List HP}{h:Hl}(s:bR H h):bR (eS [] [] e::H) h:=⟨em,h,EE h,(rS h).symm,⟨rfl,trivial⟩,s⟩
theorem yq: ∀(us:List Value) (ls:List (List UInt8)) (e:Nat) (h:Hl),us.length=ls.length→bR (List.zipWith (λu l=>ie u l e) us ls) h→∀(j:Nat) (hj:j<ls.length),∃u,us[j]?=some u∧∃h1 h2,Dj h1 h2∧h=jn h1 h2∧ie u ls[j] e h1
 | [],[],_,_,_,_,j,hj=>by simp at hj
 | [],_::_,_,_,h,_,_,_=>by simp at h
 |_::_,[],_,_,h,_,_,_=>by simp at h
 |u::us,l::ls,e,h,hl,s,0,_=>by
  obtain⟨h1,h2,d,rfl,a,_⟩:=s;exact⟨u,rfl,h1,h2,d,rfl,a⟩
 |u::us,l::ls,e,h,hl,s,j+1,hj=>by
  obtain⟨h1,h2,d,rfl,_,b⟩:=s;obtain⟨u',e1,g1,g2,d',rfl,a⟩:=yq us ls e h2 (by simpa using hl) b j (by simpa using hj);refine⟨u',by simpa using e1,g1,jn h1 g2,?_,?_,a⟩
  · obtain⟨q1,q2⟩:=oC.1 d
    exact oC.2 ⟨q1.symm,d'⟩
  · rw[ow d,jM,ow (oC.1 d).2]
theorem Cs{v:Value}{bs:List UInt8}{e:Nat}{h1 G:Hl}(a:ie v bs e h1)(hG:Le h1 G):IsB v bs G:=by
 rcases a with⟨x1,x2,_⟩| ⟨g,off,cap,cur,x1,x2,x3,x4,x5,x6⟩
 · exact .inl ⟨x1,x2⟩
 · refine .inr ⟨g,off,cap,cur.toList,e,(0,0),x1,x3,by simpa [maxLen]using x4,hG _ _ (by rw[x2];simp[sg]),λj hj=>?_⟩
   have e1:=congrArg (λl:List Value=>l[j]?) x6;simp only[List.getElem?_take,if_pos hj,List.getElem?_drop]at e1;rw[e1];simp[dU,List.getD_eq_getElem?_getD,hj]
theorem vz(te e:Nat){H:List HP}{h:Hl}(s:bR H h):bR (m6 te e (.slice none 0 0) []::H) h:=bw (p:=λus:List Value=>[own (.slice none 0 0) 0 us te 1,eS us [] e]) [] (fY te 1 (AE s))
theorem vB{te e:Nat}{v' u:Value}{us:List Value}{ls:List (List UInt8)}{l:List UInt8}{H:List HP}{h:Hl}(s:bR (own v' (ls.length+1) (us++[u]) te 1::eS us ls e::ie u l e::H) h):bR (m6 te e v' (ls++[l])::H) h:=
 bw (p:=λus:List Value=>[own v' (ls++[l]).length us te 1,eS us (ls++[l]) e]) (us++[u]) (cR s (λ_ x=>by simpa using x) λ_ x=>vi x)
section
variable {P:Program} {w0:World} {F:Hl} {n:Nat} {ops:Array Oper} {Q:QQ} {D:List Deferred} {L:List (Nat×Value)} {H:List HP} {l:List Oper}
theorem TL.recsOpen{te e:Nat}{v:Value}{ls:List (List UInt8)}(h: ∀us,TL P w0 F n ops Q l D L (own v ls.length us te 1::eS us ls e::H)):TL P w0 F n ops Q l D L (m6 te e v ls::H):=
 No (λ_ s=>fF s) h
abbrev Nl:= @TL.recsOpen
theorem vA{te e:Nat}{v:Value}{ls:List (List UInt8)}{h:Hl}(s:m6 te e v ls h):pY v ls.length∧v.oneCell'=true:=by
 obtain⟨us,g1,g2,d2,rfl,a1,_⟩:=s;rcases a1 with⟨q0,⟨q1,q2,_⟩| ⟨g,cap,cur,q1,_⟩⟩
 · subst q1
   have:ls=[]:=List.eq_nil_of_length_eq_zero q2;subst this;exact⟨⟨_,_,rfl⟩,rfl⟩
 · subst q1;exact⟨⟨_,_,rfl⟩,rfl⟩
theorem TL.recsLen{te e:Nat}{v:Value}{ls:List (List UInt8)}(k:Nat)(hk:Nat.blt k H.length=true)(hH:H.getD k (λ_=>True)=m6 te e v ls)(h:pY v ls.length→v.oneCell'=true→TL P w0 F n ops Q l D L H):TL P w0 F n ops Q l D L H:=
 zd (p:=pY v ls.length∧v.oneCell'=true) (λw ⟨h,d,e',x⟩=>by
  obtain⟨h1,h2,d',rfl,a,_⟩:=eF k (lb hk) x;rw[hH]at a
  exact vA a) λ⟨h1,h2⟩=>h h1 h2
end
end Leg
namespace Leg
open Go Codec Api
section
variable {P:Program} {w0:World} {F:Hl} {n:Nat} {L:List (Nat×Value)} {H:List HP}
theorem TE.ret3{fn:Func}{post:Ending→List HP→Prop}{t t' t'':Nat}{v v' v'':Value}(hr:fn.results=#[.tmp t, .tmp t', .tmp t''])(e:lk L t=some v)(e':lk L t'=some v')(e'':lk L t''=some v'')(h:post (.returned (.tuple #[v,v',v''])) H):
 TE w0 F n (bodyPost P fn (kr post w0 F)) .ret [] L H:=λa w f s m=>by
 refine bodyPost_ret (results_tmp3 hr _ _ _) f.2.1 ⟨s,H,m,?_⟩;have h1:=f.eval (x:= .tmp t) e;have h2:=f.eval (x:= .tmp t') e';have h3:=f.eval (x:= .tmp t'') e'';rw[show a.tmps.getD t undef=v from h1,show a.tmps.getD t' undef=v' from h2,show a.tmps.getD t'' undef=v'' from h3];exact h
abbrev n6:= @TE.ret3
end
theorem rZ{l:List UInt8}{j:Nat}(h:j<l.length):(dU l)[j]?=some (.int .u8 (((l.getD j 0).toNat:Nat):Int)):=by simp[dU,List.getD_eq_getElem?_getD,h]
theorem Mz{a:Addr}{m c k:Nat}(hc:0<c):kG (.slice (some a) m c) 0 k= .slice (some a) k c:=by
 simp only[kG,if_neg (show ¬c=0 by omega),Option.map_some,RJ];rfl
end Leg
namespace Leg
open Go Codec Api
section
variable {P:Program} {w0:World} {F:Hl} {n:Nat} {ops:Array Oper} {Q:QQ} {D:List Deferred} {L:List (Nat×Value)} {H:List HP} {o:Oper} {l:List Oper} {d:Nat} {S:World→Prop}
end
end Leg
end

section
namespace Go.Proofs.YtkhjnolhhidecaaGreatDoor
open Go Leg Codec Api
theorem uE:(Tryz.prog.info? 75).map (·.size)=some 870:=by kernel_rfl
theorem Cm:(Tryz.prog.info? 77).map (·.size)=some 870:=by kernel_rfl
theorem uD:(Tryz.prog.info? 88).map (·.size)=some 875:=by kernel_rfl
theorem M3:NM 149:=nk Tryz.func149
theorem Pf:NM 172:=nk Tryz.func172
theorem kS(w:Int):
 DT 123 #[(.int .i64 (w))] T0 [] (RI (.bool (cJ w)) []):=by
 refine BD 9 Tryz.func123 rfl rfl rfl λw0 F hF=>sr λ_ J1=>PS ?_
 refine nx J1 (sr λ_ J2=>P2 ?_);refine ap ?_ ?_<;>intro h4
 iterate 5 refine PS ?_
 refine nx J2 (ah (aw rfl rfl ?_));exact⟨congrArg Value.bool (by unfold cJ;first| (rw[decide_eq_decide];omega)| (symm;rw[decide_eq_false_iff_not];omega)| (symm;rw[decide_eq_true_iff];omega)),rfl⟩;refine PS ?_;refine UF ?_;refine UF ?_;refine P2 ?_;refine nx J2 (ah (aw rfl rfl ?_));exact⟨congrArg Value.bool (by unfold cJ;first| (rw[decide_eq_decide];omega)| (symm;rw[decide_eq_false_iff_not];omega)| (symm;rw[decide_eq_true_iff];omega)),rfl⟩
theorem l9(w:Int):
 DT 76 #[(.int .i64 (w))] T0 [] (RI (.bool (cJ w)) []):=by
 refine BD 9 Tryz.func76 rfl rfl rfl λw0 F hF=>sr λ_ J1=>PS ?_
 refine nx J1 (sr λ_ J2=>P2 ?_);refine ap ?_ ?_<;>intro h4
 iterate 5 refine PS ?_
 refine nx J2 (ah (aw rfl rfl ?_));exact⟨congrArg Value.bool (by unfold cJ;first| (rw[decide_eq_decide];omega)| (symm;rw[decide_eq_false_iff_not];omega)| (symm;rw[decide_eq_true_iff];omega)),rfl⟩;refine PS ?_;refine UF ?_;refine UF ?_;refine P2 ?_;refine nx J2 (ah (aw rfl rfl ?_));exact⟨congrArg Value.bool (by unfold cJ;first| (rw[decide_eq_decide];omega)| (symm;rw[decide_eq_false_iff_not];omega)| (symm;rw[decide_eq_true_iff];omega)),rfl⟩
theorem iU(w:Int):
 DT 121 #[(.int .i64 (w))] T0 [] (RI (.bool (cJ w)) []):=by
 refine BD 9 Tryz.func121 rfl rfl rfl λw0 F hF=>sr λ_ J1=>PS ?_
 refine nx J1 (sr λ_ J2=>P2 ?_);refine ap ?_ ?_<;>intro h4
 iterate 5 refine PS ?_
 refine nx J2 (ah (aw rfl rfl ?_));exact⟨congrArg Value.bool (by unfold cJ;first| (rw[decide_eq_decide];omega)| (symm;rw[decide_eq_false_iff_not];omega)| (symm;rw[decide_eq_true_iff];omega)),rfl⟩;refine PS ?_;refine UF ?_;refine UF ?_;refine P2 ?_;refine nx J2 (ah (aw rfl rfl ?_));exact⟨congrArg Value.bool (by unfold cJ;first| (rw[decide_eq_decide];omega)| (symm;rw[decide_eq_false_iff_not];omega)| (symm;rw[decide_eq_true_iff];omega)),rfl⟩
theorem sH(key n:Int):
 DT 141 #[(.int .i64 (key)),(.int .i64 (n))] T0 [] (RI (.bool (ui key n)) []):=by
 refine BD 19 Tryz.func141 rfl rfl rfl λw0 F hF=>sr λ_ J1=>PS ?_
 refine nx J1 (sr λ_ J2=>P2 ?_);refine ap ?_ ?_<;>intro h6;refine P3 ?_;refine ap ?_ ?_<;>intro h9;refine P4 ?_;refine ap ?_ ?_<;>intro h13;refine P3 ?_;refine CE GM (mf n) ID ?_;refine P2 ?_;refine nx J2 (ah (WK [] (aw rfl rfl ?_)));exact⟨congrArg Value.bool (by simp[ui,nh, *]),rfl⟩;refine P2 ?_;refine UF ?_;refine UF ?_;refine P2 ?_;refine nx J2 (ah (WK [] (aw rfl rfl ?_)));exact⟨congrArg Value.bool (by simp[ui,nh, *]),rfl⟩;refine P2 ?_;refine UF ?_;refine UF ?_;refine P2 ?_;refine UF ?_;refine UF ?_;refine P2 ?_;refine nx J2 (ah (WK [] (aw rfl rfl ?_)));exact⟨congrArg Value.bool (by simp[ui,nh, *]),rfl⟩;refine PS ?_;refine UF ?_;refine UF ?_;refine P2 ?_;refine UF ?_;refine UF ?_;refine P2 ?_;refine UF ?_;refine UF ?_;refine P2 ?_;refine nx J2 (ah (WK [] (aw rfl rfl ?_)));exact⟨congrArg Value.bool (by simp[ui,nh, *]),rfl⟩
theorem Ix(b off T:Nat)(cs:List Value)(n:Int)(h:cs[off]?=some (.int .i64 n)):
 DT 143 #[(.pointer (some ⟨b,off,none⟩))] T0 [aj b (cs) T] (RI (.tuple #[.int .i64 n, .pointer (some ⟨b,off,none⟩)]) [aj b cs T]):=by
 refine BD 11 Tryz.func143 rfl rfl rfl λw0 F hF=>sr λ_ J1=>P2 ?_
 refine nx J1 (aa λ_ J2=>D1 0 bl ?_);refine PD 0 ?_;refine PD 1 ?_;refine ta 2 rfl (bc (r:=off) rfl nz rfl aP rfl rfl) ?_;refine LX 3 Y3 (.int .i64 (n)) ?_ (hc:=by exact h);refine PD 4 ?_;refine PD 5 ?_;refine ta 6 rfl (bc (r:=off) rfl nz rfl aP rfl rfl) ?_;refine PD 7 ?_;refine PD 8 ?_;exact DN (ad J2 (ah (WK [0] (ix rfl rfl rfl ⟨rfl,rfl⟩))))
theorem IM(b off T:Nat)(cs:List Value)(n:Int)(h:cs[off+1]?=some (.int .i64 n)):
 DT 144 #[(.pointer (some ⟨b,off,none⟩))] T0 [aj b (cs) T] (RI (.tuple #[.int .i64 n, .pointer (some ⟨b,off+1,none⟩)]) [aj b cs T]):=by
 refine BD 11 Tryz.func144 rfl rfl rfl λw0 F hF=>sr λ_ J1=>P2 ?_
 refine nx J1 (aa λ_ J2=>D1 0 bl ?_);refine PD 0 ?_;refine PD 1 ?_;refine ta 2 rfl (bc (r:=off+1) rfl nz rfl aP rfl rfl) ?_;refine LX 3 Y3 (.int .i64 (n)) ?_ (hc:=by exact h);refine PD 4 ?_;refine PD 5 ?_;refine ta 6 rfl (bc (r:=off+1) rfl nz rfl aP rfl rfl) ?_;refine PD 7 ?_;refine PD 8 ?_;exact DN (ad J2 (ah (WK [0] (ix rfl rfl rfl ⟨rfl,rfl⟩))))
theorem FQ(b off T tb:Nat)(cs:List Value)(g:Vector Int 5)(to':Int)(ht:0≤to'∧to'<5)(h:(cs.drop (off+2)).take 5=ints g.toList):
 DT 145 #[(.pointer (some ⟨b,off,none⟩)),(.pointer (some ⟨tb,0,none⟩))] T0 [aj b (cs) T,aj tb [(.int .i64 (to'))] 3] (RI (.tuple #[.int .i64 (g.toList.foldl (λs g=>fw (s+g)) 0), .pointer (some ⟨b,off+2+to'.toNat,none⟩)]) [aj b cs T,aj tb [.int .i64 to'] 3]):=by
 refine BD 25 Tryz.func145 rfl rfl rfl λw0 F hF=>sr λ_ J1=>P2 ?_
 refine nx J1 (sr λ_ J2=>PS ?_);refine nx J2 (aa λ_ J3=>sr λ_ J4=>P2 ?_);refine tp (bc (r:=off+2) rfl nz rfl fP rfl rfl) ?_;refine tp (aN (vs:=ints g.toList) rfl kI rfl fP rfl (RO 0) (cW g) h) ?_;refine PS ?_;refine nx J4 (am ?_)
 refine bG (α:=(Nat)×(Int)) (λ⟨k,s⟩=>k≤5∧s=(g.toList.take k).foldl (λs g=>fw (s+g)) 0) (λ⟨k,s⟩=>[(0,(.pointer (some ⟨b,off,none⟩))),(1,(.pointer (some ⟨tb,0,none⟩))),(3,(.int .i64 0)),(4,(.pointer none)),(5,(.int .i64 (s))),(11,(.agg (ints g.toList).toArray)),(12,(.int .i64 (((k:Nat):Int))))]) (λ⟨k,s⟩=>[aj b (cs) T,aj tb [(.int .i64 (to'))] 3]) (λ⟨k,s⟩=>5-k) (0,0)
  ⟨aO _,rfl⟩ SB
  (λ_ s=>s) (λ⟨k,s⟩ hinv=>?_)
 obtain⟨hk,hs⟩:=hinv;refine sr λ_ J5=>PS ?_
 refine ap ?_ ?_<;>intro h13;refine nx J5 (aa λ_ J6=>CY (qx J6 (aa λ_ J7=>am (sr λ_ J8=>tp (jc (cs:=ints g.toList) (v:=Value.int .i64 (g[k]'(by omega))) (r:=k) rfl kI Y3 rfl aP rfl rfl (by omega) (by omega) (by omega) (ld g (by omega))) ?_))));refine PS ?_;refine nx J8 (ac (P2 ?_));refine tp (bC (r:=(fw (s+(g[k]'(by omega))))) rfl rfl rfl rfl) ?_;refine PS ?_;refine au (af (ad J7 (ac (AD ?_))));refine PS ?_;refine au ?_
 exact aL ((k+1,(fw (s+(g[k]'(by omega))))):(Nat)×(Int)) ⟨by omega,by rw[bZ (by simp;omega),fi,←hs];simp⟩ (by show 5- (k+1)<5-k;omega)
  SB
  (λ_ s=>s)
 refine nx J5 (aa λ_ J9=>CN (aW (aA (aA (br (ad J3 (aa λ_ J10=>D1 1 bl ?_)))))));refine PD 0 ?_;refine PD 1 ?_;refine LX 2 Y3 (.int .i64 (to')) ?_ (hc:=by exact rfl);refine PD 3 ?_;refine ta 4 rfl (bc (r:=off+2) rfl nz rfl fP rfl rfl) ?_;refine IY 5 (off+2+(to').toNat) kI aP ?_;refine PD 6 ?_;refine PD 7 ?_;refine DN (ad J10 (ah (WK [0,0] (ix rfl rfl rfl ?_))));exact⟨by rw[hs,aC (by simp;omega)],rfl⟩
theorem Bu(x:RowT)(key n:Int)(hk:0≤key∧key<4)(hn:1≤n∧n≤1099511627776):
 DT 142 #[(.agg (ints x.flat).toArray),(.int .i64 (key)),(.int .i64 (n)),(.func (.func 143) #[] #[])] T0 [] (RI (.tuple #[.agg (ints (jK x key n (cellAt x key).inn {cellAt x key with inn:=fw ((cellAt x key).inn+n)}).1.flat).toArray, .int .i64 (jK x key n (cellAt x key).inn {cellAt x key with inn:=fw ((cellAt x key).inn+n)}).2]) []):=by
 refine BD 36 Tryz.func142 rfl rfl rfl λw0 F hF=>?_
 have hkb:nh key=true:=decide_eq_true hk;have hcell:cellAt x key=x.cells[key.toNat]'(by omega):=by rw[cellAt,dif_pos hkb]
 refine sr λ_ J1=>XY (ints x.flat) λb4=>?_
 refine XZ vl (ints RowT.zero.flat) λb8=>?_
 refine PS ?_;refine nx J1 (sr λ_ J2=>P2 ?_);refine FA 1 ei ml ?_;refine IX (1+key.toNat*7) B1 fj ?_;refine TL.callRv (ab rfl) rfl rfl rfl rfl Pv rfl (Ix b4 (1+key.toNat*7) 74 (ints x.flat) x.cells[key.toNat].inn (wy x (key.toNat*7) (by omega) (by omega) (pR bu x.cells (i:=key.toNat) 0 (by omega) (by omega) (by decide) (zq _ rfl)))) (λ_ s=>aD [1] rfl s) (λ_ _ _=>trivial) (λvR HR hR=>?_);obtain⟨rfl,rfl⟩:=hR;refine P4 ?_;refine PS ?_;refine nx J2 (aa λ_ J3=>sr λ_ J4=>P2 ?_);refine tp (jj (r:=(1099511627776-n)) rfl rfl rfl (bK (by omega) (by omega))) ?_;refine PS ?_;refine ap ?_ ?_<;>intro h23;refine nx J4 (CY (sr λ_ J5=>BV ((ints RowT.zero.flat).toArray) ?_));refine SW 1 bf ai ?_;refine PS ?_;refine nx J5 (ah (ae (RT 1 [] ei bf (ai _) ?_)));exact⟨by rw[jK,hcell,if_pos h23],rfl⟩;refine nx J4 (CN (qx J3 (sr λ_ J6=>P2 ?_)));refine LT 0 Y3 (.int .i64 ((x.cells[key.toNat]'(by omega)).inn)) ?_ (hc:=by exact wy x (key.toNat*7) (by omega) (by omega) (pR bu x.cells (i:=key.toNat) 0 (by omega) (by omega) (by decide) (zq (x.cells[key.toNat]'(by omega)) rfl)));refine PS ?_;refine tp (bC (r:=(fw (((x.cells[key.toNat]'(by omega)).inn)+n))) rfl rfl rfl rfl) ?_;refine PS ?_
 refine bH (i:=0) (ab rfl) rfl rfl rfl rfl rfl aP rfl rfl (LB (ai _)) (Rf x (key.toNat*7) (by omega) (by omega) (Jk bu x.cells (i:=key.toNat) 0 (by omega) (by omega) (by decide) (CellT.set_inn _ rfl _))) rfl (nx J6 (sr λ_ J7=>FA 0 ei aP ?_));refine LT 0 Y3 (.int .i64 (x.version)) ?_ (hc:=by exact cN _ rfl);refine tp (bC (r:=(fw (x.version+1))) rfl rfl rfl rfl) ?_;refine FA 0 ei aP ?_;refine bH (i:=0) (ab rfl) rfl rfl rfl rfl rfl aP rfl rfl (LB (ai _)) (yA _ rfl _) rfl (nx J7 (sr λ_ J8=>LW 0 ei bf ai ?_));refine SW 1 bf ai ?_;refine PS ?_;refine nx J8 (ah (RT 1 [] ei bf (ai _) ?_));refine⟨?_,rfl⟩;rw[jK,hcell,if_neg h23,eG,dif_pos hkb]
theorem Bv(x:RowT)(key n:Int)(hk:0≤key∧key<4)(hn:1≤n∧n≤1099511627776):
 DT 142 #[(.agg (ints x.flat).toArray),(.int .i64 (key)),(.int .i64 (n)),(.func (.func 144) #[] #[])] T0 [] (RI (.tuple #[.agg (ints (jK x key n (cellAt x key).out {cellAt x key with out:=fw ((cellAt x key).out+n)}).1.flat).toArray, .int .i64 (jK x key n (cellAt x key).out {cellAt x key with out:=fw ((cellAt x key).out+n)}).2]) []):=by
 refine BD 36 Tryz.func142 rfl rfl rfl λw0 F hF=>?_
 have hkb:nh key=true:=decide_eq_true hk;have hcell:cellAt x key=x.cells[key.toNat]'(by omega):=by rw[cellAt,dif_pos hkb]
 refine sr λ_ J1=>XY (ints x.flat) λb4=>?_
 refine XZ vl (ints RowT.zero.flat) λb8=>?_
 refine PS ?_;refine nx J1 (sr λ_ J2=>P2 ?_);refine FA 1 ei ml ?_;refine IX (1+key.toNat*7) B1 fj ?_;refine TL.callRv (ab rfl) rfl rfl rfl rfl Pu rfl (IM b4 (1+key.toNat*7) 74 (ints x.flat) x.cells[key.toNat].out (wy x (key.toNat*7+1) (by omega) (by omega) (pR bu x.cells (i:=key.toNat) 1 (by omega) (by omega) (by decide) (zp _ rfl)))) (λ_ s=>aD [1] rfl s) (λ_ _ _=>trivial) (λvR HR hR=>?_);obtain⟨rfl,rfl⟩:=hR;refine P4 ?_;refine PS ?_;refine nx J2 (aa λ_ J3=>sr λ_ J4=>P2 ?_);refine tp (jj (r:=(1099511627776-n)) rfl rfl rfl (bK (by omega) (by omega))) ?_;refine PS ?_;refine ap ?_ ?_<;>intro h23;refine nx J4 (CY (sr λ_ J5=>BV ((ints RowT.zero.flat).toArray) ?_));refine SW 1 bf ai ?_;refine PS ?_;refine nx J5 (ah (ae (RT 1 [] ei bf (ai _) ?_)));exact⟨by rw[jK,hcell,if_pos h23],rfl⟩;refine nx J4 (CN (qx J3 (sr λ_ J6=>P2 ?_)));refine LT 0 Y3 (.int .i64 ((x.cells[key.toNat]'(by omega)).out)) ?_ (hc:=by exact wy x (key.toNat*7+1) (by omega) (by omega) (pR bu x.cells (i:=key.toNat) 1 (by omega) (by omega) (by decide) (zp (x.cells[key.toNat]'(by omega)) rfl)));refine PS ?_;refine tp (bC (r:=(fw (((x.cells[key.toNat]'(by omega)).out)+n))) rfl rfl rfl rfl) ?_;refine PS ?_
 refine bH (i:=0) (ab rfl) rfl rfl rfl rfl rfl aP rfl rfl (LB (ai _)) (Rf x (key.toNat*7+1) (by omega) (by omega) (Jk bu x.cells (i:=key.toNat) 1 (by omega) (by omega) (by decide) (CellT.set_out _ rfl _))) rfl (nx J6 (sr λ_ J7=>FA 0 ei aP ?_));refine LT 0 Y3 (.int .i64 (x.version)) ?_ (hc:=by exact cN _ rfl);refine tp (bC (r:=(fw (x.version+1))) rfl rfl rfl rfl) ?_;refine FA 0 ei aP ?_;refine bH (i:=0) (ab rfl) rfl rfl rfl rfl rfl aP rfl rfl (LB (ai _)) (yA _ rfl _) rfl (nx J7 (sr λ_ J8=>LW 0 ei bf ai ?_));refine SW 1 bf ai ?_;refine PS ?_;refine nx J8 (ah (RT 1 [] ei bf (ai _) ?_));refine⟨?_,rfl⟩;rw[jK,hcell,if_neg h23,eG,dif_pos hkb]
theorem yX(x:RowT)(key n:Int)(hk:0≤key∧key<4)(hn:1≤n∧n≤1099511627776)(tb:Nat)(to':Int)(ht:0≤to'∧to'<5):
 DT 142 #[(.agg (ints x.flat).toArray),(.int .i64 (key)),(.int .i64 (n)),(.func (.func 145) #[] #[(.pointer (some ⟨tb,0,none⟩))])] T0 [aj tb [(.int .i64 (to'))] 3] (RI (.tuple #[.agg (ints (jK x key n (sumG (cellAt x key)) (qL (cellAt x key) to' (fw (iD (cellAt x key) to'+n)))).1.flat).toArray, .int .i64 (jK x key n (sumG (cellAt x key)) (qL (cellAt x key) to' (fw (iD (cellAt x key) to'+n)))).2]) [aj tb [.int .i64 to'] 3]):=by
 refine Leg.Does.body (vs:=[(.agg (ints x.flat).toArray),(.int .i64 (key)),(.int .i64 (n)),(.func (.func 145) #[] #[(.pointer (some ⟨tb,0,none⟩))])]) (n:=36) Tryz.func142 rfl rfl rfl (λw0 F hF=>?_);have hkb:nh key=true:=decide_eq_true hk;have hcell:cellAt x key=x.cells[key.toNat]'(by omega):=by rw[cellAt,dif_pos hkb]
 have htb:cJ to'=true:=decide_eq_true ht;refine sr λ_ J1=>?_
 refine TL.box (ab rfl) rfl rfl rfl rfl (λb4=>?_);change TL _ _ _ _ _ _ _ _ _ [aj b4 (ints x.flat) 74,aj tb [(.int .i64 (to'))] 3];refine qY (ab rfl) rfl rfl rfl vl (λb8=>?_);change TL _ _ _ _ _ _ _ _ _ [aj b8 (ints RowT.zero.flat) 74,aj b4 (ints x.flat) 74,aj tb [(.int .i64 (to'))] 3];refine qe ?_;refine nx J1 ?_;refine sr λ_ J2=>?_
 refine mv ?_;refine mv ?_;refine tp (bc (r:=1) rfl ei rfl ml rfl rfl) ?_;refine tp (q6 (r:=1+key.toNat*7) rfl B1 fj rfl rfl (by omega) (by omega) (by omega)) ?_;refine TL.callRv (ab rfl) rfl rfl rfl rfl Pt rfl (FQ b4 (1+key.toNat*7) 74 tb (ints x.flat) x.cells[key.toNat].given to' ht (EA x (key.toNat*7+2) (by omega) (by omega) (lA bu x.cells (i:=key.toNat) 2 (by omega) (by omega) (by decide) (CellT.sub_given (x.cells[key.toNat]'(by omega)) 0 rfl (by decide) (whole (cW ((x.cells[key.toNat]'(by omega)).given))))))) (λ_ s=>aD [1,1] rfl s) (λ_ _ _=>trivial) (λvR HR hR=>?_);obtain⟨rfl,rfl⟩:=hR;refine mv ?_;refine tp (mK (vs:=[(.int .i64 ((sumG (x.cells[key.toNat]'(by omega))))),(.pointer (some ⟨b4,1+key.toNat*7+2+to'.toNat,none⟩))]) rfl rfl rfl) ?_;refine tp (mK (vs:=[(.int .i64 ((sumG (x.cells[key.toNat]'(by omega))))),(.pointer (some ⟨b4,1+key.toNat*7+2+to'.toNat,none⟩))]) rfl rfl rfl) ?_;refine qe ?_;refine qe ?_;refine nx J2 ?_;refine aa λ_ J3=>?_
 refine sr λ_ J4=>?_
 refine mv ?_;refine mv ?_;refine tp (jj (r:=(1099511627776-n)) rfl rfl rfl (bK (by omega) (by omega))) ?_;refine tp (PV.gtr rfl rfl rfl) ?_;refine ap (λh23=>?_) (λh23=>?_);refine nx J4 ?_;refine oe rfl ?_;refine sr λ_ J5=>?_
 refine tp (kL (cells:=(ints RowT.zero.flat).toArray) rfl rfl (by as_aux_lemma=>kernel_rfl)) ?_;refine bW (vs:=ints RowT.zero.flat) (i:=2) (ab rfl) rfl rfl rfl rfl rfl (by rw[(ai RowT.zero)];exact bf) (bv _) rfl rfl (by have h0:=(ai RowT.zero);have h1:=(ai RowT.zero);omega) (cy ((ai RowT.zero).trans (ai RowT.zero).symm)) rfl ?_;refine qe ?_;refine nx J5 ?_;refine ah ?_;refine ae ?_;refine mI (H':=[aj tb [(.int .i64 (to'))] 3]) rfl rfl rfl ei rfl bf (fA 2 rfl rfl) (ai RowT.zero) (λ_ s=>ak [1] rfl s) ?_;exact⟨by rw[jK,hcell,if_pos h23],rfl⟩;refine nx J4 ?_;refine Ha rfl ?_;refine aR ?_;refine ad J3 ?_;refine sr λ_ J6=>?_
 refine mv ?_;refine tp (gU rfl rfl) ?_;refine tp (fJ (v:=(.int .i64 ((((x.cells[key.toNat]'(by omega)).given)[to'.toNat]'(by omega))))) rfl Y3 rfl rfl (fA 0 rfl rfl) (wy x (key.toNat*7+2+to'.toNat) (by omega) (by omega) (pR bu x.cells (i:=key.toNat) (2+to'.toNat) (by omega) (by omega) (by omega) (Qc (x.cells[key.toNat]'(by omega)) (to'.toNat) (by omega) (by omega) (ld ((x.cells[key.toNat]'(by omega)).given) (by omega)))))) ?_;refine mv ?_;refine tp (bC (r:=(fw ((((x.cells[key.toNat]'(by omega)).given)[to'.toNat]'(by omega))+n))) rfl rfl rfl rfl) ?_;refine tp (gU rfl rfl) ?_;refine bH (i:=0) (ab rfl) rfl rfl rfl rfl rfl aP rfl rfl (by have h0:=(ai x);omega) (Rf x (key.toNat*7+2+to'.toNat) (by omega) (by omega) (Jk bu x.cells (i:=key.toNat) (2+to'.toNat) (by omega) (by omega) (by omega) (CellT.st_given (x.cells[key.toNat]'(by omega)) (to'.toNat) (by omega) (by omega) (qo ((x.cells[key.toNat]'(by omega)).given) (by omega) _)))) rfl ?_;refine nx J6 ?_;refine sr λ_ J7=>?_
 refine tp (bc (r:=0) rfl ei rfl aP rfl rfl) ?_;refine tp (fJ (v:=(.int .i64 (x.version))) rfl Y3 rfl rfl (fA 0 rfl rfl) (cN (RowT.mk x.version (x.cells.set key.toNat (CellT.mk ((x.cells[key.toNat]'(by omega)).inn) ((x.cells[key.toNat]'(by omega)).out) (((x.cells[key.toNat]'(by omega)).given).set to'.toNat (fw ((((x.cells[key.toNat]'(by omega)).given)[to'.toNat]'(by omega))+n)) (by omega))) (by omega)) x.heir x.left) rfl)) ?_;refine tp (bC (r:=(fw (x.version+1))) rfl rfl rfl rfl) ?_;refine tp (bc (r:=0) rfl ei rfl aP rfl rfl) ?_;refine bH (i:=0) (ab rfl) rfl rfl rfl rfl rfl aP rfl rfl (by have h0:=(ai (RowT.mk x.version (x.cells.set key.toNat (CellT.mk ((x.cells[key.toNat]'(by omega)).inn) ((x.cells[key.toNat]'(by omega)).out) (((x.cells[key.toNat]'(by omega)).given).set to'.toNat (fw ((((x.cells[key.toNat]'(by omega)).given)[to'.toNat]'(by omega))+n)) (by omega))) (by omega)) x.heir x.left));omega) (yA (RowT.mk x.version (x.cells.set key.toNat (CellT.mk ((x.cells[key.toNat]'(by omega)).inn) ((x.cells[key.toNat]'(by omega)).out) (((x.cells[key.toNat]'(by omega)).given).set to'.toNat (fw ((((x.cells[key.toNat]'(by omega)).given)[to'.toNat]'(by omega))+n)) (by omega))) (by omega)) x.heir x.left) rfl _) rfl ?_;refine nx J7 ?_;refine sr λ_ J8=>?_
 refine tp (aN (vs:=ints (RowT.mk (fw (x.version+1)) (x.cells.set key.toNat (CellT.mk ((x.cells[key.toNat]'(by omega)).inn) ((x.cells[key.toNat]'(by omega)).out) (((x.cells[key.toNat]'(by omega)).given).set to'.toNat (fw ((((x.cells[key.toNat]'(by omega)).given)[to'.toNat]'(by omega))+n)) (by omega))) (by omega)) x.heir x.left).flat) rfl ei rfl bf rfl (fA 0 rfl rfl) (ai (RowT.mk (fw (x.version+1)) (x.cells.set key.toNat (CellT.mk ((x.cells[key.toNat]'(by omega)).inn) ((x.cells[key.toNat]'(by omega)).out) (((x.cells[key.toNat]'(by omega)).given).set to'.toNat (fw ((((x.cells[key.toNat]'(by omega)).given)[to'.toNat]'(by omega))+n)) (by omega))) (by omega)) x.heir x.left)) (whole (ai (RowT.mk (fw (x.version+1)) (x.cells.set key.toNat (CellT.mk ((x.cells[key.toNat]'(by omega)).inn) ((x.cells[key.toNat]'(by omega)).out) (((x.cells[key.toNat]'(by omega)).given).set to'.toNat (fw ((((x.cells[key.toNat]'(by omega)).given)[to'.toNat]'(by omega))+n)) (by omega))) (by omega)) x.heir x.left)))) ?_
 refine bW (vs:=ints (RowT.mk (fw (x.version+1)) (x.cells.set key.toNat (CellT.mk ((x.cells[key.toNat]'(by omega)).inn) ((x.cells[key.toNat]'(by omega)).out) (((x.cells[key.toNat]'(by omega)).given).set to'.toNat (fw ((((x.cells[key.toNat]'(by omega)).given)[to'.toNat]'(by omega))+n)) (by omega))) (by omega)) x.heir x.left).flat) (i:=2) (ab rfl) rfl rfl rfl rfl rfl (by rw[(ai (RowT.mk (fw (x.version+1)) (x.cells.set key.toNat (CellT.mk ((x.cells[key.toNat]'(by omega)).inn) ((x.cells[key.toNat]'(by omega)).out) (((x.cells[key.toNat]'(by omega)).given).set to'.toNat (fw ((((x.cells[key.toNat]'(by omega)).given)[to'.toNat]'(by omega))+n)) (by omega))) (by omega)) x.heir x.left))];exact bf) (bv _) rfl rfl (by have h0:=(ai RowT.zero);have h1:=(ai (RowT.mk (fw (x.version+1)) (x.cells.set key.toNat (CellT.mk ((x.cells[key.toNat]'(by omega)).inn) ((x.cells[key.toNat]'(by omega)).out) (((x.cells[key.toNat]'(by omega)).given).set to'.toNat (fw ((((x.cells[key.toNat]'(by omega)).given)[to'.toNat]'(by omega))+n)) (by omega))) (by omega)) x.heir x.left));omega) (cy ((ai RowT.zero).trans (ai (RowT.mk (fw (x.version+1)) (x.cells.set key.toNat (CellT.mk ((x.cells[key.toNat]'(by omega)).inn) ((x.cells[key.toNat]'(by omega)).out) (((x.cells[key.toNat]'(by omega)).given).set to'.toNat (fw ((((x.cells[key.toNat]'(by omega)).given)[to'.toNat]'(by omega))+n)) (by omega))) (by omega)) x.heir x.left)).symm)) rfl ?_;refine qe ?_;refine nx J8 ?_;refine ah ?_
 refine mI (H':=[aj tb [(.int .i64 (to'))] 3]) rfl rfl rfl ei rfl bf (fA 2 rfl rfl) (ai (RowT.mk (fw (x.version+1)) (x.cells.set key.toNat (CellT.mk ((x.cells[key.toNat]'(by omega)).inn) ((x.cells[key.toNat]'(by omega)).out) (((x.cells[key.toNat]'(by omega)).given).set to'.toNat (fw ((((x.cells[key.toNat]'(by omega)).given)[to'.toNat]'(by omega))+n)) (by omega))) (by omega)) x.heir x.left)) (λ_ s=>ak [1] rfl s) ?_;refine⟨?_,rfl⟩;rw[jK,hcell,if_neg h23,eG,dif_pos hkb];simp[qL,iD,htb]
theorem Db(x:RowT)(key n:Int):
 DT 94 #[(.agg (ints x.flat).toArray),(.int .i64 (key)),(.int .i64 (n))] T0 [] (RI (.tuple #[.agg (ints (pv x key n).1.flat).toArray, .int .i64 (pv x key n).2]) []):=by
 refine BD 19 Tryz.func94 rfl rfl rfl λw0 F hF=>sr λ_ J1=>XY (ints x.flat) λb3=>?_
 refine XZ vl (ints RowT.zero.flat) λb6=>?_
 refine PS ?_;refine nx J1 (aa λ_ J2=>sr λ_ J3=>P2 ?_);refine CE Kb (sH key n) ID ?_;refine bg ?_ ?_<;>intro h10;have hq:=h10;unfold ui nh Ds at hq;simp only[ao,decide_eq_true_iff]at hq;have hk:0≤key∧key<4:=hq.1.1;have hn:1≤n∧n≤1099511627776:=⟨hq.1.2,hq.2.2⟩;refine PS ?_;refine nx J3 (CN (qx J2 (sr λ_ J4=>LW 1 ei bf ai ?_)));refine P2 ?_;refine CE Ka (Bu x key n hk hn) ID ?_;refine P2 ?_;refine SW 0 bf ai ?_;refine PS ?_;refine nx J4 (ah (RT 0 [] ei bf (ai _) ?_));exact⟨by simp[pv, *],rfl⟩;refine PS ?_;refine nx J3 (CY (sr λ_ J5=>BV ((ints RowT.zero.flat).toArray) ?_));refine SW 0 bf ai ?_;refine PS ?_;refine nx J5 (ah (ae (RT 0 [] ei bf (ai _) ?_)));exact⟨by simp[pv, *],rfl⟩
theorem Dc(x:RowT)(key n:Int):
 DT 95 #[(.agg (ints x.flat).toArray),(.int .i64 (key)),(.int .i64 (n))] T0 [] (RI (.tuple #[.agg (ints (pw x key n).1.flat).toArray, .int .i64 (pw x key n).2]) []):=by
 refine BD 19 Tryz.func95 rfl rfl rfl λw0 F hF=>sr λ_ J1=>XY (ints x.flat) λb3=>?_
 refine XZ vl (ints RowT.zero.flat) λb6=>?_
 refine PS ?_;refine nx J1 (aa λ_ J2=>sr λ_ J3=>P2 ?_);refine CE Kb (sH key n) ID ?_;refine bg ?_ ?_<;>intro h10;have hq:=h10;unfold ui nh Ds at hq;simp only[ao,decide_eq_true_iff]at hq;have hk:0≤key∧key<4:=hq.1.1;have hn:1≤n∧n≤1099511627776:=⟨hq.1.2,hq.2.2⟩;refine PS ?_;refine nx J3 (CN (qx J2 (sr λ_ J4=>LW 1 ei bf ai ?_)));refine P2 ?_;refine CE Ka (Bv x key n hk hn) ID ?_;refine P2 ?_;refine SW 0 bf ai ?_;refine PS ?_;refine nx J4 (ah (RT 0 [] ei bf (ai _) ?_));exact⟨by simp[pw, *],rfl⟩;refine PS ?_;refine nx J3 (CY (sr λ_ J5=>BV ((ints RowT.zero.flat).toArray) ?_));refine SW 0 bf ai ?_;refine PS ?_;refine nx J5 (ah (ae (RT 0 [] ei bf (ai _) ?_)));exact⟨by simp[pw, *],rfl⟩
theorem Bb(x:RowT)(key n to':Int):
 DT 96 #[(.agg (ints x.flat).toArray),(.int .i64 (key)),(.int .i64 (n)),(.int .i64 (to'))] T0 [] (RI (.tuple #[.agg (ints (mc x key n to').1.flat).toArray, .int .i64 (mc x key n to').2]) []):=by
 refine BD 27 Tryz.func96 rfl rfl rfl λw0 F hF=>sr λ_ J1=>XY (ints x.flat) λb4=>?_
 refine XB λb7=>?_
 refine XZ vl (ints RowT.zero.flat) λb8=>?_
 refine PS ?_;refine nx J1 (aa λ_ J2=>sr λ_ J3=>LA 1 Y3 ?_);refine CE GO (kS to') ID ?_;refine bg ?_ ?_<;>intro h11;refine PS ?_;refine P3 ?_;refine CE Kb (sH key n) ID ?_;refine bg ?_ ?_<;>intro h16;have hq:=h16;unfold ui nh Ds at hq;simp only[ao,decide_eq_true_iff]at hq;have hk:0≤key∧key<4:=hq.1.1;have hn:1≤n∧n≤1099511627776:=⟨hq.1.2,hq.2.2⟩;have ht:0≤to'∧to'<5:=of_decide_eq_true h11;refine PS ?_;refine PS ?_;refine nx J3 (CN (qx J2 (sr λ_ J4=>LW 2 ei bf ai ?_)));refine P2 ?_;refine tp (Ry rfl rfl) ?_;refine CE Ka (yX x key n hk hn b7 to' ht) (SM [1]) ?_;refine P2 ?_;refine SW 1 bf ai ?_;refine PS ?_;refine nx J4 (ah (RT 1 [] ei bf (ai _) ?_));exact⟨by simp[mc, *],rfl⟩;refine PS ?_;refine PS ?_;refine nx J3 (CY (sr λ_ J5=>BV ((ints RowT.zero.flat).toArray) ?_));refine SW 0 bf ai ?_;refine PS ?_;refine nx J5 (ah (ae (RT 0 [] ei bf (ai _) ?_)));exact⟨by simp[mc, *],rfl⟩;refine PS ?_;refine PS ?_
 iterate 4 refine UT ?_
 refine PS ?_;refine nx J3 (CY (sr λ_ J6=>BV ((ints RowT.zero.flat).toArray) ?_));refine SW 0 bf ai ?_;refine PS ?_;refine nx J6 (ah (ae (RT 0 [] ei bf (ai _) ?_)));exact⟨by simp[mc, *],rfl⟩
theorem Da(x:RowT)(who:Int):
 DT 79 #[(.agg (ints x.flat).toArray),(.int .i64 (who))] T0 [] (dD (λr' H=>∃u,r'=u∧H=[own u (fZ x who).length (ints (fZ x who)) 3 1])):=by
 refine BD 27 Tryz.func79 rfl rfl rfl λw0 F hF=>sr λ_ J1=>XY (ints x.flat) λb2=>?_
 refine PS ?_;refine nx J1 (sr λ_ J2=>PS ?_);refine nx J2 (aa λ_ J3=>sr λ_ J4=>FA 29 ei fP ?_);refine tp (aN (vs:=ints x.heir.toList) rfl kI rfl fP rfl (RO 0) (cW x.heir) (Re x 0 rfl (by decide) (whole (cW x.heir)))) ?_;refine PS ?_;refine nx J4 (am ?_)
 refine bG (α:=(Nat)×(Value)) (λ⟨k,u⟩=>k≤5∧u.oneCell'=true) (λ⟨k,u⟩=>[(1,(.int .i64 (who))),(4,(.slice none 0 0)),(5,u),(9,(.agg (ints x.heir.toList).toArray)),(10,(.int .i64 (((k:Nat):Int))))]) (λ⟨k,u⟩=>[own u ((iQ x who k).length) (ints (iQ x who k)) 3 1]) (λ⟨k,u⟩=>5-k) (0,(.slice none 0 0))
  ⟨aO _,rfl⟩ SB
  (λ_ s=>fY 3 1 (ak [] rfl s)) (λ⟨k,u⟩ hinv=>?_)
 obtain⟨hk,hu⟩:=hinv;have hol:=z0 x who k;refine sr λ_ J5=>PS ?_
 refine ap ?_ ?_<;>intro h11;refine nx J5 (aa λ_ J6=>CY (qx J6 (aa λ_ J7=>am (sr λ_ J8=>PS ?_))));refine tp (jc (cs:=ints x.heir.toList) (v:=Value.int .i64 (x.heir[k]'(by omega))) (r:=k) rfl kI Y3 rfl aP rfl rfl (by omega) (by omega) (by omega) (ld x.heir (by omega))) ?_;refine P2 ?_;refine nx J8 (sr λ_ J9=>P3 ?_);refine ap ?_ ?_<;>intro h16;refine PS ?_;refine UT ?_;refine UT ?_;refine PS ?_;refine nx J9 (CY (ac (P2 ?_)));refine aM (cells:=#[(.int .i64 (((k:Nat):Int)))]) (ab rfl) rfl rfl rfl dZ oH rfl rfl rfl (by as_aux_lemma=>kernel_rfl) (λb23=>bX (k:=1) (news:=[(.int .i64 (((k:Nat):Int)))]) (nn':=(iQ x who k).length+1) (xs':=ints (iQ x who k)++[(.int .i64 (((k:Nat):Int)))]) (ab rfl) rfl rfl rfl dZ oH rfl rfl rfl rfl rfl rfl (λ_ _=>gl rfl (RO 0) rfl) (by simp[Value.oneCell']) (by simp only[maxLen];omega) (by omega) (by simp) (by simp) (λv24 ov24=>PS ?_));refine au (af (ad J7 (ac (AD ?_))));refine PS ?_;refine au ?_
 exact aL ((k+1,v24):(Nat)×(Value)) ⟨by omega,ov24⟩ (by show 5- (k+1)<5-k;omega)
  SB
  (λ_ s=>by
   show bR [own v24 (iQ x who (k+1)).length (ints (iQ x who (k+1))) 3 1] _;rw[show iQ x who (k+1)=iQ x who k++[((k:Nat):Int)]by rw[su,if_pos (by rw[xL x who (by omega)];simp;omega)],ag,eM]
   exact ak [1] rfl s)
 refine P3 ?_;refine ap ?_ ?_<;>intro h19;refine PS ?_;refine nx J9 (CY (ac (P2 ?_)));refine aM (cells:=#[(.int .i64 (((k:Nat):Int)))]) (ab rfl) rfl rfl rfl dZ oH rfl rfl rfl (by as_aux_lemma=>kernel_rfl) (λb23=>bX (k:=1) (news:=[(.int .i64 (((k:Nat):Int)))]) (nn':=(iQ x who k).length+1) (xs':=ints (iQ x who k)++[(.int .i64 (((k:Nat):Int)))]) (ab rfl) rfl rfl rfl dZ oH rfl rfl rfl rfl rfl rfl (λ_ _=>gl rfl (RO 0) rfl) (by simp[Value.oneCell']) (by simp only[maxLen];omega) (by omega) (by simp) (by simp) (λv24 ov24=>PS ?_));refine au (af (ad J7 (ac (AD ?_))));refine PS ?_;refine au ?_
 exact aL ((k+1,v24):(Nat)×(Value)) ⟨by omega,ov24⟩ (by show 5- (k+1)<5-k;omega)
  SB
  (λ_ s=>by
   show bR [own v24 (iQ x who (k+1)).length (ints (iQ x who (k+1))) 3 1] _;rw[show iQ x who (k+1)=iQ x who k++[((k:Nat):Int)]by rw[su,if_pos (by rw[xL x who (by omega)];simp;omega)],ag,eM]
   exact ak [1] rfl s)
 refine PS ?_;refine nx J9 (CN (aR (af (ad J7 (ac (AD ?_))))));refine PS ?_;refine au ?_
 exact aL ((k+1,u):(Nat)×(Value)) ⟨by omega,hu⟩ (by show 5- (k+1)<5-k;omega)
  SB
  (λ_ s=>by
   show bR [own u (iQ x who (k+1)).length (ints (iQ x who (k+1))) 3 1] _;rw[show iQ x who (k+1)=iQ x who k by rw[su,if_neg (by rw[xL x who (by omega)];simp;omega),aY]]
   exact ak [0] rfl s)
 refine nx J5 (aa λ_ J10=>CN (aW (aA (aA (br (ad J3 (sr λ_ J11=>P2 ?_)))))));refine nx J11 (ah (WK [0] (aw rfl rfl ?_)));obtain rfl:k=5:=by omega
 exact⟨u,rfl,rfl⟩
theorem Bc(x:RowT)(who of' key:Int):
 DT 78 #[(.agg (ints x.flat).toArray),(.int .i64 (who)),(.int .i64 (of')),(.int .i64 (key))] T0 [] (RI (.tuple #[.agg (ints (rowCell x who of' key).1.flat).toArray, .int .i64 (rowCell x who of' key).2]) []):=by
 refine BD 53 Tryz.func78 rfl rfl rfl λw0 F hF=>sr λ_ J1=>XY (ints x.flat) λb4=>?_
 refine XZ Lm (ints CellT.zero.flat) λb8=>?_
 refine PS ?_;refine nx J1 (aa λ_ J2=>sr λ_ J3=>PS ?_);refine CE GO (kS who) ID ?_;refine bg ?_ ?_<;>intro h11;refine PS ?_;refine P2 ?_;refine CE GO (kS of') ID ?_;refine bg ?_ ?_<;>intro h15;refine PS ?_;refine P4 ?_;refine ap ?_ ?_<;>intro h20;have hkb:nh key=false:=decide_eq_false (by omega);refine P2 ?_;refine UT ?_;refine UT ?_;refine PS ?_;refine nx J3 (CY (sr λ_ J4=>BV ((ints CellT.zero.flat).toArray) ?_));refine SW 0 fj aU ?_;refine PS ?_;refine nx J4 (ah (ae (RT 0 [] nz fj (aU _) ?_)));exact⟨by simp[rowCell, *],rfl⟩;refine P4 ?_;refine ap ?_ ?_<;>intro h24;have hkb:nh key=false:=decide_eq_false (by omega);refine PS ?_;refine nx J3 (CY (sr λ_ J5=>BV ((ints CellT.zero.flat).toArray) ?_));refine SW 0 fj aU ?_;refine PS ?_;refine nx J5 (ah (ae (RT 0 [] nz fj (aU _) ?_)));exact⟨by simp[rowCell, *],rfl⟩;have hw:cJ who=true:=by simpa using h11
 have ho:cJ of'=true:=by simpa using h15
 have hw2:0≤who∧who<5:=of_decide_eq_true hw;have ho2:0≤of'∧of'<5:=of_decide_eq_true ho;have hkb:nh key=true:=decide_eq_true ⟨by omega,by omega⟩;have e1:heirAt x of'=x.heir[of'.toNat]'(by omega):=by rw[heirAt,dif_pos ho]
 have e2:leftAt x of' key=(x.left[of'.toNat]'(by omega))[key.toNat]'(by omega):=by rw[leftAt,dif_pos ⟨ho,hkb⟩]
 have e3:cellAt x key=x.cells[key.toNat]'(by omega):=by rw[cellAt,dif_pos hkb]
 refine PS ?_;refine nx J3 (CN (qx J2 (aa λ_ J6=>sr λ_ J7=>P3 ?_)));refine ap ?_ ?_<;>intro h29;refine nx J7 (CY (aa λ_ J8=>D1 1 bl ?_));refine PD 0 ?_;refine FD 1 1 ei ml ?_;refine IY 2 (1+key.toNat*7) B1 fj ?_;refine ta 3 rfl (aN (vs:=ints (x.cells[key.toNat]'(by omega)).flat) rfl nz rfl fj rfl (λ_ h=>h.2.1) (aU (x.cells[key.toNat]'(by omega))) (EA x (key.toNat*7) (by omega) (by omega) (lA bu x.cells (i:=key.toNat) 0 (by omega) (by omega) (by decide) (whole (aU (x.cells[key.toNat]'(by omega))))))) ?_;refine FD 4 0 ei aP ?_;refine LR 5 Y3 (cN x rfl) ?_;refine AL 6 ?_;refine SW 0 fj aU ?_;refine EN (PD 7 ?_);refine DN (ad J8 (ah (ae (RT 0 [] nz fj (aU _) ?_))));exact⟨by simp[rowCell, *],rfl⟩;refine nx J7 (CN (qx J6 (aa λ_ J9=>sr λ_ J10=>PS ?_)));refine FA 29 ei fP ?_;refine IX (29+(of').toNat) kI aP ?_;refine LT 1 Y3 (.int .i64 ((x.heir[(of').toNat]'(by omega)))) ?_ (hc:=by exact sL x ((of').toNat) (by omega) (by omega) (ld x.heir (by omega)));refine PS ?_;refine ap ?_ ?_<;>intro h40;refine nx J10 (CY (aa λ_ J11=>D1 1 bl ?_));refine PD 0 ?_;refine PD 1 ?_;refine FD 2 34 ei Cn ?_;refine IY 3 (34+((of').toNat)*28) Nj ml ?_;refine IY 4 (34+((of').toNat)*28+key.toNat*7) B1 fj ?_
 refine ta 5 rfl (aN (vs:=ints ((x.left[(of').toNat]'(by omega))[key.toNat]'(by omega)).flat) rfl nz rfl fj rfl (λ_ h=>h.2.1) (aU ((x.left[(of').toNat]'(by omega))[key.toNat]'(by omega))) (Hb x (((of').toNat)*28+key.toNat*7) (by omega) (by omega) (lA uB x.left (i:=(of').toNat) (key.toNat*7) (by omega) (by omega) (by omega) (lA bu (x.left[(of').toNat]'(by omega)) (i:=key.toNat) 0 (by omega) (by omega) (by decide) (whole (aU ((x.left[(of').toNat]'(by omega))[key.toNat]'(by omega)))))))) ?_;refine PD 6 ?_;refine FD 7 29 ei fP ?_;refine IY 8 (29+(of').toNat) kI aP ?_;refine LX 9 Y3 (.int .i64 ((x.heir[(of').toNat]'(by omega)))) ?_ (hc:=by exact sL x ((of').toNat) (by omega) (by omega) (ld x.heir (by omega)));refine ta 10 rfl (jj (r:=(fw ((x.heir[(of').toNat]'(by omega))-1))) rfl rfl rfl rfl) ?_;refine AL 11 ?_;refine SW 0 fj aU ?_;refine EN (PD 12 ?_);refine DN (ad J11 (ah (ae (RT 0 [] nz fj (aU _) ?_))));exact⟨by simp[rowCell, *],rfl⟩;refine nx J10 (CN (qx J9 (sr λ_ J12=>BV ((ints CellT.zero.flat).toArray) ?_)));refine SW 0 fj aU ?_;refine PS ?_;refine nx J12 (ah (RT 0 [] nz fj (aU _) ?_));exact⟨by simp[rowCell, *],rfl⟩;refine PS ?_;refine P2 ?_;refine UT ?_;refine UT ?_;refine P2 ?_;refine UT ?_;refine UT ?_;refine PS ?_;refine nx J3 (CY (sr λ_ J13=>BV ((ints CellT.zero.flat).toArray) ?_));refine SW 0 fj aU ?_;refine PS ?_;refine nx J13 (ah (ae (RT 0 [] nz fj (aU _) ?_)));exact⟨by simp[rowCell, *],rfl⟩;refine PS ?_;refine PS ?_
 iterate 3 refine UT ?_
 refine P2 ?_;refine UT ?_;refine UT ?_;refine P2 ?_;refine UT ?_;refine UT ?_;refine PS ?_;refine nx J3 (CY (sr λ_ J14=>BV ((ints CellT.zero.flat).toArray) ?_));refine SW 0 fj aU ?_;refine PS ?_;refine nx J14 (ah (ae (RT 0 [] nz fj (aU _) ?_)));exact⟨by simp[rowCell, *],rfl⟩
theorem qk(who:Int):
 DT 110 #[(.int .i64 (who))] T0 [] (dD (λr' H=>∃u,r'=u∧H=[own u (iz who).length (ints (iz who)) 3 1])):=by
 refine BD 20 Tryz.func110 rfl rfl rfl λw0 F hF=>sr λ_ J1=>PS ?_
 refine nx J1 (aa λ_ J2=>sr λ_ J3=>PS ?_);refine CE JU (kA who) ID ?_;refine bg ?_ ?_<;>intro h6;have hm:0≤who∧who<5:=of_decide_eq_true h6;refine PS ?_;refine nx J3 (CN (qx J2 (sr λ_ J4=>I3 3 1 (λon=>?_))));clear on;refine PS ?_;refine nx J4 (aa λ_ J5=>sr λ_ J6=>PS ?_);refine nx J6 (am (iy 3 (aa λ_ J7=>sr λ_ J8=>P2 ?_)));refine nx J8 (CY (qx J7 (aa λ_ J9=>am (ac (P3 ?_)))));refine tp (bC (r:=(who+1)) rfl rfl rfl (bK (by omega) (by omega))) ?_;refine tp (PV.rem (r:=((who+1)%5)) rfl rfl rfl (by omega) (GF (by omega))) ?_;refine aM (cells:=#[(.int .i64 (((who+1)%5)))]) (ab rfl) rfl rfl rfl dZ oH rfl rfl rfl (by as_aux_lemma=>kernel_rfl) (λb17=>bX (k:=1) (news:=[(.int .i64 (((who+1)%5)))]) (nn':=1) (xs':=[(.int .i64 (((who+1)%5)))]) (ab rfl) rfl rfl rfl dZ oH rfl rfl rfl rfl rfl rfl (λ_ _=>gl rfl (RO 0) rfl) (by simp[Value.oneCell']) (by simp only[maxLen];omega) (by omega) (by simp) (by simp) (λv18 ov18=>PS ?_));refine au (af (ad J9 (ac (PS ?_))));refine tp (bC (r:=2) rfl rfl rfl (by decide)) ?_;refine PS ?_;refine au (bL (aa λ_ J10=>sr λ_ J11=>P2 ?_));refine nx J11 (CY (qx J10 (aa λ_ J12=>am (ac (P3 ?_)))));refine tp (bC (r:=(who+2)) rfl rfl rfl (bK (by omega) (by omega))) ?_;refine tp (PV.rem (r:=((who+2)%5)) rfl rfl rfl (by omega) (GF (by omega))) ?_
 refine cr (H':=[own v18 (1) ([(.int .i64 (((who+1)%5)))]) 3 1]) (λ_ s=>ak [1] rfl s) (aM (cells:=#[(.int .i64 (((who+2)%5)))]) (ab rfl) rfl rfl rfl dZ oH rfl rfl rfl (by as_aux_lemma=>kernel_rfl) (λb17=>bX (k:=1) (news:=[(.int .i64 (((who+2)%5)))]) (nn':=1+1) (xs':=[(.int .i64 (((who+1)%5)))]++[(.int .i64 (((who+2)%5)))]) (ab rfl) rfl rfl rfl dZ oH rfl rfl rfl rfl rfl rfl (λ_ _=>gl rfl (RO 0) rfl) (by simp[Value.oneCell']) (by simp only[maxLen];omega) (by omega) (by simp) (by simp) (λv18 ov18=>PS ?_)));refine au (af (ad J12 (ac (PS ?_))));refine tp (bC (r:=3) rfl rfl rfl (by decide)) ?_;refine PS ?_;refine au (bL (aa λ_ J13=>sr λ_ J14=>P2 ?_));refine nx J14 (CN (aW (aA (aA (br (ad J5 (sr λ_ J15=>P2 ?_)))))));refine nx J15 (ah (WK [1] (aw rfl rfl ?_)));exact⟨_,rfl,by rw[iz,if_pos h6];rfl⟩;refine PS ?_;refine nx J3 (CY (sr λ_ J16=>PS ?_));refine nx J16 (ah (ae (aE (H':=[own (.slice none 0 0) 0 [] 3 1]) (dK _) (λ_ s=>fY 3 1 s) (aw rfl rfl ?_))));exact⟨_,rfl,by rw[iz,if_neg (by simp[h6])];rfl⟩
theorem nq(b off T:Nat)(cs:BookT→List Value)(hA:Arnd cs (λx=>ints x.flat) off)(B:BookT)(who:Int):
 DT 65 #[(.pointer (some ⟨b,off,none⟩)),(.int .i64 (who))] T0 [aj b (cs B) T] (RI (.agg (ints (cA B who).flat).toArray) [aj b (cs B) T]):=by
 refine BD 15 Tryz.func65 rfl rfl rfl λw0 F hF=>sr λ_ J1=>XZ vl (ints RowT.zero.flat) λb4=>?_
 refine nx J1 (aa λ_ J2=>sr λ_ J3=>PS ?_);refine CE NK (l9 who) ID ?_;refine bg ?_ ?_<;>intro h6;have hm:0≤who∧who<5:=of_decide_eq_true h6;refine PS ?_;refine nx J3 (CN (qx J2 (sr λ_ J4=>P3 ?_)));refine tp (bc (r:=off) rfl PX rfl uE rfl rfl) ?_;refine IX (off+who.toNat*174) I0 bf ?_;refine tp (aN (vs:=ints (B.rows[who.toNat]'(by omega)).flat) rfl ei rfl bf rfl (RO 1) (ai (B.rows[who.toNat]'(by omega))) (Qh hA (j:=who.toNat*174) (by omega) (LB (yE _)) (Qe B (who.toNat*174) (by omega) (by omega) (lA dN B.rows (i:=who.toNat) 0 (by omega) (by omega) (by decide) (whole (ai (B.rows[who.toNat]'(by omega)))))))) ?_;refine SW 0 bf ai ?_;refine nx J4 (ah (RC 0 [1] ei bf (ai _) ?_));exact⟨by rw[cA,dif_pos h6],rfl⟩;refine PS ?_;refine nx J3 (CY (sr λ_ J5=>BV ((ints RowT.zero.flat).toArray) ?_));refine SW 0 bf ai ?_;refine nx J5 (ah (ae (RC 0 [1] ei bf (ai _) ?_)));exact⟨by rw[cA,dif_neg (by simp[h6])],rfl⟩
theorem lO(b off T:Nat)(cs:BookT→List Value)(hA:Arnd cs (λx=>ints x.flat) off)(B:BookT)(who:Int)(x:RowT)(hx:WF x.flat):
 DT 34 #[(.pointer (some ⟨b,off,none⟩)),(.int .i64 (who)),(.agg (ints x.flat).toArray)] T0 [aj b (cs B) T] (RI (.bool (dC B who x).2) [aj b (cs (dC B who x).1) T]):=by
 refine BD 33 Tryz.func34 rfl rfl rfl λw0 F hF=>sr λ_ J1=>XY (ints x.flat) λb5=>?_
 refine PS ?_;refine nx J1 (aa λ_ J2=>aa λ_ J3=>D2 0 1 bl ?_);refine PD 0 ?_;refine AL 1 ?_;refine CE NK (l9 who) ID ?_;refine bg ?_ ?_<;>intro h8;have hm:0≤who∧who<5:=of_decide_eq_true h8;have hrow:cA B who=B.rows[who.toNat]'(by omega):=by rw[cA,dif_pos h8]
 refine au (E2 0 1 (PD 2 ?_));refine PD 3 ?_;refine LY 4 ei bf ai ?_;refine AL 5 ?_;refine CE JW (kC x hx) ID ?_;refine bg ?_ ?_<;>intro h12;refine au (E2 0 1 (PD 6 ?_));refine PD 7 ?_;refine PD 8 ?_;refine FD 9 0 ei aP ?_;refine LR 10 Y3 (cN x rfl) ?_;refine PD 11 ?_;refine PD 12 ?_;refine PD 13 ?_;refine tb 14 rfl (bc (r:=off) rfl PX rfl uE rfl rfl) ?_;refine IY 15 (off+who.toNat*174) I0 bf ?_;refine tb 16 rfl (bc (r:=off+who.toNat*174) rfl ei rfl aP rfl rfl) ?_;refine LX 17 Y3 (.int .i64 ((B.rows[who.toNat]'(by omega)).version)) ?_ (hc:=by exact Arnd.at hA (j:=who.toNat*174) (by omega) (LB (yE _)) (BookT.pt_rows B (who.toNat*174) (by omega) (by omega) (pR dN B.rows (i:=who.toNat) 0 (by omega) (by omega) (by decide) (cN _ rfl))));refine PD 18 ?_;refine kg ?_ ?_<;>intro h25;refine PD 19 ?_;refine DN (ad J3 (CY (sr λ_ J4=>PS ?_)));refine nx J4 (ah (ae (WK [1] (aw rfl rfl ?_))));have e:dC B who x=(B,false):=by rw[dC,if_neg (λh=>by simp only[ao,decide_eq_true_iff]at h;rw[hrow]at h;omega)]
 exact⟨by rw[e],by rw[e];rfl⟩;refine PD 19 ?_;refine DN (ad J3 (CN (qx J2 (aa λ_ J5=>D1 0 bl ?_))));refine PD 0 ?_;refine PD 1 ?_;refine LY 2 ei bf ai ?_;refine PD 3 ?_;refine ta 4 rfl (bc (r:=off) rfl PX rfl uE rfl rfl) ?_;refine IY 5 (off+who.toNat*174) I0 bf ?_;refine AL 6 ?_;refine bW (vs:=ints x.flat) (i:=1) (ab rfl) rfl rfl rfl rfl rfl (by rw[(ai x)];exact bf) (bv _) rfl rfl (by have h0:=(yE B);have h2:=Arnd.le hA B;have h1:=(ai x);omega) (Arnd.wr hA (x:=B) (x':=(BookT.mk (B.rows.set who.toNat x (by omega)))) (j:=who.toNat*174) (by omega) (LC (yE _) (ai _)) (BookT.wr_rows_ B (who.toNat*174) (by omega) (by have h1:=(ai x);omega) (pQ dN B.rows (i:=who.toNat) 0 (by omega) (by omega) (by have h1:=(ai x);omega) (cy ((ai (B.rows[who.toNat]'(by omega))).trans (ai x).symm))))) rfl (au (E1 0 (DN (ad J5 (sr λ_ J6=>PS ?_)))));refine nx J6 (ah (WK [1] (aw rfl rfl ?_)));have e:dC B who x=(xG B who x,true):=by rw[dC,if_pos (by simp only[ao,decide_eq_true_iff,hrow];exact⟨⟨h8,h12⟩,by omega⟩)]
 exact⟨by rw[e],by rw[e,xG,dif_pos h8];rfl⟩;refine au (E2 0 1 (PD 6 ?_));refine PD 7 ?_;refine PD 8 ?_;refine NT 9 ?_;refine NT 10 ?_;refine NT 11 ?_;refine NT 12 ?_;refine NT 13 ?_;refine NT 14 ?_;refine NT 15 ?_;refine NT 16 ?_;refine NT 17 ?_;refine NT 18 ?_;refine PD 19 ?_;refine DN (ad J3 (CY (sr λ_ J7=>PS ?_)));refine nx J7 (ah (ae (WK [1] (aw rfl rfl ?_))));have e:dC B who x=(B,false):=by rw[dC,if_neg (λh=>by simp only[ao,decide_eq_true_iff]at h;rw[h12]at h;exact absurd h.1.2 (by decide))]
 exact⟨by rw[e],by rw[e];rfl⟩;refine au (E2 0 1 (PD 2 ?_));refine PD 3 ?_;refine NT 4 ?_;refine NT 5 ?_;refine NT 6 ?_;refine PD 7 ?_;refine PD 8 ?_;refine NT 9 ?_;refine NT 10 ?_;refine NT 11 ?_;refine NT 12 ?_;refine NT 13 ?_;refine NT 14 ?_;refine NT 15 ?_;refine NT 16 ?_;refine NT 17 ?_;refine NT 18 ?_;refine PD 19 ?_;refine DN (ad J3 (CY (sr λ_ J8=>PS ?_)));refine nx J8 (ah (ae (WK [1] (aw rfl rfl ?_))));have e:dC B who x=(B,false):=by rw[dC,if_neg (λh=>by simp only[ao,decide_eq_true_iff]at h;rw[h8]at h;exact absurd h.1.1 (by decide))]
 exact⟨by rw[e],by rw[e];rfl⟩
theorem iq(b off T:Nat)(cs:BookT→List Value)(hA:Arnd cs (λx=>ints x.flat) off)(B:BookT)(of' key:Int):
 DT 35 #[(.pointer (some ⟨b,off,none⟩)),(.int .i64 (of')),(.int .i64 (key))] T0 [aj b (cs B) T] (RI (.agg (ints (cq B of' key).flat).toArray) [aj b (cs B) T]):=by
 refine BD 35 Tryz.func35 rfl rfl rfl λw0 F hF=>sr λ_ J1=>XZ Lm (ints CellT.zero.flat) λb6=>?_
 refine nx J1 (sr λ_ J2=>XZ Lm (ints CellT.zero.flat) λb7=>?_);refine nx J2 (sr λ_ J3=>PS ?_);refine nx J3 (aa λ_ J4=>sr λ_ J5=>PS ?_);refine nx J5 (am ?_)
 refine bG (α:=(Nat)×(CellT)×(Int)) (λ⟨k,c,n⟩=>k≤5∧(c,n)=pN B of' key k) (λ⟨k,c,n⟩=>[(0,(.pointer (some ⟨b,off,none⟩))),(1,(.int .i64 (of'))),(2,(.int .i64 (key))),(6,(.pointer (some ⟨b6,0,none⟩))),(7,(.pointer (some ⟨b7,0,none⟩))),(8,(.int .i64 (n))),(12,(.int .i64 (((k:Nat):Int))))]) (λ⟨k,c,n⟩=>[aj b7 (ints c.flat) 70,aj b6 (ints CellT.zero.flat) 70,aj b (cs B) T]) (λ⟨k,c,n⟩=>5-k) (0,CellT.zero, -1)
  ⟨aO _,rfl⟩ SB
  (λ_ s=>s) (λ⟨k,c,n⟩ hinv=>?_)
 obtain⟨hk,hc⟩:=hinv;refine sr λ_ J6=>PS ?_
 refine ap ?_ ?_<;>intro h13;refine nx J6 (aa λ_ J7=>CY (qx J7 (aa λ_ J8=>am (sr λ_ J9=>P2 ?_))));refine nx J9 (sr λ_ J10=>P3 ?_);refine tp (bc (r:=off) rfl PX rfl uE rfl rfl) ?_;refine IX (off+k*174) I0 bf ?_;refine tp (aN (vs:=ints (B.rows[k]'(by omega)).flat) rfl ei rfl bf rfl (RO 2) (ai (B.rows[k]'(by omega))) (Qh hA (j:=k*174) (by omega) (LB (yE _)) (Qe B (k*174) (by omega) (by omega) (lA dN B.rows (i:=k) 0 (by omega) (by omega) (by decide) (whole (ai (B.rows[k]'(by omega)))))))) ?_;refine P3 ?_;refine CE QL (Bc (B.rows[k]'(by omega)) ((k:Nat):Int) of' key) ID ?_;refine P3 ?_;refine XZ Lm (ints CellT.zero.flat) λb10=>?_
 refine SW 0 fj aU ?_;refine PS ?_;refine nx J10 (sr λ_ J11=>P3 ?_);refine ap ?_ ?_<;>intro h30;refine nx J11 (CY (ac (LW 0 nz fj aU ?_)));refine PS ?_;refine SW 1 fj aU ?_;refine PS ?_;refine au (af (ad J8 (ac (AD ?_))));refine PS ?_;refine au ?_
 exact aL ((k+1,(rowCell (B.rows[k]'(by omega)) ((k:Nat):Int) of' key).1,(rowCell (B.rows[k]'(by omega)) ((k:Nat):Int) of' key).2):(Nat)×(CellT)×(Int)) ⟨by omega,by rw[oy,←hc,qT,yv B (by omega)];simp[h30]⟩ (by show 5- (k+1)<5-k;omega)
  SB
  (λ_ s=>ak [1,1,1] rfl s)
 refine nx J11 (CN (aR (af (ad J8 (ac (AD ?_))))));refine PS ?_;refine au ?_
 exact aL ((k+1,c,n):(Nat)×(CellT)×(Int)) ⟨by omega,by rw[oy,←hc,qT,yv B (by omega)];simp[h30]⟩ (by show 5- (k+1)<5-k;omega)
  SB
  (λ_ s=>ak [1,1,1] rfl s)
 refine nx J6 (aa λ_ J12=>CN (aW (aA (aA (br (ad J4 (sr λ_ J13=>LW 0 nz fj aU ?_)))))));refine SW 1 fj aU ?_;refine nx J13 (ah (RC 1 [2] nz fj (aU _) ?_));obtain rfl:k=5:=by omega
 exact⟨by rw[cq,←hc],rfl⟩
theorem jT(b off T:Nat)(cs:BookT→List Value)(hA:Arnd cs (λx=>ints x.flat) off)(B:BookT)(key:Int):
 DT 12 #[(.pointer (some ⟨b,off,none⟩)),(.int .i64 (key))] T0 [aj b (cs B) T] (RI (.int .i64 (gh B key)) [aj b (cs B) T]):=by
 refine BD 24 Tryz.func12 rfl rfl rfl λw0 F hF=>sr λ_ J1=>PS ?_
 refine nx J1 (sr λ_ J2=>PS ?_);refine nx J2 (aa λ_ J3=>sr λ_ J4=>PS ?_);refine nx J4 (am ?_)
 refine bG (α:=(Nat)×(Int)) (λ⟨k,n⟩=>k≤5∧n=valueTo B key k) (λ⟨k,n⟩=>[(0,(.pointer (some ⟨b,off,none⟩))),(1,(.int .i64 (key))),(4,(.int .i64 0)),(5,(.int .i64 (n))),(8,(.int .i64 (((k:Nat):Int))))]) (λ⟨k,n⟩=>[aj b (cs B) T]) (λ⟨k,n⟩=>5-k) (0,0)
  ⟨aO _,rfl⟩ SB
  (λ_ s=>s) (λ⟨k,n⟩ hinv=>?_)
 obtain⟨hk,hc⟩:=hinv;refine sr λ_ J5=>PS ?_
 refine ap ?_ ?_<;>intro h9;refine nx J5 (aa λ_ J6=>CY (qx J6 (aa λ_ J7=>am (sr λ_ J8=>P2 ?_))));refine nx J8 (sr λ_ J9=>P3 ?_);refine CE Ft (iq b off T cs hA B ((k:Nat):Int) key) ID ?_;refine XZ Lm (ints CellT.zero.flat) λb7=>?_
 refine SW 0 fj aU ?_;refine nx J9 (ac (PS ?_));refine FA 0 nz aP ?_;refine LT 0 Y3 (.int .i64 ((cq B ((k:Nat):Int) key).inn)) ?_ (hc:=by exact zq _ rfl);refine FA 1 nz aP ?_;refine LT 0 Y3 (.int .i64 ((cq B ((k:Nat):Int) key).out)) ?_ (hc:=by exact zp _ rfl);refine tp (jj (r:=(fw (((cq B ((k:Nat):Int) key).inn)- ((cq B ((k:Nat):Int) key).out)))) rfl rfl rfl rfl) ?_;refine tp (bC (r:=(fw (n+(fw (((cq B ((k:Nat):Int) key).inn)- ((cq B ((k:Nat):Int) key).out)))))) rfl rfl rfl rfl) ?_;refine PS ?_;refine au (af (ad J7 (ac (AD ?_))));refine PS ?_;refine au ?_
 exact aL ((k+1,(fw (n+(fw (((cq B ((k:Nat):Int) key).inn)- ((cq B ((k:Nat):Int) key).out)))))):(Nat)×(Int)) ⟨by omega,by rw[pk,←hc]⟩ (by show 5- (k+1)<5-k;omega)
  SB
  (λ_ s=>ak [1] rfl s)
 refine nx J5 (aa λ_ J10=>CN (aW (aA (aA (br (ad J3 (sr λ_ J11=>P2 ?_)))))));refine nx J11 (ah (WK [0] (aw rfl rfl ?_)));obtain rfl:k=5:=by omega
 exact⟨by rw[hc];rfl,rfl⟩
theorem pX(b off T:Nat)(cs:BookT→List Value)(hA:Arnd cs (λx=>ints x.flat) off)(B:BookT)(who key:Int):
    DT 36 #[(.pointer (some ⟨b,off,none⟩)),(.int .i64 (who)),(.int .i64 (key))] T0 [aj b (cs B) T] (RI (.int .i64 (fl B who key)) [aj b (cs B) T]):=by
 refine BD 71 Tryz.func36 rfl rfl rfl λw0 F hF=>sr λ_ J1=>PS ?_
 refine nx J1 (aa λ_ J2=>sr λ_ J3=>PS ?_);refine CE NK (l9 who) ID ?_;refine bg ?_ ?_<;>intro h14;have hm:0≤who∧who<5:=of_decide_eq_true h14;refine PS ?_;refine nx J3 (CN (qx J2 (sr λ_ J4=>XZ Ow (ints ((#v[CellT.zero,CellT.zero,CellT.zero,CellT.zero,CellT.zero]).toList.flatMap CellT.flat)) λb7=>?_)));refine nx J4 (aa λ_ J5=>sr λ_ J6=>PS ?_);refine nx J6 (am ?_)
 refine bG (α:=(Nat)×(Vector CellT 5)) (λ⟨k,C⟩=>k≤5∧∀(j:Nat) (h:j<5),j<k→C[j]=cq B j key) (λ⟨k,C⟩=>[(0,(.pointer (some ⟨b,off,none⟩))),(1,(.int .i64 (who))),(2,(.int .i64 (key))),(6,(.int .i64 0)),(7,(.pointer (some ⟨b7,0,none⟩))),(16,(.int .i64 (((k:Nat):Int))))]) (λ⟨k,C⟩=>[aj b7 (ints (C.toList.flatMap CellT.flat)) 154,aj b (cs B) T]) (λ⟨k,C⟩=>5-k) (0, #v[CellT.zero,CellT.zero,CellT.zero,CellT.zero,CellT.zero])
     ⟨aO _,λj _ h=>absurd h (by omega)⟩ SB
     (λ_ s=>ak [0,0] rfl s) (λ⟨k,C⟩ hinv=>?_)
 obtain⟨hk,hC⟩:=hinv;refine sr λ_ J7=>PS ?_
 refine ap ?_ ?_<;>intro h17;refine nx J7 (aa λ_ J8=>CY (qx J8 (aa λ_ J9=>am (sr λ_ J10=>P2 ?_))));refine nx J10 (ac (P4 ?_));refine CE Ft (iq b off T cs hA B ((k:Nat):Int) key) (SM [1]) ?_;refine IX (k*7) uk fj ?_;refine bW (vs:=ints (cq B ((k:Nat):Int) key).flat) (i:=1) (ab rfl) rfl rfl rfl rfl rfl (by rw[(aU (cq B ((k:Nat):Int) key))];exact fj) (bv _) rfl rfl (by have h0:=(ri C);have h1:=(aU (cq B ((k:Nat):Int) key));omega) (pQ bu C (i:=k) 0 (by omega) (by omega) (by have h1:=(aU (cq B ((k:Nat):Int) key));omega) (cy ((aU (C[k]'(by omega))).trans (aU (cq B ((k:Nat):Int) key)).symm))) rfl (au (af (ad J9 (ac (AD ?_)))));refine PS ?_;refine au ?_
 exact aL ((k+1,(C.set k (cq B ((k:Nat):Int) key) (by omega))):(Nat)×(Vector CellT 5)) ⟨by omega,λj h hj=>by
        rw[Vector.getElem_set];split
        · subst_vars;rfl
        · exact hC j h (by omega)⟩ (by show 5- (k+1)<5-k;omega)
   SB
   (λ_ s=>ak [1,0] rfl s)
 refine nx J7 (aa λ_ J11=>CN (aW (aA (aA (br (ad J5 (sr λ_ J12=>PS ?_)))))));refine nx J12 (aa λ_ J13=>sr λ_ J14=>P3 ?_);refine tp (bc (r:=off) rfl PX rfl uE rfl rfl) ?_;refine IX (off+who.toNat*174) I0 bf ?_;refine tp (aN (vs:=ints (B.rows[who.toNat]'(by omega)).flat) rfl ei rfl bf rfl (RO 1) (ai (B.rows[who.toNat]'(by omega))) (Qh hA (j:=who.toNat*174) (by omega) (LB (yE _)) (Qe B (who.toNat*174) (by omega) (by omega) (lA dN B.rows (i:=who.toNat) 0 (by omega) (by omega) (by decide) (whole (ai (B.rows[who.toNat]'(by omega)))))))) ?_;refine PS ?_;have hbr:B.rows[who.toNat]'(by omega)=cA B who:=by rw[cA,dif_pos h14]
 rw[hbr];refine CR QK (Da (cA B who) who) ID λvR HR hR=>?_
 obtain⟨_,rfl,rfl⟩:=hR;revert vR;intro ul1;refine jb 0 rfl rfl (λhlul1 houl1=>tp (dL rfl dZ rfl hlul1) ?_);refine PS ?_;refine nx J14 (am ?_)
 refine bG (α:=(Nat)×(Int)) (λ⟨i,r⟩=>i≤(fZ (cA B who) who).length∧r=((fZ (cA B who) who).take i).foldl (lZ B key) 0) (λ⟨i,r⟩=>[(0,(.pointer (some ⟨b,off,none⟩))),(6,(.int .i64 0)),(7,(.pointer (some ⟨b7,0,none⟩))),(9,(.int .i64 (r))),(33,ul1),(34,(.int .i64 ((((fZ (cA B who) who).length:Nat):Int)))),(35,(.int .i64 (((i:Nat):Int))))]) (λ⟨i,r⟩=>[own ul1 ((fZ (cA B who) who).length) (ints (fZ (cA B who) who)) 3 1,aj b7 (ints (C.toList.flatMap CellT.flat)) 154,aj b (cs B) T]) (λ⟨i,r⟩=>(fZ (cA B who) who).length-i) (0,0)
     ⟨aO _,rfl⟩ SB
     (λ_ s=>ak [0,0,0] rfl s) (λ⟨i,r⟩ hinv=>?_)
 obtain⟨hi,hr⟩:=hinv;have hE: ∀(j:Nat) (h:j<5),C[j]=cq B j key:=λj h=>hC j h (by omega)
 refine sr λ_ J15=>PS ?_
 refine ap ?_ ?_<;>intro h36;refine nx J15 (aa λ_ J16=>CY (qx J16 (aa λ_ J17=>am (sr λ_ J18=>jW 0 rfl rfl (by omega) (λga capa hva hcapa=>?_)))));obtain⟨q,hq,hq5⟩: ∃q:Nat,(fZ (cA B who) who)[i]=((q:Nat):Int)∧q<5:=by have:=Ff (cA B who) who _ (ek (show i< (fZ (cA B who) who).length by omega));exact⟨(fZ (cA B who) who)[i].toNat,by omega,by omega⟩
 have hE2:C[q]=cq B (fZ (cA B who) who)[i] key:=by rw[hE q hq5,hq]
 refine tp (bn (r:=i) hva rfl dZ aP rfl rfl (by omega) (by omega) (by omega)) ?_;refine tp (cj (v:=(.int .i64 (((q:Nat):Int)))) rfl Y3 rfl rfl (gK 0 rfl hva rfl) (by rw[←hq];simp[ints,show i< (fZ (cA B who) who).length by omega])) ?_;refine PS ?_;refine nx J18 (aa λ_ J19=>D1 1 bl ?_);refine PD 0 ?_;refine PD 1 ?_;refine IY 2 (q*7) uk fj ?_;refine ta 3 rfl (bc (r:=q*7) rfl nz rfl aP rfl rfl) ?_;refine LX 4 Y3 (.int .i64 ((C[q]'(by omega)).inn)) ?_ (hc:=by exact pR bu C (i:=q) 0 (by omega) (by omega) (by decide) (zq _ rfl));refine PD 5 ?_;refine IY 6 (q*7) uk fj ?_;refine ta 7 rfl (bc (r:=q*7+1) rfl nz rfl aP rfl rfl) ?_;refine LX 8 Y3 (.int .i64 ((C[q]'(by omega)).out)) ?_ (hc:=by exact pR bu C (i:=q) 1 (by omega) (by omega) (by decide) (zp _ rfl));refine ta 9 rfl (jj (r:=(fw (((C[q]'(by omega)).inn)- ((C[q]'(by omega)).out)))) rfl rfl rfl rfl) ?_;refine ta 10 rfl (bC (r:=(fw (r+(fw (((C[q]'(by omega)).inn)- ((C[q]'(by omega)).out)))))) rfl rfl rfl rfl) ?_;refine PD 11 ?_;refine DN (ad J19 (sr λ_ J20=>PS ?_));refine nx J20 (am ?_)
 refine bG (α:=(Nat)×(Int)) (λ⟨o,r3⟩=>o≤5∧r3=rightsIn B key (fZ (cA B who) who)[i] (fw (r+fw (C[q].inn-C[q].out))) o) (λ⟨o,r3⟩=>[(0,(.pointer (some ⟨b,off,none⟩))),(6,(.int .i64 0)),(7,(.pointer (some ⟨b7,0,none⟩))),(9,(.int .i64 (r3))),(11,(.int .i64 (((q:Nat):Int)))),(33,ul1),(34,(.int .i64 ((((fZ (cA B who) who).length:Nat):Int)))),(35,(.int .i64 (((i:Nat):Int)))),(50,(.int .i64 (((o:Nat):Int))))]) (λ⟨o,r3⟩=>[own ul1 ((fZ (cA B who) who).length) (ints (fZ (cA B who) who)) 3 1,aj b7 (ints (C.toList.flatMap CellT.flat)) 154,aj b (cs B) T]) (λ⟨o,r3⟩=>5-o) (0,(fw (r+(fw (((C[q]'(by omega)).inn)- ((C[q]'(by omega)).out))))))
     ⟨aO _,rfl⟩ SB
     (λ_ s=>ak [0,0,0] rfl s) (λ⟨o,r3⟩ hinv=>?_)
 obtain⟨ho,hr3⟩:=hinv;refine sr λ_ J21=>PS ?_
 refine ap ?_ ?_<;>intro h51;refine nx J21 (aa λ_ J22=>CY (qx J22 (aa λ_ J23=>am (sr λ_ J24=>P2 ?_))));refine nx J24 (D1 1 bl ?_);refine PD 0 ?_;refine PD 1 ?_;refine PD 2 ?_;refine IY 3 (o*7) uk fj ?_;refine ta 4 rfl (bc (r:=o*7+2) rfl nz rfl fP rfl rfl) ?_;refine IY 5 (o*7+2+q) kI aP ?_;refine LX 6 Y3 (.int .i64 ((((C[o]'(by omega)).given)[q]'(by omega)))) ?_ (hc:=by exact pR bu C (i:=o) (2+q) (by omega) (by omega) (by omega) (Qc (C[o]'(by omega)) q (by omega) (by omega) (ld ((C[o]'(by omega)).given) (by omega))));refine PD 7 ?_;refine PD 8 ?_;refine IY 9 (q*7) uk fj ?_;refine ta 10 rfl (bc (r:=q*7+2) rfl nz rfl fP rfl rfl) ?_;refine IY 11 (q*7+2+o) kI aP ?_;refine LX 12 Y3 (.int .i64 ((((C[q]'(by omega)).given)[o]'(by omega)))) ?_ (hc:=by exact pR bu C (i:=q) (2+o) (by omega) (by omega) (by omega) (Qc (C[q]'(by omega)) o (by omega) (by omega) (ld ((C[q]'(by omega)).given) (by omega))));refine ta 13 rfl (jj (r:=(fw ((((C[o]'(by omega)).given)[q]'(by omega))- (((C[q]'(by omega)).given)[o]'(by omega))))) rfl rfl rfl rfl) ?_;refine ta 14 rfl (bC (r:=(fw (r3+(fw ((((C[o]'(by omega)).given)[q]'(by omega))- (((C[q]'(by omega)).given)[o]'(by omega))))))) rfl rfl rfl rfl) ?_;refine PD 15 ?_;refine DN (af (ad J23 (ac (AD ?_))));refine PS ?_;refine au ?_
 exact aL ((o+1,(fw (r3+(fw ((((C[o]'(by omega)).given)[q]'(by omega))- (((C[q]'(by omega)).given)[o]'(by omega))))))):(Nat)×(Int)) ⟨by omega,by rw[oG,←hr3,ya _ (by omega),hq,ya _ hq5,←hE o (by omega),←hE q hq5]⟩ (by show 5- (o+1)<5-o;omega)
   SB
   (λ_ s=>ak [0,0,0] rfl s)
 refine nx J21 (aa λ_ J25=>CN (aW (aA (aA (br (af (ad J17 (ac (AD ?_)))))))));refine PS ?_;refine au ?_
 exact aL ((i+1,r3):(Nat)×(Int)) ⟨by omega,by
          have h5:o=5:=by omega
          rw[bZ (by omega),fi,←hr];show r3=lZ B key r _
          rw[hr3,h5,lZ,←hE2]⟩ (by show(fZ (cA B who) who).length- (i+1)< (fZ (cA B who) who).length-i;omega)
   SB
   (λ_ s=>ak [0,0,0] rfl s)
 refine nx J15 (aa λ_ J26=>CN (aW (aA (aA (br (ad J13 (sr λ_ J27=>P2 ?_)))))));refine nx J27 (ah (WK [2] (aw rfl rfl ?_)));obtain rfl:i=(fZ (cA B who) who).length:=by omega
 exact⟨by rw[fl,if_pos h14,hr,gA],rfl⟩;refine PS ?_;refine nx J3 (CY (sr λ_ J28=>PS ?_));refine nx J28 (ah (ae (WK [0] (aw rfl rfl ?_))));exact⟨by rw[fl,if_neg (by simp[h14])],rfl⟩
theorem mA(b off T:Nat)(cs:MirT→List Value)(hA:Arnd cs MirT.cells off)(M:MirT)(who:Int):
 DT 74 #[(.pointer (some ⟨b,off,none⟩)),(.int .i64 (who))] T0 [aj b (cs M) T] (RI (.agg (ints (mirRow M who).flat).toArray) [aj b (cs M) T]):=by
 refine BD 15 Tryz.func74 rfl rfl rfl λw0 F hF=>sr λ_ J1=>XZ vl (ints RowT.zero.flat) λb4=>?_
 refine nx J1 (aa λ_ J2=>sr λ_ J3=>PS ?_);refine CE GP (iU who) ID ?_;refine bg ?_ ?_<;>intro h6;have hm:0≤who∧who<5:=of_decide_eq_true h6;refine PS ?_;refine nx J3 (CN (qx J2 (sr λ_ J4=>P3 ?_)));refine tp (bc (r:=off) rfl Oe rfl uE rfl rfl) ?_;refine IX (off+who.toNat*174) I0 bf ?_;refine tp (aN (vs:=ints (M.rows[who.toNat]'(by omega)).flat) rfl ei rfl bf rfl (RO 1) (ai (M.rows[who.toNat]'(by omega))) (Qh hA (j:=who.toNat*174) (by omega) (LB (q8 _)) (MirT.sub_rows M (who.toNat*174) (by omega) (by omega) (lA dN M.rows (i:=who.toNat) 0 (by omega) (by omega) (by decide) (whole (ai (M.rows[who.toNat]'(by omega)))))))) ?_;refine SW 0 bf ai ?_;refine nx J4 (ah (RC 0 [1] ei bf (ai _) ?_));exact⟨by rw[mirRow,dif_pos h6],rfl⟩;refine PS ?_;refine nx J3 (CY (sr λ_ J5=>BV ((ints RowT.zero.flat).toArray) ?_));refine SW 0 bf ai ?_;refine nx J5 (ah (ae (RC 0 [1] ei bf (ai _) ?_)));exact⟨by rw[mirRow,dif_neg (by simp[h6])],rfl⟩
theorem nU(b off T:Nat)(cs:MirT→List Value)(hA:Arnd cs MirT.cells off)(M:MirT)(who:Int):
 DT 75 #[(.pointer (some ⟨b,off,none⟩)),(.int .i64 (who))] T0 [aj b (cs M) T] (RI (.bool (fb M who)) [aj b (cs M) T]):=by
 refine BD 15 Tryz.func75 rfl rfl rfl λw0 F hF=>sr λ_ J1=>PS ?_
 refine nx J1 (sr λ_ J2=>PS ?_);refine CE GP (iU who) ID ?_;refine bg ?_ ?_<;>intro h6;have hm:0≤who∧who<5:=of_decide_eq_true h6;refine P4 ?_;refine tq (bc (r:=off+870) rfl Oe rfl Nv rfl rfl) ?_;refine IX (off+870+who.toNat) Tryz.underlying86 lR ?_;refine LT 0 Y4 (.bool ((M.sealed[who.toNat]'(by omega)))) ?_ (hc:=by exact Arnd.at hA (j:=870+who.toNat) (by omega) (LB (q8 _)) (MirT.pt_sealed M (who.toNat) (by omega) (by omega) (MR M.sealed (by omega))));refine P2 ?_;refine nx J2 (ah (WK [0] (aw rfl rfl ?_)));exact⟨by simp[fb, *],rfl⟩;refine PS ?_
 iterate 6 refine UF ?_
 refine P2 ?_;refine nx J2 (ah (WK [0] (aw rfl rfl ?_)));exact⟨by simp[fb, *],rfl⟩
theorem rK(b off T:Nat)(cs:MirT→List Value)(hA:Arnd cs MirT.cells off)(M:MirT)(who:Int)(x:RowT)(hx:WF x.flat):
 DT 140 #[(.pointer (some ⟨b,off,none⟩)),(.int .i64 (who)),(.agg (ints x.flat).toArray)] T0 [aj b (cs M) T] (RI (.bool (iK M who x)) [aj b (cs M) T]):=by
 refine BD 34 Tryz.func140 rfl rfl rfl λw0 F hF=>sr λ_ J1=>XY (ints x.flat) λb5=>?_
 refine PS ?_;refine nx J1 (aa λ_ J2=>D2 1 0 bl ?_);refine PD 0 ?_;refine AL 1 ?_;refine CE GP (iU who) ID ?_;refine bg ?_ ?_<;>intro h8;have hm:0≤who∧who<5:=of_decide_eq_true h8;refine EN (PD 2 ?_);refine PD 3 ?_;refine PD 4 ?_;refine PD 5 ?_;refine tb 6 rfl (bc (r:=off+870) rfl Oe rfl Nv rfl rfl) ?_;refine IY 7 (off+870+who.toNat) Tryz.underlying86 lR ?_;refine LX 8 Y4 (.bool ((M.sealed[who.toNat]'(by omega)))) ?_ (hc:=by exact Arnd.at hA (j:=870+who.toNat) (by omega) (LB (q8 _)) (MirT.pt_sealed M (who.toNat) (by omega) (by omega) (MR M.sealed (by omega))));refine sJ ?_ ?_<;>intro h15;refine PD 9 ?_;refine PD 10 ?_;refine PD 11 ?_;refine NT 12 ?_;refine NT 13 ?_;refine PD 14 ?_;refine PD 15 ?_;refine NT 16 ?_;refine NT 17 ?_;refine NT 18 ?_;refine NT 19 ?_;refine NT 20 ?_;refine NT 21 ?_;refine NT 22 ?_;refine NT 23 ?_;refine NT 24 ?_;refine NT 25 ?_;refine PD 26 ?_;refine PD 27 ?_;refine DN (ad J2 (ah (WK [1] (aw rfl rfl ?_))));exact⟨by simp[iK,fb,mirRow, *],rfl⟩;refine PD 9 ?_;refine PD 10 ?_;refine PD 11 ?_;refine LY 12 ei bf ai ?_;refine AL 13 ?_;refine CE JW (kC x hx) ID ?_;refine bg ?_ ?_<;>intro h20;refine EN (PD 14 ?_);refine PD 15 ?_;refine FD 16 0 ei aP ?_;refine LR 17 Y3 (cN x rfl) ?_;refine PD 18 ?_;refine PD 19 ?_;refine PD 20 ?_;refine tb 21 rfl (bc (r:=off) rfl Oe rfl uE rfl rfl) ?_;refine IY 22 (off+who.toNat*174) I0 bf ?_;refine tb 23 rfl (bc (r:=off+who.toNat*174) rfl ei rfl aP rfl rfl) ?_
 refine LX 24 Y3 (.int .i64 ((M.rows[who.toNat]'(by omega)).version)) ?_ (hc:=by exact Arnd.at hA (j:=who.toNat*174) (by omega) (LB (q8 _)) (MirT.pt_rows M (who.toNat*174) (by omega) (by omega) (pR dN M.rows (i:=who.toNat) 0 (by omega) (by omega) (by decide) (cN _ rfl))));refine PD 25 ?_;refine PD 26 ?_;refine PD 27 ?_;refine DN (ad J2 (ah (WK [1] (aw rfl rfl ?_))));exact⟨by simp[iK,fb,mirRow, *],rfl⟩;refine EN (PD 14 ?_);refine PD 15 ?_;refine NT 16 ?_;refine NT 17 ?_;refine NT 18 ?_;refine NT 19 ?_;refine NT 20 ?_;refine NT 21 ?_;refine NT 22 ?_;refine NT 23 ?_;refine NT 24 ?_;refine NT 25 ?_;refine PD 26 ?_;refine PD 27 ?_;refine DN (ad J2 (ah (WK [1] (aw rfl rfl ?_))));exact⟨by simp[iK,fb,mirRow, *],rfl⟩;refine EN (PD 2 ?_);refine NT 3 ?_;refine NT 4 ?_;refine NT 5 ?_;refine NT 6 ?_;refine NT 7 ?_;refine NT 8 ?_;refine NT 9 ?_;refine PD 10 ?_;refine PD 11 ?_;refine NT 12 ?_;refine NT 13 ?_;refine PD 14 ?_;refine PD 15 ?_;refine NT 16 ?_;refine NT 17 ?_;refine NT 18 ?_;refine NT 19 ?_;refine NT 20 ?_;refine NT 21 ?_;refine NT 22 ?_;refine NT 23 ?_;refine NT 24 ?_;refine NT 25 ?_;refine PD 26 ?_;refine PD 27 ?_;refine DN (ad J2 (ah (WK [1] (aw rfl rfl ?_))));exact⟨by simp[iK,fb,mirRow, *],rfl⟩
theorem tO(b off T:Nat)(cs:MirT→List Value)(hA:Arnd cs MirT.cells off)(M:MirT)(who:Int)(x:RowT)(hx:WF x.flat):
 DT 91 #[(.pointer (some ⟨b,off,none⟩)),(.int .i64 (who)),(.agg (ints x.flat).toArray)] T0 [aj b (cs M) T] (RI (.bool (iC M who x).2) [aj b (cs (iC M who x).1) T]):=by
 refine BD 18 Tryz.func91 rfl rfl rfl λw0 F hF=>sr λ_ J1=>XY (ints x.flat) λb5=>?_
 refine PS ?_;refine nx J1 (aa λ_ J2=>sr λ_ J3=>P2 ?_);refine LW 0 ei bf ai ?_;refine CE M5 (rK b off T cs hA M who x hx) (SM [1]) ?_;refine bg ?_ ?_<;>intro h10;have hm0:cJ who=true:=by have:=h10;simp only[iK,ao]at this;exact this.1.1.1
 have hm:0≤who∧who<5:=of_decide_eq_true hm0;refine PS ?_;refine nx J3 (CN (qx J2 (aa λ_ J4=>D1 1 bl ?_)));refine PD 0 ?_;refine PD 1 ?_;refine LY 2 ei bf ai ?_;refine PD 3 ?_;refine ta 4 rfl (bc (r:=off) rfl Oe rfl uE rfl rfl) ?_;refine IY 5 (off+who.toNat*174) I0 bf ?_;refine AL 6 ?_;refine bW (vs:=ints x.flat) (i:=0) (ab rfl) rfl rfl rfl rfl rfl (by rw[(ai x)];exact bf) (bv _) rfl rfl (by have h0:=(q8 M);have h2:=Arnd.le hA M;have h1:=(ai x);omega) (Arnd.wr hA (x:=M) (x':=(MirT.mk (M.rows.set who.toNat x (by omega)) M.sealed)) (j:=who.toNat*174) (by omega) (LC (q8 _) (ai _)) (MirT.wr_rows_ M (who.toNat*174) (by omega) (by have h1:=(ai x);omega) (pQ dN M.rows (i:=who.toNat) 0 (by omega) (by omega) (by have h1:=(ai x);omega) (cy ((ai (M.rows[who.toNat]'(by omega))).trans (ai x).symm))))) rfl (au (E1 1 (DN (ad J4 (sr λ_ J5=>PS ?_)))));refine nx J5 (ah (WK [0] (aw rfl rfl ?_)));have e:iC M who x=(sw M who x,true):=by rw[iC,if_pos h10]
 exact⟨by rw[e],by rw[e,sw,dif_pos hm0];rfl⟩;refine PS ?_;refine nx J3 (CY (sr λ_ J6=>PS ?_));refine nx J6 (ah (ae (WK [0] (aw rfl rfl ?_))));have e:iC M who x=(M,false):=by rw[iC,if_neg (by simp[h10])]
 exact⟨by rw[e],by rw[e];rfl⟩
theorem tN(b off T:Nat)(cs:MirT→List Value)(hA:Arnd cs MirT.cells off)(M:MirT)(who:Int):
 DT 92 #[(.pointer (some ⟨b,off,none⟩)),(.int .i64 (who))] T0 [aj b (cs M) T] (RI (.tuple #[.agg (ints (mirRow M who).flat).toArray, .bool (cJ who)]) [aj b (cs (jh M who)) T]):=by
 refine Leg.Does.body (vs:=[(.pointer (some ⟨b,off,none⟩)),(.int .i64 (who))]) (n:=21) Tryz.func92 rfl rfl rfl (λw0 F hF=>?_);refine sr λ_ J1=>?_
 refine qY (ab rfl) rfl rfl rfl vl (λb4=>?_);change TL _ _ _ _ _ _ _ _ _ [aj b4 (ints RowT.zero.flat) 74,aj b (cs M) T];refine qe ?_;refine nx J1 ?_;clear J1;refine aa λ_ J2=>?_
 refine sr λ_ J3=>?_
 refine mv ?_;refine lP (ab rfl) rfl rfl rfl GP rfl (iU who) (λ_ s=>s) (λ_ _ _=>trivial) (λvR HR hR=>?_);obtain⟨rfl,rfl⟩:=hR;refine bg (λh7=>?_) (λh7=>?_);have hm:0≤who∧who<5:=of_decide_eq_true h7;refine tp (pc (r:=false) rfl rfl rfl) ?_;refine nx J3 ?_;clear J3;refine Ha rfl ?_;refine aR ?_;refine ad J2 ?_;clear J2;refine sr λ_ J4=>?_
 refine mv ?_;refine mv ?_;refine tp (gU rfl rfl) ?_;refine tp (bc (r:=off+870) rfl Oe rfl Nv rfl rfl) ?_;refine tp (q6 (r:=off+870+who.toNat) rfl Tryz.underlying86 lR rfl rfl (by omega) (by omega) (by omega)) ?_;refine bH (i:=1) (ab rfl) rfl rfl rfl rfl rfl lR rfl rfl (by have h0:=(q8 M);have h2:=Arnd.le hA M;omega) (Arnd.set hA (x:=M) (x':=(MirT.mk M.rows (M.sealed.set who.toNat true (by omega)))) (j:=870+who.toNat) (by omega) (by have h0:=(q8 M);omega) (MirT.st_sealed M (who.toNat) (by omega) (by omega) (Oy M.sealed (by omega) _))) rfl ?_;refine nx J4 ?_;clear J4;refine sr λ_ J5=>?_
 refine mv ?_;refine mv ?_;refine tp (gU rfl rfl) ?_;refine tp (bc (r:=off) rfl Oe rfl uE rfl rfl) ?_;refine tp (q6 (r:=off+who.toNat*174) rfl I0 bf rfl rfl (by omega) (by omega) (by omega)) ?_;refine tp (aN (vs:=ints (M.rows[who.toNat]'(by omega)).flat) rfl ei rfl bf rfl (fA 1 rfl rfl) (ai (M.rows[who.toNat]'(by omega))) (Qh hA (j:=who.toNat*174) (by omega) (by have h0:=(q8 (MirT.mk M.rows (M.sealed.set who.toNat true (by omega))));omega) (MirT.sub_rows (MirT.mk M.rows (M.sealed.set who.toNat true (by omega))) (who.toNat*174) (by omega) (by omega) (lA dN M.rows (i:=who.toNat) 0 (by omega) (by omega) (by decide) (whole (ai (M.rows[who.toNat]'(by omega)))))))) ?_;refine bW (vs:=ints (M.rows[who.toNat]'(by omega)).flat) (i:=0) (ab rfl) rfl rfl rfl rfl rfl (by rw[(ai (M.rows[who.toNat]'(by omega)))];exact bf) (bv _) rfl rfl (by have h0:=(ai RowT.zero);have h1:=(ai (M.rows[who.toNat]'(by omega)));omega) (cy ((ai RowT.zero).trans (ai (M.rows[who.toNat]'(by omega))).symm)) rfl ?_;refine qe ?_;refine nx J5 ?_;clear J5;refine ah ?_;refine mI (H':=[aj b (cs (MirT.mk M.rows (M.sealed.set who.toNat true (by omega)))) T]) rfl rfl rfl ei rfl bf (fA 0 rfl rfl) (ai (M.rows[who.toNat]'(by omega))) (λ_ s=>ak [1] rfl s) ?_;exact⟨by simp[mirRow, *],by simp[jh, *]⟩;refine tp (pc (r:=true) rfl rfl rfl) ?_;refine nx J3 ?_;clear J3;refine oe rfl ?_;refine sr λ_ J6=>?_
 refine tp (kL (cells:=(ints RowT.zero.flat).toArray) rfl rfl (by as_aux_lemma=>kernel_rfl)) ?_;refine bW (vs:=ints RowT.zero.flat) (i:=0) (ab rfl) rfl rfl rfl rfl rfl (by rw[(ai RowT.zero)];exact bf) (bv _) rfl rfl (by have h0:=(ai RowT.zero);have h1:=(ai RowT.zero);omega) (cy ((ai RowT.zero).trans (ai RowT.zero).symm)) rfl ?_;refine qe ?_;refine nx J6 ?_;clear J6;refine ah ?_;refine ae ?_;clear J2;refine mI (H':=[aj b (cs M) T]) rfl rfl rfl ei rfl bf (fA 0 rfl rfl) (ai RowT.zero) (λ_ s=>ak [1] rfl s) ?_;exact⟨by simp[mirRow, *],by simp[jh, *]⟩
end Go.Proofs.YtkhjnolhhidecaaGreatDoor
end

section
namespace Api
open Go Leg Codec
def el(k:Int):Bool:=decide (k=0∨k=2∨k=9)
def ff(k:Int):Bool:=decide (k=3∨k=6)
def cM:Ps (MsgT×Bool):=pb (fk 10) λk=>
 if el k then pb (fk 5) λw=>pb tD λx=>pr (⟨k,w,x,0,0, .zero, .zero, .zero, .zero⟩,gd x)
 else if k=1 then pb ng λn=>pr (⟨k,0, .zero,n,0, .zero, .zero, .zero, .zero⟩,true)
 else if ff k then pb ng λn=>pb jt λb=>pr (⟨k,0, .zero,0,n,b, .zero, .zero, .zero⟩,true)
 else if k=4 then pb ng λn=>pb jt λb=>pb jt λd=>pb kT λc=>pr (⟨k,0, .zero,0,n,b,d,c, .zero⟩,true)
 else if k=5 then pb ng λn=>pb jt λb=>pb kT λc=>pr (⟨k,0, .zero,0,n,b, .zero,c, .zero⟩,true)
 else if k=7 then pb lT λv=>pr (⟨k,0, .zero,0,0, .zero, .zero, .zero,v⟩,jD v)
 else if k=8 then pb (fk 5) λw=>pb lT λv=>pr (⟨k,w, .zero,0,0, .zero, .zero, .zero,v⟩,jD v)
 else pr (⟨k,0, .zero,0,0, .zero, .zero, .zero, .zero⟩,true)
def dG:Ps (RecT×Bool):=pb (fk 6) λk=>
 if k=0 then pb tD λx=>pr (⟨k,0,x,0, .zero, .zero, .zero⟩,gd x)
 else if k=1 then pb (fk 5) λw=>pb tD λx=>pr (⟨k,w,x,0, .zero, .zero, .zero⟩,gd x)
 else if k=2 then pb (fk 5) λw=>pr (⟨k,w, .zero,0, .zero, .zero, .zero⟩,true)
 else if k=3 then pb ng λn=>pb jt λb=>pr (⟨k,0, .zero,n,b, .zero, .zero⟩,true)
 else if k=4 then pb ng λn=>pb jt λb=>pb kT λc=>pr (⟨k,0, .zero,n,b,c, .zero⟩,true)
 else if k=5 then pb lT λv=>pr (⟨k,0, .zero,0, .zero, .zero,v⟩,jD v)
 else pr (⟨k,0, .zero,0, .zero, .zero, .zero⟩,true)
def ju(bs:List UInt8):MsgT×Int:=match cM bs with
 |some ((m,true),[])=>(m,0)
 |_=>(.zero,1)
def o7(bs:List UInt8):RecT×Int:=match dG bs with
 |some ((m,true),[])=>(m,0)
 |_=>(.zero,1)
def cY(m:MsgT):List UInt8:=
 if el m.kind then bh [m.kind,m.whose]++im m.row
 else if m.kind=1 then bh [m.kind,m.version]
 else if ff m.kind then bh [m.kind,m.epoch]++bh m.ballot.flat
 else if m.kind=4 then bh [m.kind,m.epoch]++bh m.ballot.flat++bh m.had.flat++bh m.change.flat
 else if m.kind=5 then bh [m.kind,m.epoch]++bh m.ballot.flat++bh m.change.flat
 else if m.kind=7 then bh [m.kind]++bh m.view.flat
 else if m.kind=8 then bh [m.kind,m.whose]++bh m.view.flat
 else []
def k8(m:RecT):List UInt8:=
 if m.kind=0 then bh [m.kind]++im m.row
 else if m.kind=1 then bh [m.kind,m.whose]++im m.row
 else if m.kind=2 then bh [m.kind,m.whose]
 else if m.kind=3 then bh [m.kind,m.epoch]++bh m.ballot.flat
 else if m.kind=4 then bh [m.kind,m.epoch]++bh m.ballot.flat++bh m.change.flat
 else if m.kind=5 then bh [m.kind]++bh m.view.flat
 else []
theorem sW{v:ViewT}{bs r:List UInt8}(h:lT bs=some (v,r)):Rng v:=λi hi=>by
 have:=(oR h).1.2.2 i hi;exact⟨this.1,by omega⟩
theorem Ba{x:RowT}{bs r:List UInt8}(h:tD bs=some (x,r)):WF x.flat:=(tC h).1.wf
def Nm(n:Int):Prop:=0≤n∧n<9223372036854775808
def OkB(b:BallotT):Prop:=Nm b.round∧0≤b.who∧b.who<5
def OkC(c:ChangeT):Prop:=(0≤c.kind∧c.kind<2)∧(0≤c.who∧c.who<5)∧(0≤c.heir∧c.heir<5)
def Ro(v:ViewT):Prop:=Nm v.epoch∧(0≤v.members∧v.members<32)∧∀(i:Nat) (h:i<5),0≤v.heirs[i]∧v.heirs[i]<6
theorem pO{b:BallotT}(h:OkB b)(r:List UInt8):jt (bh b.flat++r)=some (b,r):=by
 obtain⟨a,c⟩:=b;obtain⟨h1,h2,h3⟩:=h;replace h3:c<5:=h3;simp only[BallotT.flat,ib,ji,aG,ba,jt];rw[ax (l4 h1.1 h1.2 _),ax (il (n:=c) h2 h3 (by omega) _)];rfl
theorem yn{c:ChangeT}(h:OkC c)(r:List UInt8):kT (bh c.flat++r)=some (c,r):=by
 obtain⟨a,b,d⟩:=c;obtain⟨⟨h1,h2⟩,⟨h3,h4⟩,h5,h6⟩:=h;simp only at h1 h2 h3 h4 h5 h6;simp only[ChangeT.flat,ib,ji,aG,ba,kT];rw[ax (il h1 h2 (by omega) _),ax (il h3 h4 (by omega) _),ax (il h5 h6 (by omega) _)];rfl
theorem Cj{v:ViewT}(h:Ro v)(r:List UInt8):lT (bh v.flat++r)=some (v,r):=by
 obtain⟨i,o,g⟩:=v;obtain⟨h1,⟨h2,h3⟩,h4⟩:=h;replace h2:0≤o:=h2;replace h3:o<32:=h3;revert h4;refine Lw (p:=λg=>(∀(i_1:Nat) (h:i_1<5),0≤g[i_1]∧g[i_1]<6)→lT (bh (ViewT.flat ⟨i,o,g⟩)++r)=some (⟨i,o,g⟩,r)) (λa b c d e h4=>?_) g;have e0:=h4 0 (by omega);have e1:=h4 1 (by omega);have e2:=h4 2 (by omega);have e3:=h4 3 (by omega);have e4:=h4 4 (by omega);have s:=λn (h:0≤n∧n<6) r=>il (n:=n) (lim:=6) h.1 h.2 (by omega) r
 simp only[ViewT.flat,Vector.toList_mk,ib,ji,aG,ba,lT];rw[ax (l4 h1.1 h1.2 _),ax (il h2 h3 (by omega) _),ax (s a e0 _),ax (s b e1 _),ax (s c e2 _),ax (s d e3 _),ax (s e e4 _)];rfl
def tK(m:MsgT):MsgT:=
 if el m.kind then⟨m.kind,m.whose,m.row,0,0, .zero, .zero, .zero, .zero⟩
 else if m.kind=1 then⟨m.kind,0, .zero,m.version,0, .zero, .zero, .zero, .zero⟩
 else if ff m.kind then⟨m.kind,0, .zero,0,m.epoch,m.ballot, .zero, .zero, .zero⟩
 else if m.kind=4 then⟨m.kind,0, .zero,0,m.epoch,m.ballot,m.had,m.change, .zero⟩
 else if m.kind=5 then⟨m.kind,0, .zero,0,m.epoch,m.ballot, .zero,m.change, .zero⟩
 else if m.kind=7 then⟨m.kind,0, .zero,0,0, .zero, .zero, .zero,m.view⟩
 else⟨m.kind,m.whose, .zero,0,0, .zero, .zero, .zero,m.view⟩
def EI(m:MsgT):Bool:=if el m.kind then gd m.row else if m.kind=7∨m.kind=8 then jD m.view else true
structure OkM(m:MsgT):Prop where
 kind:0≤m.kind∧m.kind<10
 whose:0≤m.whose∧m.whose<5
 row:TameR m.row
 version:Nm m.version
 epoch:Nm m.epoch
 ballot:OkB m.ballot
 had:OkB m.had
 change:OkC m.change
 view:Ro m.view
theorem Mm{m:MsgT}(h:OkM m)(r:List UInt8):cM (cY m++r)=some ((tK m,EI m),r):=by
 have hk:=h.kind;have k0:fk 10 (p6 m.kind++r)=some (m.kind,r):=il hk.1 hk.2 (by omega) r;have kk:=λr=>il hk.1 hk.2 (show m.kind<9223372036854775808 by omega) r
 have kw:=λr=>il h.whose.1 h.whose.2 (show m.whose<9223372036854775808 by have:=h.whose;omega) r
 have kv:=λr=>l4 h.version.1 h.version.2 r
 have ke:=λr=>l4 h.epoch.1 h.epoch.2 r
 unfold cM cY tK EI
 by_cases c0:el m.kind=true
 · simp only[if_pos c0,ib,ji,aG,ba]
   rw[ax (kk _)];simp only[if_pos c0];rw[ax (kw _),ax (JE h.row _)];rfl
 simp only[if_neg c0]
 by_cases c1:m.kind=1
 · have q: ¬(m.kind=7∨m.kind=8):=by omega
   simp only[if_pos c1,if_neg q,ib,ji,aG,ba];rw[ax (kk _)];simp only[if_neg c0,if_pos c1];rw[ax (kv _)];rfl
 simp only[if_neg c1]
 by_cases c2:ff m.kind=true
 · have q: ¬(m.kind=7∨m.kind=8):=by have:=of_decide_eq_true c2;omega
   simp only[if_pos c2,if_neg q,ib,ji,aG,ba];rw[ax (kk _)];simp only[if_neg c0,if_neg c1,if_pos c2];rw[ax (ke _),ax (pO h.ballot _)];rfl
 simp only[if_neg c2]
 by_cases c3:m.kind=4
 · have q: ¬(m.kind=7∨m.kind=8):=by omega
   simp only[if_pos c3,if_neg q,ib,ji,aG,ba];rw[ax (kk _)];simp only[if_neg c0,if_neg c1,if_neg c2,if_pos c3];rw[ax (ke _),ax (pO h.ballot _),ax (pO h.had _),ax (yn h.change _)];rfl
 simp only[if_neg c3]
 by_cases c4:m.kind=5
 · have q: ¬(m.kind=7∨m.kind=8):=by omega
   simp only[if_pos c4,if_neg q,ib,ji,aG,ba];rw[ax (kk _)];simp only[if_neg c0,if_neg c1,if_neg c2,if_neg c3,if_pos c4];rw[ax (ke _),ax (pO h.ballot _),ax (yn h.change _)];rfl
 simp only[if_neg c4]
 by_cases c5:m.kind=7
 · have q:m.kind=7∨m.kind=8:= .inl c5
   simp only[if_pos c5,if_pos q,ib,ji,aG,ba];rw[ax (kk _)];simp only[if_neg c0,if_neg c1,if_neg c2,if_neg c3,if_neg c4,if_pos c5];rw[ax (Cj h.view _)];rfl
 have c6:m.kind=8:=by
  have n0: ¬(m.kind=0∨m.kind=2∨m.kind=9):=λe=>c0 (decide_eq_true e)
  have n2: ¬(m.kind=3∨m.kind=6):=λe=>c2 (decide_eq_true e)
  omega
 have q:m.kind=7∨m.kind=8:= .inr c6;simp only[if_neg c5,if_pos c6,if_pos q,ib,ji,aG,ba];rw[ax (kk _)];simp only[if_neg c0,if_neg c1,if_neg c2,if_neg c3,if_neg c4,if_neg c5,if_pos c6];rw[ax (kw _),ax (Cj h.view _)];rfl
theorem Kv(i:Nat)(hi:i<5):RowT.zero.heir[i]=0:=by match i,hi with|0,_|1,_|2,_|3,_|4,_=>rfl
theorem yp(k:Nat)(hk:k<4):RowT.zero.cells[k]=CellT.zero:=by match k,hk with|0,_|1,_|2,_|3,_=>rfl
theorem qJ(i:Nat)(hi:i<5):RowT.zero.left[i]=RowT.zero.cells:=by match i,hi with|0,_|1,_|2,_|3,_|4,_=>rfl
theorem tame_rzero:TameR RowT.zero:=⟨⟨by decide,by decide⟩,λk hk=>by rw[yp k hk];exact uC,λi hi=>by rw[Kv i hi];decide,λi k hi hk=>by rw[show RowT.zero.left[i][k]=RowT.zero.cells[k]from by rw[qJ i hi],yp k hk];exact uC,λi hi _=>by rw[qJ i hi,qJ 0 (by decide)]⟩
theorem kRow_cases{k:Int}(h: ¬el k=true)(h2: ¬ff k=true):k≠0∧k≠2∧k≠9∧k≠3∧k≠6:=by
 have n0: ¬(k=0∨k=2∨k=9):=λe=>h (decide_eq_true e)
 have n2: ¬(k=3∨k=6):=λe=>h2 (decide_eq_true e)
 omega
theorem PJ{m:MsgT}{g:Bool}{bs r:List UInt8}(h:cM bs=some ((m,g),r)):bs=cY m++r∧EI m=g∧(0≤m.kind∧m.kind<10)∧(0≤m.whose∧m.whose<5)∧TameR m.row:=by
 obtain⟨k,r1,h1,h2⟩:=bp h;clear h;obtain⟨k1,rfl⟩:=db h1;have tz:=tame_rzero;have kz:(0:Int)≤0∧(0:Int)<5:=by omega
 by_cases c0:el k=true
 · simp only[if_pos c0]at h2
   obtain⟨w,r2,h3,h4⟩:=bp h2;obtain⟨k3,rfl⟩:=db h3;obtain⟨x,r3,h5,h6⟩:=bp h4;obtain⟨k5,rfl⟩:=tC h5;obtain⟨e,rfl⟩:=gq h6;injection e with e1 e2;subst e1;subst e2
   exact⟨by simp[cY,c0,bh],by simp[EI,c0],⟨k1.1,k1.2.1⟩,⟨k3.1,k3.2.1⟩,k5⟩
 simp only[if_neg c0]at h2;have fin: ∀{m:MsgT} {bs':List UInt8},m.kind=k→p6 k++bs'=cY m++r→EI m=g→(0≤m.whose∧m.whose<5)→TameR m.row→p6 k++bs'=cY m++r∧EI m=g∧(0≤m.kind∧m.kind<10)∧(0≤m.whose∧m.whose<5)∧TameR m.row:=λe a b c d=>⟨a,b,by rw[e];exact⟨k1.1,k1.2.1⟩,c,d⟩
 by_cases c1:k=1
 · simp only[if_pos c1]at h2
   subst c1;obtain⟨n,r2,h3,h4⟩:=bp h2;obtain⟨_,_,rfl⟩:=iJ h3;obtain⟨e,rfl⟩:=gq h4;injection e with e1 e2;subst e1;subst e2
   exact fin rfl (by simp[cY,el,ff,bh]) (by simp[EI,el]) kz tz
 simp only[if_neg c1]at h2
 by_cases c2:ff k=true
 · simp only[if_pos c2]at h2
   obtain⟨n,r2,h3,h4⟩:=bp h2;obtain⟨_,_,rfl⟩:=iJ h3;obtain⟨b,r3,h5,h6⟩:=bp h4;obtain⟨_,rfl⟩:=jU h5;obtain⟨e,rfl⟩:=gq h6;injection e with e1 e2;subst e1;subst e2
   have:=of_decide_eq_true c2;exact fin rfl (by simp[cY,c0,c1,c2,bh]) (by simp[EI,c0];omega) kz tz
 simp only[if_neg c2]at h2
 by_cases c3:k=4
 · simp only[if_pos c3]at h2
   subst c3;obtain⟨n,r2,h3,h4⟩:=bp h2;obtain⟨_,_,rfl⟩:=iJ h3;obtain⟨b,r3,h5,h6⟩:=bp h4;obtain⟨_,rfl⟩:=jU h5;obtain⟨d,r4,h7,h8⟩:=bp h6;obtain⟨_,rfl⟩:=jU h7;obtain⟨c,r5,h9,h10⟩:=bp h8;obtain⟨_,rfl⟩:=ox h9;obtain⟨e,rfl⟩:=gq h10;injection e with e1 e2;subst e1;subst e2
   exact fin rfl (by simp[cY,el,ff,bh]) (by simp[EI,el]) kz tz
 simp only[if_neg c3]at h2
 by_cases c4:k=5
 · simp only[if_pos c4]at h2
   subst c4;obtain⟨n,r2,h3,h4⟩:=bp h2;obtain⟨_,_,rfl⟩:=iJ h3;obtain⟨b,r3,h5,h6⟩:=bp h4;obtain⟨_,rfl⟩:=jU h5;obtain⟨c,r5,h9,h10⟩:=bp h6;obtain⟨_,rfl⟩:=ox h9;obtain⟨e,rfl⟩:=gq h10;injection e with e1 e2;subst e1;subst e2
   exact fin rfl (by simp[cY,el,ff,bh]) (by simp[EI,el]) kz tz
 simp only[if_neg c4]at h2
 by_cases c5:k=7
 · simp only[if_pos c5]at h2
   subst c5;obtain⟨v,r3,h5,h6⟩:=bp h2;obtain⟨_,rfl⟩:=oR h5;obtain⟨e,rfl⟩:=gq h6;injection e with e1 e2;subst e1;subst e2
   exact fin rfl (by simp[cY,el,ff,bh]) (by simp[EI,el]) kz tz
 simp only[if_neg c5]at h2;have c6:k=8:=by have:=kRow_cases c0 c2;omega
 simp only[if_pos c6]at h2;subst c6;obtain⟨w,r2,h3,h4⟩:=bp h2;obtain⟨k3,rfl⟩:=db h3;obtain⟨v,r3,h5,h6⟩:=bp h4;obtain⟨_,rfl⟩:=oR h5;obtain⟨e,rfl⟩:=gq h6;injection e with e1 e2;subst e1;subst e2
 exact fin rfl (by simp[cY,el,ff,bh]) (by simp[EI,el]) ⟨k3.1,k3.2.1⟩ tz
def Fm(m:RecT):Bool:=if m.kind=0∨m.kind=1 then gd m.row else if m.kind=5 then jD m.view else true
theorem JJ{m:RecT}{g:Bool}{bs r:List UInt8}(h:dG bs=some ((m,g),r)):bs=k8 m++r∧Fm m=g∧(0≤m.kind∧m.kind<6)∧(0≤m.whose∧m.whose<5)∧TameR m.row:=by
 obtain⟨k,r1,h1,h2⟩:=bp h;clear h;obtain⟨k1,rfl⟩:=db h1;have tz:=tame_rzero;have kz:(0:Int)≤0∧(0:Int)<5:=by omega
 by_cases c0:k=0
 · simp only[if_pos c0]at h2
   subst c0;obtain⟨x,r3,h5,h6⟩:=bp h2;obtain⟨k5,rfl⟩:=tC h5;obtain⟨e,rfl⟩:=gq h6;injection e with e1 e2;subst e1;subst e2
   exact⟨by simp[k8,bh],by simp[Fm],⟨k1.1,k1.2.1⟩,kz,k5⟩
 simp only[if_neg c0]at h2
 by_cases c1:k=1
 · simp only[if_pos c1]at h2
   subst c1;obtain⟨w,r2,h3,h4⟩:=bp h2;obtain⟨k3,rfl⟩:=db h3;obtain⟨x,r3,h5,h6⟩:=bp h4;obtain⟨k5,rfl⟩:=tC h5;obtain⟨e,rfl⟩:=gq h6;injection e with e1 e2;subst e1;subst e2
   exact⟨by simp[k8,bh],by simp[Fm],⟨k1.1,k1.2.1⟩,⟨k3.1,k3.2.1⟩,k5⟩
 simp only[if_neg c1]at h2
 by_cases c2:k=2
 · simp only[if_pos c2]at h2
   subst c2;obtain⟨w,r2,h3,h4⟩:=bp h2;obtain⟨k3,rfl⟩:=db h3;obtain⟨e,rfl⟩:=gq h4;injection e with e1 e2;subst e1;subst e2
   exact⟨by simp[k8,bh],by simp[Fm],⟨k1.1,k1.2.1⟩,⟨k3.1,k3.2.1⟩,tz⟩
 simp only[if_neg c2]at h2
 by_cases c3:k=3
 · simp only[if_pos c3]at h2
   subst c3;obtain⟨n,r2,h3,h4⟩:=bp h2;obtain⟨_,_,rfl⟩:=iJ h3;obtain⟨b,r3,h5,h6⟩:=bp h4;obtain⟨_,rfl⟩:=jU h5;obtain⟨e,rfl⟩:=gq h6;injection e with e1 e2;subst e1;subst e2
   exact⟨by simp[k8,bh],by simp[Fm],⟨k1.1,k1.2.1⟩,kz,tz⟩
 simp only[if_neg c3]at h2
 by_cases c4:k=4
 · simp only[if_pos c4]at h2
   subst c4;obtain⟨n,r2,h3,h4⟩:=bp h2;obtain⟨_,_,rfl⟩:=iJ h3;obtain⟨b,r3,h5,h6⟩:=bp h4;obtain⟨_,rfl⟩:=jU h5;obtain⟨c,r5,h9,h10⟩:=bp h6;obtain⟨_,rfl⟩:=ox h9;obtain⟨e,rfl⟩:=gq h10;injection e with e1 e2;subst e1;subst e2
   exact⟨by simp[k8,bh],by simp[Fm],⟨k1.1,k1.2.1⟩,kz,tz⟩
 simp only[if_neg c4]at h2;have c5:k=5:=by omega
 simp only[if_pos c5]at h2;subst c5;obtain⟨v,r3,h5,h6⟩:=bp h2;obtain⟨_,rfl⟩:=oR h5;obtain⟨e,rfl⟩:=gq h6;injection e with e1 e2;subst e1;subst e2
 exact⟨by simp[k8,bh],by simp[Fm],⟨k1.1,k1.2.1⟩,kz,tz⟩
theorem Rng.zeros{v:ViewT}(h:v.heirs= #v[0,0,0,0,0]):Rng v:=λi hi=>by
 have:v.heirs[i]=0:=by
  rw[show v.heirs[i]=(#v[0,0,0,0,0]:Vector Int 5)[i]from by rw[h]]
  match i,hi with|0,_|1,_|2,_|3,_|4,_=>rfl
 omega
theorem Rng.zero:Rng ViewT.zero:=Rng.zeros rfl
theorem Rng.first:Rng firstV:=Rng.zeros rfl
abbrev EJ:= @Rng.first
def xy(x:RepT):MsgT:= {MsgT.zero with kind:=0,whose:=x.id,row:=x.own}
def pB(id:Int)(x:RowT):MsgT:= {MsgT.zero with kind:=2,whose:=id,row:=x}
def vj(k w:Int):Bool:=decide (k.fdiv (2^min w.toNat IntKind.i64.bits)%2=0)
def ou(x:RepT):List SaidT:=((iz x.id).filter λw=>vj x.kept w).map λw=>⟨w,xy x⟩
end Api
namespace Api
open Go Leg Codec
def fR(x:RepT)(o:OpT):RowT×Int:=
 if o.kind=0 then pv x.own o.key o.n else if o.kind=1 then pw x.own o.key o.n else if o.kind=2 then(if o.to'≠x.id then mc x.own o.key o.n o.to' else(.zero,5))else(.zero,5)
def kD(x:RepT)(o:OpT):RowT×Int×Int:=
 if jp x.view x.id=false then(.zero,0,9)else if nh o.key=false then(.zero,0,5)else if o.kind=3 then(.zero,gh x.book o.key,0)else if x.busy then(.zero,0,8)
 else if(fR x o).2≠0 then(.zero,0,(fR x o).2)else if o.kind≠0∧fl x.book x.id o.key<o.n then(.zero,0,7)else((fR x o).1,0,0)
def gW(y:RowT):RecT:= {RecT.zero with kind:=0,row:=y}
end Api
namespace Api
open Go Leg Codec
end Api
namespace Api
open Go Leg Codec
end Api
namespace Api
open Go Leg Codec
end Api
namespace Api
open Go Leg Codec
end Api
end

section
namespace Leg
open Go
section
variable {P:Program} {w0:World} {F:Hl} {n:Nat} {ops:Array Oper} {Q:QQ} {D:List Deferred} {L:List (Nat×Value)} {H:List HP} {o:Oper} {l:List Oper} {d:Nat} {S:World→Prop}
def yC(P:Program)(t:TypeId)(rv:Value)(nm:String)(f:FuncId):Prop:=∀w,(method (P.types.size+Made.depth) t rv nm).run P w= .ok (f,rv) w
theorem TL.callI{recv:Operand}{nm:String}{t:TypeId}{rv:Value}{f:FuncId}{xs:Array Operand}{ts:Array TypeId}{vs:List Value}{R:Hl→Prop}{A B:List HP}{p:Value→List HP→Prop}(hw:Want n D ops o L)
 (ho:o.op= .call {callee:= .invoke recv nm,args:=xs,argTypes:=ts}) (hd:o.dst=some d) (hn:Nat.blt d n=true) (hr:cS L recv=some (.iface t rv)) (hm:yC P t rv nm f) (hf:Named P f) (hx:BA L xs.toList=some vs)
 (sp:Does P f (rv::vs).toArray R A (dD p)) (hp: ∀h,bR H h→bR (A++B) h) (hR: ∀g,Dj g F→bR B g→R (jn g F))
 (hret: ∀v H',p v H'→TL P w0 F n ops Q l D ((d,v)::L) (H'++B)):TL P w0 F n ops Q (o::l) D L H:=
 TL.callw hw (λa w g=>by
  have e:xs.map a.eval=vs.toArray:=g.evals hx;have e2:a.eval recv= .iface t rv:=g.eval hr;have e3:=hm w
  simp[execOp,ho,resolve,invoke,callMethod,e,e2,e3,nd hf])
  sp hp hR (λv H' q a g w s m=>by rw[hd];exact hret v H' q _ w (g.put (lb hn) v) s m) (λ_ _ h=>h.elim) (λ_ h=>h)
theorem TE.retCTT{H':List HP}{fn:Func}{post:Ending→List HP→Prop}{t t' t2 ty e m b:Nat}{cs:List Value}{z:Nat×Nat}{dt:TypeDesc}{v' v2:Value}(hr:fn.results=#[.cell t ty, .tmp t', .tmp t2])(he:lk L t=some (.pointer (some ⟨b,0,none⟩)))(e':lk L t'=some v')(e2:lk L t2=some v2)
 (hu:P.underlying ty=some dt) (hp:eJ dt=false) (hm:(P.info? ty).map (·.size)=some m) (hR:Rd (Sat H F) b (.cells cs.toArray e z)) (hl:cs.length=m) (hk: ∀h,bR H h→bR H' h)
 (h:post (.returned (.tuple #[.agg cs.toArray,v',v2])) H'):TE w0 F n (bodyPost P fn (kr post w0 F)) .ret [] L H:=λa w f s q=>by
 have h1:a.tmps.getD t undef= .pointer (some ⟨b,0,none⟩):=f.eval (x:= .tmp t) he;have h2:a.tmps.getD t' undef=v':=f.eval (x:= .tmp t') e';have h4:a.tmps.getD t2 undef=v2:=f.eval (x:= .tmp t2) e2
 have h3:(results fn a.tmps).run P w= .ok (.tuple #[.agg cs.toArray,v',v2]) w:=by
  have h1':a.tmps[t]?.getD undef= .pointer (some ⟨b,0,none⟩):=by simpa using h1
  have h2':a.tmps[t']?.getD undef=v':=by simpa using h2
  have h4':a.tmps[t2]?.getD undef=v2:=by simpa using h4
  simp[results,hr,h1',h2',h4',asAddr,run_loadVar_row w b e ty cs.toArray z dt (hR w q) hu (by cases dt<;>simp[eJ]at hp ⊢) (by simp[hm,hl])]
 exact bodyPost_ret h3 f.2.1 ⟨s,H',q.mono hk,h⟩
theorem PV.ifaceNotNil{t t' u:TypeId}{x:Operand}{v:Value}{ms:Array (String×TypeId)}(ho:o.op= .binOp .neq t x (.const .nilIface) t')(ht:P.underlying t=some (.interface ms))(hx:cS L x=some (.iface u v)):PV P n D L S o (.bool true):=
 gL ho hx rfl λw=>by
  have:=rQ (P:=P) (w:=w) 9999 (u:=u) (v:=v) ht;simp[eqGuard,binOp,Op.equal,Op.maxDepth,this]
end
theorem tQ(i:Nat){v:Value}{l:List Int}{e:Nat}{B:List HP}{F:Hl}(hi:Nat.blt i B.length=true)(hH:B.getD i (λ_=>True)=own v l.length (Api.ints l) e 1): ∀g,Dj g F→bR B g→IsI .i64 v l (jn g F):=λg _ s=>by
 obtain⟨h1,h2,d',rfl,a,_⟩:=eF i (lb hi) s;rw[hH]at a;rcases a with⟨_,⟨h0,hn,_⟩| ⟨g,cap,cur,hv,hh,h3,h4,h5,h6⟩⟩
 · exact .inl ⟨h0,List.eq_nil_of_length_eq_zero hn⟩
 · refine .inr ⟨g,0,cap,cur.toList,e,(0,0),hv,h3,by simp only[maxLen]at h4;omega,g8 (g8 (by rw[hh];simp[sg])),λj hj=>?_⟩
   rw[gz]at h6;have e1:(cur.toList.take l.length)[j]?=some (.int .i64 (l.getD j 0)):=by rw[h6];exact Api.ints_get l j hj
   rw[List.getElem?_take,if_pos hj]at e1
   simpa using e1
variable {P:Program} {w0:World} {F:Hl} {n:Nat} {ops:Array Oper} {Q:QQ} {D:List Deferred} {L:List (Nat×Value)} {H:List HP} {d:Nat} {o:Oper} {l:List Oper}
theorem RU{fn:Func}{post:Ending→List HP→Prop}{t t' t2 ty e m b:Nat}{cs:List Value}{dt:TypeDesc}{v' v2:Value}(k:Nat)(is:List Nat)(hu:P.underlying ty=some dt)(hm:(P.info? ty).map (·.size)=some m)(hl:cs.length=m)(h:post (.returned (.tuple #[.agg cs.toArray,v',v2])) ((C6 H is).take is.length))(hr:fn.results=#[.cell t ty, .tmp t', .tmp t2]:=by exact rfl)(he:lk L t=some (.pointer (some ⟨b,0,none⟩)):=by exact rfl)(e':lk L t'=some v':=by exact rfl)(e2:lk L t2=some v2:=by exact rfl)(hp:eJ dt=false:=by exact rfl)(hk:Nat.blt k H.length=true:=by exact rfl)(hH:H.getD k (λ_=>True)=aj b cs e:=by exact rfl)(hs:Md H.length is=true:=by exact rfl):TE w0 F n (bodyPost P fn (kr post w0 F)) .ret [] L H:=TE.retCTT hr he e' e2 hu hp hm (fA k hk hH) hl (λ_ s=>ak is hs s) h
end Leg
end

section
namespace Dsk
open Go Leg Codec Api
abbrev jx:=List UInt8
def zs:jx:=List.replicate 64 0
def HI(b:jx):Value:= .agg (dU b).toArray
abbrev gi:=List (Int×jx)
def kX(s:gi)(k:Int):jx:=match s with
 | []=>zs
 | (a,b)::s=>if k=a then b else kX s k
def oT(s:gi)(k:Int)(v:jx):gi:=match s with
 | []=>[(k,v)]
 | (a,b)::s=>if k=a then(a,v)::s else(a,b)::oT s k v
theorem Jw(s:gi)(k j:Int)(v:jx):kX (oT s k v) j=if j=k then v else kX s j:=by
 induction s with
 |nil=>simp[oT,kX]
 |cons p s ih=>
  obtain⟨a,b⟩:=p;simp only[oT]
  by_cases h:k=a
  · subst h
    rw[if_pos rfl]
    by_cases h2:j=k
    · simp[kX,h2]
    · simp[kX,h2]
  · rw[if_neg h]
    simp only[kX]
    by_cases h2:j=a
    · subst h2
      rw[if_pos rfl,if_pos rfl,if_neg (by omega)]
    · rw[if_neg h2,if_neg h2,ih]
def uq(s:gi):List (Int×Value):=s.map λp=>(p.1,HI p.2)
theorem DQ(s:gi)(k:Int):(Iu (uq s) k).getD (HI zs)=HI (kX s k):=by
 induction s with
 |nil=>rfl
 |cons p s ih=>
  obtain⟨a,b⟩:=p;simp only[uq,e8,Iu,kX]at ih ⊢;split
  · rfl
  · exact ih
theorem Kr(s:gi)(k:Int)(v:jx):xZ (uq s) k (HI v)=uq (oT s k v):=by
 induction s with
 |nil=>rfl
 |cons p s ih=>
  obtain⟨a,b⟩:=p;simp only[uq,e8,xZ,oT]at ih ⊢;split
  · rfl
  · rw[ih];rfl
def dp(p:Int×jx):List Value:= .int .i64 p.1::dU p.2
def dX(ws:gi):List Value:=ws.flatMap dp
def eV(b:List UInt8):jx:=b++List.replicate (64-b.length) 0
theorem dQ{b:List UInt8}(h:b.length≤64):(eV b).length=64:=by simp[eV];omega
def Whole(s:gi):Prop:=∀p∈s,p.2.length=64
theorem cB{p:Int×jx}(h:p.2.length=64):(dp p).length=65:=by simp[dp,dU,h]
theorem Hi{ws:gi}(h:Whole ws){k:Nat}(hk:k<ws.length):((dX ws).drop (k*65)).take 65=dp ws[k]:=by
 induction ws generalizing k with
 |nil=>simp at hk
 |cons p ws ih=>
  have h1:=cB (h p (by simp));simp only[dX,cT]at ih ⊢;cases k with
  |zero=>
   simp only[iO,bb,pe];rw[cH (by omega),aC (by omega)]
  |succ k=>
   rw[jd,dx (by omega),h1,show(k+1)*65-65=k*65 by omega,ba]
   simpa using ih (λq hq=>h q (by simp[hq])) (by simpa using hk)
theorem fE{s:gi}(h:Whole s)(k:Int):(kX s k).length=64:=by
 induction s with
 |nil=>simp[kX,zs]
 |cons p s ih=>
  obtain⟨a,b⟩:=p;simp only[kX];split
  · exact h (a,b) (by simp)
  · exact ih λq hq=>h q (by simp[hq])
theorem Whole.put{s:gi}(h:Whole s)(k:Int){v:jx}(hv:v.length=64):Whole (oT s k v):=by
 induction s with
 |nil=>intro p hp;simp only[oT,g9]at hp;subst hp;exact hv
 |cons p s ih=>
  obtain⟨a,b⟩:=p;intro q hq;simp only[oT]at hq;split at hq
  · rcases bU.1 hq with rfl|hq
    · exact hv
    · exact h q (by simp[hq])
  · rcases bU.1 hq with rfl|hq
    · exact h (a,b) (by simp)
    · exact ih (λq hq=>h q (by simp[hq])) q hq
theorem Whole.add{s:gi}(h:Whole s)(k:Int){v:jx}(hv:v.length=64):Whole (s++[(k,v)]):=λp hp=>by
 rcases fq.1 hp with hp|hp
 · exact h p hp
 · simp only[g9]at hp;subst hp;exact hv
section
variable {P:Program} {n:Nat} {D:List Deferred} {L:List (Nat×Value)} {S:World→Prop} {o:Oper}
theorem PV.mapNil{t t' k e m:TypeId}{x y:Operand}(ho:o.op= .binOp .eql t x y t')(hu:P.underlying t=some (.map k e))(hx:cS L x=some (.map (some m)))(hy:cS L y=some (.map none)):PV P n D L S o (.bool false):=
 gL ho hx hy λw=>by
  have e:(Op.equal t (.map (some m)) (.map none)).run P w= .ok false w:=run_equalIn_map_nil w 9999 t k e (some m) hu;simp[eqGuard,binOp,e]
end
end Dsk
namespace Dsk
open Go Leg Codec Api
theorem AJ{k:Int}{b:List UInt8}(h:b.length≤64):wr (.int .i64 k::dU zs) 1 ((dU b).take (min b.length 64))=dp (k,eV b):=by
 have e:(dU b).take (min b.length 64)=dU b:=aC (by rw[bo];omega);rw[e,wr,bo]
 have e2:(Value.int IntKind.i64 k::dU zs).drop (1+b.length)=dU (List.replicate (64-b.length) 0):=by
  rw[show 1+b.length=b.length+1 by omega,iL];rw[dU,dU,zs,←lQ,List.drop_replicate]
 rw[e2];simp only[dp,eV,dU,eX,List.take_succ_cons,List.take_zero,kO,ba]
theorem KE(vs:List Value): ∀(j:Nat) (pre zeros:List Value),pre.length=j→zeros.length=vs.length→
 ((vs.zipIdx j).foldl (λ(cs:Array Value) (c,i)=>cs.setIfInBounds (0+i) c) (pre++zeros).toArray)=(pre++vs).toArray:=by
 induction vs with
 |nil=>intro j pre zeros _ h;rw[List.eq_nil_of_length_eq_zero h];rfl
 |cons v vs ih=>
  intro j pre zeros hp hz
  match zeros,hz with
  |z::zeros,hz=>
   rw[List.zipIdx_cons,List.foldl_cons]
   have e:(pre++z::zeros).toArray.setIfInBounds (0+j) v=((pre++[v])++zeros).toArray:=by
    rw[bm,List.setIfInBounds_toArray,gY _ _ (by omega),hp,zm,cn,aG];rfl
   simp only[e];rw[ih (j+1) (pre++[v]) zeros (by simp[hp]) (by simpa using hz),aG];rfl
theorem FV{zeros:Array Value}{vs:List Value}(h:zeros.size=vs.length):Instr.fill (λi=>some (i*vs.length,vs.length)) zeros [(0, .agg vs.toArray)]=some vs.toArray:=by
 have e:=KE vs 0 [] zeros.toList rfl (by simpa using h);simp only[ba,Array.toArray_toList]at e;simp only[Instr.fill,Value.cells,List.size_toArray,iO,bm,ne_eq,not_true_eq_false,false_or,decide_false,Bool.false_or];rw[if_neg (by simp[h])];rw[←Array.foldl_toList,Array.toList_zipIdx];simp only[bm]at e;rw[e]
theorem kd{zeros:Array Value}{vs:List Value}{size:Nat}(h:vs.length=size)(hz:zeros.size=size):Instr.fill (λi=>some (i*size,size)) zeros [(0, .agg vs.toArray)]=some vs.toArray:=by
 subst h;exact FV hz
theorem jk(p:Int×jx): ∀u∈dp p,u.oneCell'=true:=by
 intro u hu;rcases bU.1 hu with rfl|hu
 · rfl
 · exact e9 _ u hu
end Dsk
namespace Leg
open Go
section
variable {P:Program} {w0:World} {F:Hl} {n:Nat} {ops:Array Oper} {Q:QQ} {D:List Deferred} {L:List (Nat×Value)} {H:List HP} {l:List Oper}
end
end Leg
namespace Dsk
open Go Leg Codec Api
def lm(ws:gi)(k:Nat):Int×jx:=ws.getD k (0,zs)
theorem wU{ws:gi}{k:Nat}(hk:k<ws.length):lm ws k=ws[k]:=by simp[lm,List.getD_eq_getElem?_getD,hk]
theorem ee{ws:gi}(h:Whole ws){k:Nat}(hk:k<ws.length):(lm ws k).2.length=64:=by rw[wU hk];exact h _ (ek hk)
theorem rh{ws:gi}(h:Whole ws){k:Nat}(hk:k<ws.length):((dX ws).drop (k*65)).take 65=dp (lm ws k):=by rw[wU hk];exact Hi h hk
theorem Hk{ws:gi}(h:Whole ws){k:Nat}(hk:k<ws.length):(dX ws)[k*65]?=some (.int .i64 (lm ws k).1):=by
 have e:=congrArg (λl:List Value=>l[0]?) (rh h hk)
 simpa [dp]using e
theorem Hj{ws:gi}(h:Whole ws){k:Nat}(hk:k<ws.length):((dX ws).drop (k*65+1)).take 64=dU (lm ws k).2:=by
 have e:=congrArg (λl:List Value=>l.drop 1) (rh h hk);simp only[kN,mM,dp,iL,bb]at e;exact e
theorem wQ{p:Int×jx}(h:p.2.length=64):((dp p).drop 1).take 64=dU p.2:=by
 simp only[dp,iL,bb];exact aC (by rw[bo,h];exact aK _)
theorem Cd{p:Int×jx}{c:Nat}(h:p.2.length=64)(hc:c≤64):((dp p).drop 1).take (min c 64)=(dU p.2).take c:=by
 simp only[dp,iL,bb];congr 1;omega
theorem w3{l:List Value}{n:Nat}(h:l.length=n):(l.drop 0).take n=l:=by rw[bb,aC (by omega)]
def DO(s ws:gi):Nat→gi
 |0=>s
 |k+1=>oT (DO s ws k) (lm ws k).1 (lm ws k).2
theorem Whole.lay{s ws:gi}(h:Whole s)(hw:Whole ws): ∀k,k≤ws.length→Whole (DO s ws k)
 |0,_=>h
 |k+1,hk=>(Whole.lay h hw k (by omega)).put _ (ee hw (by omega))
def tf(old new:jx)(c:Nat):jx:=new.take c++old.drop c
theorem rj{old new:jx}{c:Nat}(h1:old.length=64)(h2:new.length=64):(tf old new c).length=64:=by simp[tf];omega
def qQ(n:Int):Nat:=(min (max n 0) 64).toNat
theorem My(n:Int):min (max n 0) 64=((qQ n:Nat):Int):=by unfold qQ;omega
theorem ua(n:Int):qQ n≤64:=by unfold qQ;omega
def ny(mask torn:Int)(c:Nat)(s:gi)(k:Nat)(p:Int×jx):gi:=
 if(k:Int)=torn then oT s p.1 (tf (kX s p.1) p.2 c)else if mask.fdiv (2^ (k%32))%2=1 then oT s p.1 p.2 else s
def nW(mask torn:Int)(c:Nat)(s ws:gi):Nat→gi
 |0=>s
 |k+1=>ny mask torn c (nW mask torn c s ws k) k (lm ws k)
theorem Whole.crash{mask torn:Int}{c:Nat}{s ws:gi}(h:Whole s)(hw:Whole ws): ∀k,k≤ws.length→Whole (nW mask torn c s ws k)
 |0,_=>h
 |k+1,hk=>by
  have ih:=Whole.crash (mask:=mask) (torn:=torn) (c:=c) h hw k (by omega);simp only[nW,ny];split
  · exact ih.put _ (rj (fE ih _) (ee hw (by omega)))
  · split
    · exact ih.put _ (ee hw (by omega))
    · exact ih
def jg(s ws:gi)(at':Int):Nat→jx
 |0=>kX s at'
 |k+1=>if(lm ws k).1=at' then(lm ws k).2 else jg s ws at' k
theorem zS{s ws:gi}(h:Whole s)(hw:Whole ws)(at':Int): ∀k,k≤ws.length→(jg s ws at' k).length=64
 |0,_=>fE h _
 |k+1,hk=>by
  simp only[jg];split
  · exact ee hw (by omega)
  · exact zS h hw at' k (by omega)
theorem HW{s ws:gi}{at':Int}{k:Nat}(h:(lm ws k).1=at'):jg s ws at' (k+1)=(lm ws k).2:=by simp[jg,h]
theorem Fh{s ws:gi}{at':Int}{k:Nat}(h:(lm ws k).1≠at'):jg s ws at' (k+1)=jg s ws at' k:=by simp[jg,h]
theorem Hs{old new:jx}{c m:Nat}(hc:c≤64)(h1:old.length=64)(h2:new.length=64)(hm:m=c):wr (dU old) 0 (((dU new).take c).take m)=dU (tf old new c):=by
 subst hm;have:((dU new).take m).length=m:=by rw[bA,bo];omega
 rw[aC (by omega),wr,this,List.take_zero,ba,bm];simp[dU,tf,qi,lQ]
structure DS where
 s:gi
 ws:gi
 ar:Bool
 lf:Int
 dn:Bool
structure DS.Ok(D:DS):Prop where
 s:Whole D.s
 ws:Whole D.ws
 lf:0≤D.lf∧D.lf≤9223372036854775807
def DS.new:DS:=⟨[],[],false,0,false⟩
def DS.arm(D:DS)(n:Int):DS:= {D with ar:=true,lf:=max n 0}
def DS.write(D:DS)(at':Int)(bs:List UInt8):Int×DS:=
 if at'<0∨2048≤at'∨64<bs.length then(5,D)
 else if D.dn=true∨(D.ar=true∧D.lf=0)then(4,{D with dn:=true})
 else(0,{D with ws:=D.ws++[(at',eV bs)],lf:=if D.ar=true then D.lf-1 else D.lf,dn:=false})
def DS.sync(D:DS):Int×DS:=if D.dn=true then(4,D)else(0,{D with s:=DO D.s D.ws D.ws.length,ws:=[]})
def DS.crash(D:DS)(mask torn n:Int):DS:=⟨nW mask torn (qQ n) D.s D.ws D.ws.length,[],false,0,false⟩
def DS.read(D:DS)(at':Int):jx:=jg D.s D.ws at' D.ws.length
theorem nu:Whole []:=λ_ h=>absurd h (by simp)
theorem DS.new_ok:DS.new.Ok:=⟨nu,nu,⟨by decide,by decide⟩⟩
theorem DS.write_ok{D:DS}(h:D.Ok)(at':Int)(bs:List UInt8):(D.write at' bs).2.Ok:=by
 unfold DS.write;split
 · exact h
 · split
   · exact⟨h.s,h.ws,h.lf⟩
   · rename_i h1 h2
     refine⟨h.s,h.ws.add _ (dQ (by omega)),?_⟩;have:=h.lf;show 0≤(if D.ar=true then D.lf-1 else D.lf)∧(if D.ar=true then D.lf-1 else D.lf)≤9223372036854775807;split<;>rename_i h3
     · have:D.lf≠0:=λq=>h2 (.inr ⟨h3,q⟩)
       exact⟨by omega,by omega⟩
     · exact this
theorem DS.sync_ok{D:DS}(h:D.Ok):D.sync.2.Ok:=by
 unfold DS.sync;split
 · exact h
 · exact⟨h.s.lay h.ws _ (aK _),nu,h.lf⟩
theorem DS.crash_ok{D:DS}(h:D.Ok)(mask torn n:Int):(D.crash mask torn n).Ok:=⟨h.s.crash h.ws _ (aK _),nu,⟨by simp[DS.crash],by simp[DS.crash]⟩⟩
theorem DS.read_len{D:DS}(h:D.Ok)(at':Int):(D.read at').length=64:=zS h.s h.ws _ _ (aK _)
abbrev mO:= @DS.read_len
theorem DS.write_ws{D:DS}{at':Int}{bs:List UInt8}:(D.write at' bs).2.ws.length≤D.ws.length+1:=by
 unfold DS.write;split
 · simp
 · split
   · simp
   · simp
abbrev PN(DT WT:Nat)(d:Nat)(D:DS):HP:=pack λx:Nat×Value=>[aj d [.map (some x.1),x.2, .bool D.ar, .int .i64 D.lf, .bool D.dn] DT,lL x.1 (uq D.s),own x.2 D.ws.length (dX D.ws) WT 65]
end Dsk
end

section
namespace Go.Proofs.YtkhjnolhhidecaaGreatDoor
open Go Leg Codec Api Dsk
theorem BG(d m:Nat)(wv:Value)(ar dn:Bool)(lf:Int):
 DT 48 #[(.pointer (some ⟨d,0,none⟩))] T0 [aj d [(.map (some m)),wv,(.bool (ar)),(.int .i64 (lf)),(.bool (dn))] 111] (RI (.bool dn) [aj d [(.map (some m)),wv,(.bool (ar)),(.int .i64 (lf)),(.bool (dn))] 111]):=by
 refine BD 7 Tryz.func48 rfl rfl rfl λw0 F hF=>sr λ_ J1=>PS ?_
 refine nx J1 (sr λ_ J2=>P2 ?_);refine FA 4 ir lR ?_;refine LA 0 Y4 ?_;refine PS ?_;exact nx J2 (ah (WK [0] (aw rfl rfl ⟨rfl,rfl⟩)))
theorem Ea(d m:Nat)(wv:Value)(ar dn:Bool)(lf n:Int):
 DT 27 #[(.pointer (some ⟨d,0,none⟩)),(.int .i64 (n))] T0 [aj d [(.map (some m)),wv,(.bool (ar)),(.int .i64 (lf)),(.bool (dn))] 111] (dD (λ_ H=>H=[aj d [(.map (some m)),wv,(.bool true),(.int .i64 ((max n 0))),(.bool (dn))] 111])):=by
 refine BD 12 Tryz.func27 rfl rfl rfl λw0 F hF=>ac (P3 ?_)
 refine tp (zk rfl rfl rfl) ?_;refine PS ?_;refine FA 2 ir lR ?_;refine S0 0 lR ?_;refine PS ?_;refine FA 3 ir aP ?_;refine S0 0 aP ?_;exact au (WK [0] (bB rfl rfl))
theorem D9:
 DT 20 #[] T0 [] (dD (λv H=>∃d m,v= .pointer (some ⟨d,0,none⟩)∧H=[aj d [(.map (some m)),(.slice none 0 0),(.bool false),(.int .i64 0),(.bool false)] 111,lL m ([])])):=by
 refine BD 4 Tryz.func20 rfl rfl rfl λw0 F hF=>sr λ_ J1=>PS ?_
 refine nx J1 (sr λ_ J2=>TL.makeMap (ab rfl) rfl rfl rfl (λm1=>BV #[(.map (some m1)),(.slice none 0 0),(.bool false),(.int .i64 0),(.bool false)] ?_));refine XB λb3=>?_
 refine PS ?_;exact nx J2 (ah (WK [0,0] (aw rfl rfl ⟨b3,m1,rfl,rfl⟩)))
theorem de:Tryz.prog.follows .mixedOrders=true:=by kernel_rfl
theorem pK(d m:Nat)(wv:Value)(s:gi)(ar dn:Bool)(lf at':Int)(b:List UInt8)(hb:b.length=64):
 DT 71 #[(.pointer (some ⟨d,0,none⟩)),(.int .i64 (at')),(.agg (dU b).toArray)] T0 [aj d [(.map (some m)),wv,(.bool (ar)),(.int .i64 (lf)),(.bool (dn))] 111,lL m (uq s)] (dD (λ_ H=>H=[aj d [(.map (some m)),wv,(.bool (ar)),(.int .i64 (lf)),(.bool (dn))] 111,lL m (uq (oT s at' b))])):=by
 refine BD 21 Tryz.func71 rfl rfl rfl λw0 F hF=>sr λ_ J1=>XY (dU b) λb5=>?_
 refine nx J1 (aa λ_ J2=>sr λ_ J3=>P2 ?_);refine FA 0 ir Gr ?_;refine LA 1 Ex ?_;refine tp (PV.mapNil rfl Ex rfl rfl) ?_;refine nx J3 (CN (qx J2 (D2 1 0 de ?_)));refine PD 0 ?_;refine PD 1 ?_;refine FD 2 0 ir Gr ?_;refine LX 3 Ex (.map (some m)) ?_ (hc:=by exact rfl);refine PD 4 ?_;refine ta 5 rfl (aN (vs:=dU b) rfl sI rfl lU rfl (λ_ h=>h.2.2.1) (by rw[bo];exact hb) (by rw[bb,aC (by rw[bo,hb];exact aK _)])) ?_;refine AL 6 ?_;exact TL.mapUpdate (i:=2) (H':=[aj b5 (dU b) 145,aj d [(.map (some m)),wv,(.bool (ar)),(.int .i64 (lf)),(.bool (dn))] 111,lL m (uq (oT s at' b))]) (ab rfl) rfl rfl Ex Y3 rfl rfl rfl rfl rfl (congrArg (λq=>List.set _ 2 (lL m q)) (Kr _ _ _)) (EN (DN (WK [1,1] (bB rfl rfl))))
theorem y5(d m:Nat)(wv:Value)(ws:gi)(ar dn:Bool)(lf at':Int)(x:Value)(bs:List UInt8)(hl:0≤lf∧lf≤9223372036854775807)(hw:ws.length≤1000000000):
 DT 86 #[(.pointer (some ⟨d,0,none⟩)),(.int .i64 (at')),x] (IsW x bs) [aj d [(.map (some m)),wv,(.bool (ar)),(.int .i64 (lf)),(.bool (dn))] 111,own wv (ws.length) (dX ws) 147 65] (dD (λv H=>if at'<0∨2048≤at'∨64<bs.length then v= .int .i64 5∧H=[aj d [(.map (some m)),wv,(.bool (ar)),(.int .i64 (lf)),(.bool (dn))] 111,own wv (ws.length) (dX ws) 147 65]else if dn=true∨(ar=true∧lf=0)then v= .int .i64 4∧H=[aj d [(.map (some m)),wv,(.bool (ar)),(.int .i64 (lf)),(.bool true)] 111,own wv (ws.length) (dX ws) 147 65]else v= .int .i64 0∧∃wv',H=[aj d [(.map (some m)),wv',(.bool (ar)),(.int .i64 ((if ar=true then lf-1 else lf))),(.bool false)] 111,own wv' ((ws++[(at',eV bs)]).length) (dX (ws++[(at',eV bs)])) 147 65])):=by
 refine BD 64 Tryz.func86 rfl rfl rfl λw0 F hF=>sr λ_ J1=>PS ?_
 refine nx J1 (aa λ_ J2=>sr λ_ J3=>P2 ?_);refine ap ?_ ?_<;>intro h9;refine PS ?_;refine UT ?_;refine UT ?_;refine P2 ?_
 iterate 3 refine UT ?_
 refine PS ?_;refine nx J3 (CY (sr λ_ J4=>PS ?_));refine nx J4 (ah (ae (WK [0,0] (aw rfl rfl ?_))));show(if _ then _ else _)
 first
  | (rw[if_pos (by omega)];exact⟨rfl,rfl⟩)
  | (rw[if_neg (by omega),if_pos (by simp_all)];exact⟨rfl,by simp_all<;>rfl⟩)
  | (rw[if_neg (by omega),if_neg (by simp_all)];exact⟨rfl,v61,by simp_all<;>rfl⟩)
 refine P3 ?_;refine ap ?_ ?_<;>intro h12;refine P2 ?_
 iterate 3 refine UT ?_
 refine PS ?_;refine nx J3 (CY (sr λ_ J5=>PS ?_));refine nx J5 (ah (ae (WK [0,0] (aw rfl rfl ?_))));show(if _ then _ else _)
 first
  | (rw[if_pos (by omega)];exact⟨rfl,rfl⟩)
  | (rw[if_neg (by omega),if_pos (by simp_all)];exact⟨rfl,by simp_all<;>rfl⟩)
  | (rw[if_neg (by omega),if_neg (by simp_all)];exact⟨rfl,v61,by simp_all<;>rfl⟩)
 refine P3 ?_;refine tq (dL rfl fM rfl hF.len) ?_;refine PS ?_;refine ap ?_ ?_<;>intro h17;refine PS ?_;refine nx J3 (CY (sr λ_ J6=>PS ?_));refine nx J6 (ah (ae (WK [0,0] (aw rfl rfl ?_))));show(if _ then _ else _)
 first
  | (rw[if_pos (by omega)];exact⟨rfl,rfl⟩)
  | (rw[if_neg (by omega),if_pos (by simp_all)];exact⟨rfl,by simp_all<;>rfl⟩)
  | (rw[if_neg (by omega),if_neg (by simp_all)];exact⟨rfl,v61,by simp_all<;>rfl⟩)
 refine PS ?_;refine nx J3 (CN (qx J2 (aa λ_ J7=>sr λ_ J8=>P2 ?_)));refine FA 2 ir lR ?_;refine LA 0 Y4 ?_;refine bg ?_ ?_<;>intro h22;refine P3 ?_;refine FA 3 ir aP ?_;refine LA 0 Y3 ?_;refine PS ?_;refine ap ?_ ?_<;>intro h28;refine PS ?_;refine nx J8 (CY (ac (P2 ?_)));refine FA 4 ir lR ?_;refine S0 0 lR ?_;refine nx J7 (aa λ_ J9=>sr λ_ J10=>P2 ?_);refine FA 4 ir lR ?_;refine LA 0 Y4 ?_;refine nx J10 (CY (sr λ_ J11=>PS ?_));refine nx J11 (ah (ae (WK [0,0] (aw rfl rfl ?_))));show(if _ then _ else _)
 first
  | (rw[if_pos (by omega)];exact⟨rfl,rfl⟩)
  | (rw[if_neg (by omega),if_pos (by simp_all)];exact⟨rfl,by simp_all<;>rfl⟩)
  | (rw[if_neg (by omega),if_neg (by simp_all)];exact⟨rfl,v61,by simp_all<;>rfl⟩)
 refine PS ?_;refine nx J8 (CN (qx J7 (aa λ_ J12=>sr λ_ J13=>P2 ?_)));refine FA 4 ir lR ?_;refine LA 0 Y4 ?_;refine bg ?_ ?_<;>intro h36;refine nx J13 (CY (sr λ_ J14=>PS ?_));refine nx J14 (ah (ae (WK [0,0] (aw rfl rfl ?_))));show(if _ then _ else _)
 first
  | (rw[if_pos (by omega)];exact⟨rfl,rfl⟩)
  | (rw[if_neg (by omega),if_pos (by simp_all)];exact⟨rfl,by simp_all<;>rfl⟩)
  | (rw[if_neg (by omega),if_neg (by simp_all)];exact⟨rfl,v61,by simp_all<;>rfl⟩)
 refine nx J13 (CN (qx J12 (aa λ_ J15=>sr λ_ J16=>P2 ?_)));refine FA 2 ir lR ?_;refine LA 0 Y4 ?_;refine bg ?_ ?_<;>intro h40;refine nx J16 (CY (ac (P2 ?_)));refine FA 3 ir aP ?_;refine LA 0 Y3 ?_;refine tp (jj rfl rfl rfl (bK (by omega) (by omega))) ?_;refine PS ?_;refine FA 3 ir aP ?_;refine S0 0 aP ?_;refine nx J15 (sr λ_ J17=>PS ?_);refine BV (((.int .i64 (at'))::List.replicate 64 (.int .u8 0)).toArray) ?_;refine XA He λb7=>?_
 refine bW (vs:=((.int .i64 (at'))::List.replicate 64 (.int .u8 0))) (i:=0) (ab rfl) rfl rfl rfl rfl rfl m5 (by simp[Value.oneCell']) rfl rfl (Lq rfl) rfl rfl (nx J17 (sr λ_ J18=>FA 1 pP lU ?_));refine tp (oB rfl sI kx rfl) ?_;refine PS ?_;refine Oo (i:=0) (m:=bs.length) (news:=(dU bs)) (H':=[aj b7 (dp (at',eV bs)) 147,aj d [(.map (some m)),wv,(.bool (ar)),(.int .i64 (lf-1)),(.bool (dn))] 111,own wv (ws.length) (dX ws) 147 65]) (ab rfl) rfl rfl rfl fM kx rfl rfl rfl rfl (λ_ _=>hF.src (λ_ h=>fB h)) (e9 _) (by show 1+min bs.length 64≤65;omega) (AJ (by omega)) rfl (nx J18 (aa λ_ J19=>D1 0 de ?_));refine PD 0 ?_;refine PD 1 ?_;refine PD 2 ?_;refine FD 3 1 ir ic ?_;refine ta 5 rfl (aN (vs:=dp (at',eV bs)) rfl pP rfl m5 rfl (λ_ h=>h.2.1) (cB (dQ (by omega))) (by rw[bb,aC (by rw[(cB (dQ (by omega)))];exact aK _)])) ?_;refine da [4,6] (by kernel_rfl) rfl (aF rfl ?_ ?_);refine LA 1 jv ?_;refine EN (AL 6 ?_);refine aM (cells:=(dp (at',eV bs)).toArray) (ab rfl) rfl rfl rfl jv m7 rfl rfl rfl (kd (cB (dQ (by omega))) (by simp)) (λb60=>?_);change TL _ _ _ _ _ _ _ _ _ [aj b60 (dp (at',eV bs)) 147,aj b7 (dp (at',eV bs)) 147,aj d [(.map (some m)),wv,(.bool (ar)),(.int .i64 (lf-1)),(.bool (dn))] 111,own wv (ws.length) (dX ws) 147 65];refine EN (AL 7 ?_)
 refine bX (k:=3) (news:=dp (at',eV bs)) (nn':=(ws++[(at',eV bs)]).length) (xs':=dX (ws++[(at',eV bs)])) (ab rfl) rfl rfl rfl jv m7 rfl rfl rfl rfl rfl rfl (λ_ _=>gl (cB (dQ (by omega))) (RO 0) (by rw[bb,aC (aK _)])) (jk _) (by simp only[maxLen];omega) (by omega) (by simp) (by simp[dX]) (λv61 ov61=>EN (PD 8 ?_));refine FD 9 1 ir ic ?_;refine AL 10 ?_;refine bH (i:=2) (ab rfl) rfl rfl rfl rfl ov61 ic rfl rfl (lb rfl) rfl rfl (EN (DN (ad J19 (sr λ_ J20=>PS ?_))));refine nx J20 (ah (WK [2,2] (aw rfl rfl ?_)));show(if _ then _ else _)
 first
  | (rw[if_pos (by omega)];exact⟨rfl,rfl⟩)
  | (rw[if_neg (by omega),if_pos (by simp_all)];exact⟨rfl,by simp_all<;>rfl⟩)
  | (rw[if_neg (by omega),if_neg (by simp_all)];exact⟨rfl,v61,by simp_all<;>rfl⟩)
 refine aF rfl ?_ ?_;refine aM (cells:=(dp (at',eV bs)).toArray) (ab rfl) rfl rfl rfl jv m7 rfl rfl rfl (kd (cB (dQ (by omega))) (by simp)) (λb60=>?_);change TL _ _ _ _ _ _ _ _ _ [aj b60 (dp (at',eV bs)) 147,aj b7 (dp (at',eV bs)) 147,aj d [(.map (some m)),wv,(.bool (ar)),(.int .i64 (lf-1)),(.bool (dn))] 111,own wv (ws.length) (dX ws) 147 65];refine EN (AL 4 ?_);refine LA 2 jv ?_;refine EN (AL 7 ?_);refine bX (k:=3) (news:=dp (at',eV bs)) (nn':=(ws++[(at',eV bs)]).length) (xs':=dX (ws++[(at',eV bs)])) (ab rfl) rfl rfl rfl jv m7 rfl rfl rfl rfl rfl rfl (λ_ _=>gl (cB (dQ (by omega))) (RO 0) (by rw[bb,aC (aK _)])) (jk _) (by simp only[maxLen];omega) (by omega) (by simp) (by simp[dX]) (λv61 ov61=>EN (PD 8 ?_));refine FD 9 1 ir ic ?_;refine AL 10 ?_;refine bH (i:=2) (ab rfl) rfl rfl rfl rfl ov61 ic rfl rfl (lb rfl) rfl rfl (EN (DN (ad J19 (sr λ_ J21=>PS ?_))));refine nx J21 (ah (WK [2,2] (aw rfl rfl ?_)));show(if _ then _ else _)
 first
  | (rw[if_pos (by omega)];exact⟨rfl,rfl⟩)
  | (rw[if_neg (by omega),if_pos (by simp_all)];exact⟨rfl,by simp_all<;>rfl⟩)
  | (rw[if_neg (by omega),if_neg (by simp_all)];exact⟨rfl,v61,by simp_all<;>rfl⟩)
 exact bP;refine nx J16 (CN (qx J15 (sr λ_ J22=>PS ?_)));refine BV (((.int .i64 (at'))::List.replicate 64 (.int .u8 0)).toArray) ?_;refine XA He λb7=>?_
 refine bW (vs:=((.int .i64 (at'))::List.replicate 64 (.int .u8 0))) (i:=0) (ab rfl) rfl rfl rfl rfl rfl m5 (by simp[Value.oneCell']) rfl rfl (Lq rfl) rfl rfl (nx J22 (sr λ_ J23=>FA 1 pP lU ?_));refine tp (oB rfl sI kx rfl) ?_;refine PS ?_;refine Oo (i:=0) (m:=bs.length) (news:=(dU bs)) (H':=[aj b7 (dp (at',eV bs)) 147,aj d [(.map (some m)),wv,(.bool (ar)),(.int .i64 (lf)),(.bool (dn))] 111,own wv (ws.length) (dX ws) 147 65]) (ab rfl) rfl rfl rfl fM kx rfl rfl rfl rfl (λ_ _=>hF.src (λ_ h=>fB h)) (e9 _) (by show 1+min bs.length 64≤65;omega) (AJ (by omega)) rfl (nx J23 (aa λ_ J24=>D1 0 de ?_));refine PD 0 ?_;refine PD 1 ?_;refine PD 2 ?_;refine FD 3 1 ir ic ?_;refine ta 5 rfl (aN (vs:=dp (at',eV bs)) rfl pP rfl m5 rfl (λ_ h=>h.2.1) (cB (dQ (by omega))) (by rw[bb,aC (by rw[(cB (dQ (by omega)))];exact aK _)])) ?_;refine da [4,6] (by kernel_rfl) rfl (aF rfl ?_ ?_);refine LA 1 jv ?_;refine EN (AL 6 ?_);refine aM (cells:=(dp (at',eV bs)).toArray) (ab rfl) rfl rfl rfl jv m7 rfl rfl rfl (kd (cB (dQ (by omega))) (by simp)) (λb60=>?_);change TL _ _ _ _ _ _ _ _ _ [aj b60 (dp (at',eV bs)) 147,aj b7 (dp (at',eV bs)) 147,aj d [(.map (some m)),wv,(.bool (ar)),(.int .i64 (lf)),(.bool (dn))] 111,own wv (ws.length) (dX ws) 147 65];refine EN (AL 7 ?_)
 refine bX (k:=3) (news:=dp (at',eV bs)) (nn':=(ws++[(at',eV bs)]).length) (xs':=dX (ws++[(at',eV bs)])) (ab rfl) rfl rfl rfl jv m7 rfl rfl rfl rfl rfl rfl (λ_ _=>gl (cB (dQ (by omega))) (RO 0) (by rw[bb,aC (aK _)])) (jk _) (by simp only[maxLen];omega) (by omega) (by simp) (by simp[dX]) (λv61 ov61=>EN (PD 8 ?_));refine FD 9 1 ir ic ?_;refine AL 10 ?_;refine bH (i:=2) (ab rfl) rfl rfl rfl rfl ov61 ic rfl rfl (lb rfl) rfl rfl (EN (DN (ad J24 (sr λ_ J25=>PS ?_))));refine nx J25 (ah (WK [2,2] (aw rfl rfl ?_)));show(if _ then _ else _)
 first
  | (rw[if_pos (by omega)];exact⟨rfl,rfl⟩)
  | (rw[if_neg (by omega),if_pos (by simp_all)];exact⟨rfl,by simp_all<;>rfl⟩)
  | (rw[if_neg (by omega),if_neg (by simp_all)];exact⟨rfl,v61,by simp_all<;>rfl⟩)
 refine aF rfl ?_ ?_;refine aM (cells:=(dp (at',eV bs)).toArray) (ab rfl) rfl rfl rfl jv m7 rfl rfl rfl (kd (cB (dQ (by omega))) (by simp)) (λb60=>?_);change TL _ _ _ _ _ _ _ _ _ [aj b60 (dp (at',eV bs)) 147,aj b7 (dp (at',eV bs)) 147,aj d [(.map (some m)),wv,(.bool (ar)),(.int .i64 (lf)),(.bool (dn))] 111,own wv (ws.length) (dX ws) 147 65];refine EN (AL 4 ?_);refine LA 2 jv ?_;refine EN (AL 7 ?_);refine bX (k:=3) (news:=dp (at',eV bs)) (nn':=(ws++[(at',eV bs)]).length) (xs':=dX (ws++[(at',eV bs)])) (ab rfl) rfl rfl rfl jv m7 rfl rfl rfl rfl rfl rfl (λ_ _=>gl (cB (dQ (by omega))) (RO 0) (by rw[bb,aC (aK _)])) (jk _) (by simp only[maxLen];omega) (by omega) (by simp) (by simp[dX]) (λv61 ov61=>EN (PD 8 ?_));refine FD 9 1 ir ic ?_;refine AL 10 ?_;refine bH (i:=2) (ab rfl) rfl rfl rfl rfl ov61 ic rfl rfl (lb rfl) rfl rfl (EN (DN (ad J24 (sr λ_ J26=>PS ?_))));refine nx J26 (ah (WK [2,2] (aw rfl rfl ?_)));show(if _ then _ else _)
 first
  | (rw[if_pos (by omega)];exact⟨rfl,rfl⟩)
  | (rw[if_neg (by omega),if_pos (by simp_all)];exact⟨rfl,by simp_all<;>rfl⟩)
  | (rw[if_neg (by omega),if_neg (by simp_all)];exact⟨rfl,v61,by simp_all<;>rfl⟩)
 exact bP;refine PS ?_
 iterate 5 refine UF ?_
 refine PS ?_;refine nx J8 (CN (qx J7 (aa λ_ J27=>sr λ_ J28=>P2 ?_)));refine FA 4 ir lR ?_;refine LA 0 Y4 ?_;refine bg ?_ ?_<;>intro h36;refine nx J28 (CY (sr λ_ J29=>PS ?_));refine nx J29 (ah (ae (WK [0,0] (aw rfl rfl ?_))));show(if _ then _ else _)
 first
  | (rw[if_pos (by omega)];exact⟨rfl,rfl⟩)
  | (rw[if_neg (by omega),if_pos (by simp_all)];exact⟨rfl,by simp_all<;>rfl⟩)
  | (rw[if_neg (by omega),if_neg (by simp_all)];exact⟨rfl,v61,by simp_all<;>rfl⟩)
 refine nx J28 (CN (qx J27 (aa λ_ J30=>sr λ_ J31=>P2 ?_)));refine FA 2 ir lR ?_;refine LA 0 Y4 ?_;refine bg ?_ ?_<;>intro h40;refine nx J31 (CY (ac (P2 ?_)));refine FA 3 ir aP ?_;refine LA 0 Y3 ?_;refine tp (jj rfl rfl rfl (bK (by omega) (by omega))) ?_;refine PS ?_;refine FA 3 ir aP ?_;refine S0 0 aP ?_;refine nx J30 (sr λ_ J32=>PS ?_);refine BV (((.int .i64 (at'))::List.replicate 64 (.int .u8 0)).toArray) ?_;refine XA He λb7=>?_
 refine bW (vs:=((.int .i64 (at'))::List.replicate 64 (.int .u8 0))) (i:=0) (ab rfl) rfl rfl rfl rfl rfl m5 (by simp[Value.oneCell']) rfl rfl (Lq rfl) rfl rfl (nx J32 (sr λ_ J33=>FA 1 pP lU ?_));refine tp (oB rfl sI kx rfl) ?_;refine PS ?_;refine Oo (i:=0) (m:=bs.length) (news:=(dU bs)) (H':=[aj b7 (dp (at',eV bs)) 147,aj d [(.map (some m)),wv,(.bool (ar)),(.int .i64 (lf-1)),(.bool (dn))] 111,own wv (ws.length) (dX ws) 147 65]) (ab rfl) rfl rfl rfl fM kx rfl rfl rfl rfl (λ_ _=>hF.src (λ_ h=>fB h)) (e9 _) (by show 1+min bs.length 64≤65;omega) (AJ (by omega)) rfl (nx J33 (aa λ_ J34=>D1 0 de ?_));refine PD 0 ?_;refine PD 1 ?_;refine PD 2 ?_;refine FD 3 1 ir ic ?_;refine ta 5 rfl (aN (vs:=dp (at',eV bs)) rfl pP rfl m5 rfl (λ_ h=>h.2.1) (cB (dQ (by omega))) (by rw[bb,aC (by rw[(cB (dQ (by omega)))];exact aK _)])) ?_;refine da [4,6] (by kernel_rfl) rfl (aF rfl ?_ ?_);refine LA 1 jv ?_;refine EN (AL 6 ?_);refine aM (cells:=(dp (at',eV bs)).toArray) (ab rfl) rfl rfl rfl jv m7 rfl rfl rfl (kd (cB (dQ (by omega))) (by simp)) (λb60=>?_);change TL _ _ _ _ _ _ _ _ _ [aj b60 (dp (at',eV bs)) 147,aj b7 (dp (at',eV bs)) 147,aj d [(.map (some m)),wv,(.bool (ar)),(.int .i64 (lf-1)),(.bool (dn))] 111,own wv (ws.length) (dX ws) 147 65];refine EN (AL 7 ?_)
 refine bX (k:=3) (news:=dp (at',eV bs)) (nn':=(ws++[(at',eV bs)]).length) (xs':=dX (ws++[(at',eV bs)])) (ab rfl) rfl rfl rfl jv m7 rfl rfl rfl rfl rfl rfl (λ_ _=>gl (cB (dQ (by omega))) (RO 0) (by rw[bb,aC (aK _)])) (jk _) (by simp only[maxLen];omega) (by omega) (by simp) (by simp[dX]) (λv61 ov61=>EN (PD 8 ?_));refine FD 9 1 ir ic ?_;refine AL 10 ?_;refine bH (i:=2) (ab rfl) rfl rfl rfl rfl ov61 ic rfl rfl (lb rfl) rfl rfl (EN (DN (ad J34 (sr λ_ J35=>PS ?_))));refine nx J35 (ah (WK [2,2] (aw rfl rfl ?_)));show(if _ then _ else _)
 first
  | (rw[if_pos (by omega)];exact⟨rfl,rfl⟩)
  | (rw[if_neg (by omega),if_pos (by simp_all)];exact⟨rfl,by simp_all<;>rfl⟩)
  | (rw[if_neg (by omega),if_neg (by simp_all)];exact⟨rfl,v61,by simp_all<;>rfl⟩)
 refine aF rfl ?_ ?_;refine aM (cells:=(dp (at',eV bs)).toArray) (ab rfl) rfl rfl rfl jv m7 rfl rfl rfl (kd (cB (dQ (by omega))) (by simp)) (λb60=>?_);change TL _ _ _ _ _ _ _ _ _ [aj b60 (dp (at',eV bs)) 147,aj b7 (dp (at',eV bs)) 147,aj d [(.map (some m)),wv,(.bool (ar)),(.int .i64 (lf-1)),(.bool (dn))] 111,own wv (ws.length) (dX ws) 147 65];refine EN (AL 4 ?_);refine LA 2 jv ?_;refine EN (AL 7 ?_);refine bX (k:=3) (news:=dp (at',eV bs)) (nn':=(ws++[(at',eV bs)]).length) (xs':=dX (ws++[(at',eV bs)])) (ab rfl) rfl rfl rfl jv m7 rfl rfl rfl rfl rfl rfl (λ_ _=>gl (cB (dQ (by omega))) (RO 0) (by rw[bb,aC (aK _)])) (jk _) (by simp only[maxLen];omega) (by omega) (by simp) (by simp[dX]) (λv61 ov61=>EN (PD 8 ?_));refine FD 9 1 ir ic ?_;refine AL 10 ?_;refine bH (i:=2) (ab rfl) rfl rfl rfl rfl ov61 ic rfl rfl (lb rfl) rfl rfl (EN (DN (ad J34 (sr λ_ J36=>PS ?_))));refine nx J36 (ah (WK [2,2] (aw rfl rfl ?_)));show(if _ then _ else _)
 first
  | (rw[if_pos (by omega)];exact⟨rfl,rfl⟩)
  | (rw[if_neg (by omega),if_pos (by simp_all)];exact⟨rfl,by simp_all<;>rfl⟩)
  | (rw[if_neg (by omega),if_neg (by simp_all)];exact⟨rfl,v61,by simp_all<;>rfl⟩)
 exact bP;refine nx J31 (CN (qx J30 (sr λ_ J37=>PS ?_)));refine BV (((.int .i64 (at'))::List.replicate 64 (.int .u8 0)).toArray) ?_;refine XA He λb7=>?_
 refine bW (vs:=((.int .i64 (at'))::List.replicate 64 (.int .u8 0))) (i:=0) (ab rfl) rfl rfl rfl rfl rfl m5 (by simp[Value.oneCell']) rfl rfl (Lq rfl) rfl rfl (nx J37 (sr λ_ J38=>FA 1 pP lU ?_));refine tp (oB rfl sI kx rfl) ?_;refine PS ?_;refine Oo (i:=0) (m:=bs.length) (news:=(dU bs)) (H':=[aj b7 (dp (at',eV bs)) 147,aj d [(.map (some m)),wv,(.bool (ar)),(.int .i64 (lf)),(.bool (dn))] 111,own wv (ws.length) (dX ws) 147 65]) (ab rfl) rfl rfl rfl fM kx rfl rfl rfl rfl (λ_ _=>hF.src (λ_ h=>fB h)) (e9 _) (by show 1+min bs.length 64≤65;omega) (AJ (by omega)) rfl (nx J38 (aa λ_ J39=>D1 0 de ?_));refine PD 0 ?_;refine PD 1 ?_;refine PD 2 ?_;refine FD 3 1 ir ic ?_;refine ta 5 rfl (aN (vs:=dp (at',eV bs)) rfl pP rfl m5 rfl (λ_ h=>h.2.1) (cB (dQ (by omega))) (by rw[bb,aC (by rw[(cB (dQ (by omega)))];exact aK _)])) ?_;refine da [4,6] (by kernel_rfl) rfl (aF rfl ?_ ?_);refine LA 1 jv ?_;refine EN (AL 6 ?_);refine aM (cells:=(dp (at',eV bs)).toArray) (ab rfl) rfl rfl rfl jv m7 rfl rfl rfl (kd (cB (dQ (by omega))) (by simp)) (λb60=>?_);change TL _ _ _ _ _ _ _ _ _ [aj b60 (dp (at',eV bs)) 147,aj b7 (dp (at',eV bs)) 147,aj d [(.map (some m)),wv,(.bool (ar)),(.int .i64 (lf)),(.bool (dn))] 111,own wv (ws.length) (dX ws) 147 65];refine EN (AL 7 ?_)
 refine bX (k:=3) (news:=dp (at',eV bs)) (nn':=(ws++[(at',eV bs)]).length) (xs':=dX (ws++[(at',eV bs)])) (ab rfl) rfl rfl rfl jv m7 rfl rfl rfl rfl rfl rfl (λ_ _=>gl (cB (dQ (by omega))) (RO 0) (by rw[bb,aC (aK _)])) (jk _) (by simp only[maxLen];omega) (by omega) (by simp) (by simp[dX]) (λv61 ov61=>EN (PD 8 ?_));refine FD 9 1 ir ic ?_;refine AL 10 ?_;refine bH (i:=2) (ab rfl) rfl rfl rfl rfl ov61 ic rfl rfl (lb rfl) rfl rfl (EN (DN (ad J39 (sr λ_ J40=>PS ?_))));refine nx J40 (ah (WK [2,2] (aw rfl rfl ?_)));show(if _ then _ else _)
 first
  | (rw[if_pos (by omega)];exact⟨rfl,rfl⟩)
  | (rw[if_neg (by omega),if_pos (by simp_all)];exact⟨rfl,by simp_all<;>rfl⟩)
  | (rw[if_neg (by omega),if_neg (by simp_all)];exact⟨rfl,v61,by simp_all<;>rfl⟩)
 refine aF rfl ?_ ?_;refine aM (cells:=(dp (at',eV bs)).toArray) (ab rfl) rfl rfl rfl jv m7 rfl rfl rfl (kd (cB (dQ (by omega))) (by simp)) (λb60=>?_);change TL _ _ _ _ _ _ _ _ _ [aj b60 (dp (at',eV bs)) 147,aj b7 (dp (at',eV bs)) 147,aj d [(.map (some m)),wv,(.bool (ar)),(.int .i64 (lf)),(.bool (dn))] 111,own wv (ws.length) (dX ws) 147 65];refine EN (AL 4 ?_);refine LA 2 jv ?_;refine EN (AL 7 ?_);refine bX (k:=3) (news:=dp (at',eV bs)) (nn':=(ws++[(at',eV bs)]).length) (xs':=dX (ws++[(at',eV bs)])) (ab rfl) rfl rfl rfl jv m7 rfl rfl rfl rfl rfl rfl (λ_ _=>gl (cB (dQ (by omega))) (RO 0) (by rw[bb,aC (aK _)])) (jk _) (by simp only[maxLen];omega) (by omega) (by simp) (by simp[dX]) (λv61 ov61=>EN (PD 8 ?_));refine FD 9 1 ir ic ?_;refine AL 10 ?_;refine bH (i:=2) (ab rfl) rfl rfl rfl rfl ov61 ic rfl rfl (lb rfl) rfl rfl (EN (DN (ad J39 (sr λ_ J41=>PS ?_))));refine nx J41 (ah (WK [2,2] (aw rfl rfl ?_)));show(if _ then _ else _)
 first
  | (rw[if_pos (by omega)];exact⟨rfl,rfl⟩)
  | (rw[if_neg (by omega),if_pos (by simp_all)];exact⟨rfl,by simp_all<;>rfl⟩)
  | (rw[if_neg (by omega),if_neg (by simp_all)];exact⟨rfl,v61,by simp_all<;>rfl⟩)
 exact bP
theorem ve(d m:Nat)(wv:Value)(ar:Bool)(lf:Int):
 DT 87 #[(.pointer (some ⟨d,0,none⟩))] T0 [aj d [(.map (some m)),wv,(.bool (ar)),(.int .i64 (lf)),(.bool true)] 111] (RI (.int .i64 4) [aj d [(.map (some m)),wv,(.bool (ar)),(.int .i64 (lf)),(.bool true)] 111]):=by
 refine BD 28 Tryz.func87 rfl rfl rfl λw0 F hF=>sr λ_ J1=>PS ?_
 refine nx J1 (aa λ_ J2=>sr λ_ J3=>P2 ?_);refine FA 4 ir lR ?_;refine LA 0 Y4 ?_;refine nx J3 (CY (sr λ_ J4=>PS ?_));exact nx J4 (ah (ae (WK [0] (aw rfl rfl ⟨rfl,rfl⟩))))
theorem yj(d m:Nat)(wv:Value)(s ws:gi)(ar:Bool)(lf:Int)(hw:Whole ws):
 DT 87 #[(.pointer (some ⟨d,0,none⟩))] T0 [aj d [(.map (some m)),wv,(.bool (ar)),(.int .i64 (lf)),(.bool false)] 111,lL m (uq s),own wv (ws.length) (dX ws) 147 65] (RI (.int .i64 0) [aj d [(.map (some m)),(.slice none 0 0),(.bool (ar)),(.int .i64 (lf)),(.bool false)] 111,lL m (uq (DO s ws ws.length)),own (.slice none 0 0) 0 [] 147 65]):=by
 refine BD 28 Tryz.func87 rfl rfl rfl λw0 F hF=>sr λ_ J1=>jb 2 rfl rfl (λhwl _=>PS ?_)
 refine nx J1 (aa λ_ J2=>sr λ_ J3=>P2 ?_);refine FA 4 ir lR ?_;refine LA 0 Y4 ?_;refine nx J3 (CN (qx J2 (aa λ_ J4=>sr λ_ J5=>P2 ?_)));refine FA 1 ir ic ?_;refine LA 0 jv ?_;refine tp (dL rfl jv rfl hwl) ?_;refine PS ?_;refine nx J5 (am ?_)
 refine bG (α:=(Nat)×(gi)) (λ⟨k,s'⟩=>k≤ws.length∧s'=DO s ws k) (λ⟨k,s'⟩=>[(0,(.pointer (some ⟨d,0,none⟩))),(2,(.int .i64 0)),(12,wv),(13,(.int .i64 (((ws.length:Nat):Int)))),(14,(.int .i64 (((k:Nat):Int))))]) (λ⟨k,s'⟩=>[aj d [(.map (some m)),wv,(.bool (ar)),(.int .i64 (lf)),(.bool false)] 111,lL m (uq s'),own wv (ws.length) (dX ws) 147 65]) (λ⟨k,s'⟩=>ws.length-k) (0,s)
  ⟨aO _,rfl⟩ SB
  (λ_ s=>s) (λ⟨k,s'⟩ hinv=>?_)
 obtain⟨hk,hs'⟩:=hinv;refine sr λ_ J6=>PS ?_
 refine ap ?_ ?_<;>intro h15;refine jW 2 rfl rfl (by omega) (λg cap hv hcap=>nx J6 (aa λ_ J7=>CY (qx J7 (aa λ_ J8=>am (sr λ_ J9=>tp (bn (r:=k*65) hv rfl jv m5 rfl rfl (by omega) (by omega) (by omega)) ?_)))));refine tp (MP (vs:=dp (lm ws k)) rfl pP rfl m5 rfl (gK 2 rfl hv rfl) (cB (ee hw (by omega))) (rh hw (by omega))) ?_;refine XA He λb4=>?_
 refine bW (vs:=dp (lm ws k)) (i:=0) (ab rfl) rfl rfl rfl rfl rfl (by rw[cB (ee hw (by omega))];exact m5) (jk _) rfl rfl (by rw[cB (ee hw (by omega))];exact aK _) (jA (Eq.trans (rfl:_=65) (by rw[cB (ee hw (by omega))]:(dp (lm ws k)).length=65).symm)) rfl (nx J9 (ac (PS ?_)));refine FA 0 pP aP ?_;refine LA 0 Y3 ?_;refine FA 1 pP lU ?_;refine tp (aN (vs:=dU (lm ws k).2) rfl sI rfl lU rfl (RO 0) (by rw[bo];exact ee hw (by omega)) (wQ (ee hw (by omega)))) ?_;refine CR NN (pK d m wv s' ar false lf ((lm ws k).1) (lm ws k).2 (by exact ee hw (by omega))) (SM [1,1]) λvR HR hR=>?_
 subst hR;refine au (af (ad J8 (ac (AD ?_))));refine PS ?_;refine au ?_
 exact aL ((k+1,oT s' (lm ws k).1 (lm ws k).2):(Nat)×(gi)) ⟨by omega,by rw[hs'];rfl⟩ (by show ws.length- (k+1)<ws.length-k;omega)
  SB
  (λ_ s=>ak [0,0,1] rfl s)
 refine nx J6 (aa λ_ J10=>CN (aW (aA (aA (br (ad J4 (sr λ_ J11=>P2 ?_)))))));refine FA 1 ir ic ?_;refine S0 0 ic ?_;refine nx J11 (sr λ_ J12=>PS ?_);refine nx J12 (ah (aE (H':=[aj d [(.map (some m)),(.slice none 0 0),(.bool (ar)),(.int .i64 (lf)),(.bool false)] 111,lL m (uq s'),own (.slice none 0 0) 0 [] 147 65]) (dK _) (λ_ s=>eI (List.Perm.trans (List.Perm.swap _ _ _) (List.Perm.cons _ (List.Perm.swap _ _ _))) (fY 147 65 (ak [0,0] rfl s))) (aw rfl rfl ?_)));obtain rfl:k=ws.length:=by omega
 subst hs';exact⟨rfl,rfl⟩
theorem BF(d m:Nat)(wv:Value)(s ws:gi)(ar dn:Bool)(lf at':Int)(hs2:Whole s)(hw:Whole ws)(hb:ws.length≤1000000000):
 DT 85 #[(.pointer (some ⟨d,0,none⟩)),(.int .i64 (at'))] T0 [aj d [(.map (some m)),wv,(.bool (ar)),(.int .i64 (lf)),(.bool (dn))] 111,lL m (uq s),own wv (ws.length) (dX ws) 147 65] (RI (HI (jg s ws at' ws.length)) [aj d [(.map (some m)),wv,(.bool (ar)),(.int .i64 (lf)),(.bool (dn))] 111,lL m (uq s),own wv (ws.length) (dX ws) 147 65]):=by
 refine BD 40 Tryz.func85 rfl rfl rfl λw0 F hF=>sr λ_ J1=>jb 2 rfl rfl (λhwl _=>XA Lt λb4=>?_)
 refine nx J1 (aa λ_ J2=>sr λ_ J3=>P2 ?_);refine FA 1 ir ic ?_;refine LA 1 jv ?_;refine tp (dL rfl jv rfl hwl) ?_;refine tp (jj rfl rfl rfl (bK (by omega) (by omega))) ?_;refine PS ?_;refine nx J3 (am ?_)
 refine bG (α:=(Int)) (λp=> -1≤p∧p<ws.length∧jg s ws at' (p+1).toNat=jg s ws at' ws.length) (λp=>[(0,(.pointer (some ⟨d,0,none⟩))),(1,(.int .i64 (at'))),(4,(.pointer (some ⟨b4,0,none⟩))),(5,(.int .i64 (p)))]) (λp=>[aj b4 [(.int .u8 0),(.int .u8 0),(.int .u8 0),(.int .u8 0),(.int .u8 0),(.int .u8 0),(.int .u8 0),(.int .u8 0),(.int .u8 0),(.int .u8 0),(.int .u8 0),(.int .u8 0),(.int .u8 0),(.int .u8 0),(.int .u8 0),(.int .u8 0),(.int .u8 0),(.int .u8 0),(.int .u8 0),(.int .u8 0),(.int .u8 0),(.int .u8 0),(.int .u8 0),(.int .u8 0),(.int .u8 0),(.int .u8 0),(.int .u8 0),(.int .u8 0),(.int .u8 0),(.int .u8 0),(.int .u8 0),(.int .u8 0),(.int .u8 0),(.int .u8 0),(.int .u8 0),(.int .u8 0),(.int .u8 0),(.int .u8 0),(.int .u8 0),(.int .u8 0),(.int .u8 0),(.int .u8 0),(.int .u8 0),(.int .u8 0),(.int .u8 0),(.int .u8 0),(.int .u8 0),(.int .u8 0),(.int .u8 0),(.int .u8 0),(.int .u8 0),(.int .u8 0),(.int .u8 0),(.int .u8 0),(.int .u8 0),(.int .u8 0),(.int .u8 0),(.int .u8 0),(.int .u8 0),(.int .u8 0),(.int .u8 0),(.int .u8 0),(.int .u8 0),(.int .u8 0)] 145,aj d [(.map (some m)),wv,(.bool (ar)),(.int .i64 (lf)),(.bool (dn))] 111,lL m (uq s),own wv (ws.length) (dX ws) 147 65]) (λp=>(p+1).toNat) (((ws.length:Nat):Int)-1)
  ⟨by omega,by omega,by congr 1;omega⟩ SB
  (λ_ s=>s) (λp hinv=>?_)
 obtain⟨hp1,hp2,hp3⟩:=hinv;refine aa λ_ J4=>sr λ_ J5=>P2 ?_
 refine ap ?_ ?_<;>intro h13;refine jW 3 rfl rfl (by omega) (λg cap hv hcap=>nx J5 (CY (qx J4 (aa λ_ J6=>am (sr λ_ J7=>P2 ?_)))));refine FA 1 ir ic ?_;refine LA 1 jv ?_;refine PS ?_;refine tp (bn (r:=p.toNat*65) hv rfl jv m5 rfl rfl (by omega) (by omega) (by omega)) ?_;refine tp (bc (r:=p.toNat*65) rfl pP rfl aP rfl rfl) ?_;refine tp (cj (v:=(.int .i64 ((lm ws p.toNat).1))) rfl Y3 rfl rfl (gK 3 rfl hv rfl) (Hk hw (by omega))) ?_;refine P2 ?_;refine ap ?_ ?_<;>intro h25;refine nx J7 (CY (sr λ_ J8=>P2 ?_));refine FA 1 ir ic ?_;refine LA 1 jv ?_;refine PS ?_;refine tp (bn (r:=p.toNat*65) hv rfl jv m5 rfl rfl (by omega) (by omega) (by omega)) ?_;refine tp (bc (r:=p.toNat*65+1) rfl pP rfl lU rfl rfl) ?_;refine tp (MP (vs:=dU (lm ws p.toNat).2) rfl sI rfl lU rfl (gK 3 rfl hv rfl) (by rw[bo];exact ee hw (by omega)) (Hj hw (by omega))) ?_;refine bW (vs:=dU (lm ws p.toNat).2) (i:=0) (ab rfl) rfl rfl rfl rfl rfl (by rw[bo,ee hw (by omega)];exact lU) (e9 _) rfl rfl (by rw[bo,ee hw (by omega)];exact aK _) (jA (Eq.trans (rfl:_=64) (by rw[bo,ee hw (by omega)]:(dU (lm ws p.toNat).2).length=64).symm)) rfl (nx J8 (ah (aI (ae (ae (aI (ae (RE (H':=[aj d [(.map (some m)),wv,(.bool (ar)),(.int .i64 (lf)),(.bool (dn))] 111,lL m (uq s),own wv (ws.length) (dX ws) 147 65]) rfl rfl sI rfl lU (RO 0) (by rw[bo];exact ee hw (by omega)) (λ_ s=>ak [1,1,1] rfl s) ?_))))))));have e:=HW (s:=s) h25
 rw[show p.toNat+1=(p+1).toNat by omega,hp3]at e;exact⟨by rw[e];rfl,rfl⟩;refine nx J7 (CN (aR (af (ad J6 (ac (PS ?_))))));refine tp (jj rfl rfl rfl (bK (by omega) (by omega))) ?_;refine PS ?_;refine au ?_
 exact aL ((p-1):(Int)) ⟨by omega,by omega,by rw[←hp3,show(p+1).toNat=p.toNat+1 by omega,Fh h25];congr 1;omega⟩ (by show(p-1+1).toNat< (p+1).toNat;omega)
  SB
  (λ_ s=>s)
 refine nx J5 (CN (aW (aA (aA (br (ad J2 (sr λ_ J9=>P2 ?_)))))));refine FA 0 ir Gr ?_;refine LA 1 Ex ?_;refine PS ?_;refine tp (PV.lookup rfl Ex Y3 Lt rfl rfl (RdM.own 2 rfl rfl) (DQ _ _)) ?_;refine bW (vs:=dU (kX s at')) (i:=0) (ab rfl) rfl rfl rfl rfl rfl (by rw[bo,fE hs2];exact lU) (e9 _) rfl rfl (by rw[bo,fE hs2];exact aK _) (jA (Eq.trans (rfl:_=64) (by rw[bo,fE hs2]:(dU (kX s at')).length=64).symm)) rfl (nx J9 (ah (RE (H':=[aj d [(.map (some m)),wv,(.bool (ar)),(.int .i64 (lf)),(.bool (dn))] 111,lL m (uq s),own wv (ws.length) (dX ws) 147 65]) rfl rfl sI rfl lU (RO 0) (by rw[bo];exact fE hs2 _) (λ_ s=>ak [1,1,1] rfl s) ?_)));rw[show(p+1).toNat=0 by omega]at hp3;exact⟨by rw[←hp3];rfl,rfl⟩
theorem y6(d m:Nat)(wv:Value)(s ws:gi)(ar dn:Bool)(lf mask torn n:Int)(hs1:Whole s)(hw:Whole ws):
 DT 28 #[(.pointer (some ⟨d,0,none⟩)),(.int .i64 (mask)),(.int .i64 (torn)),(.int .i64 (n))] T0 [aj d [(.map (some m)),wv,(.bool (ar)),(.int .i64 (lf)),(.bool (dn))] 111,lL m (uq s),own wv (ws.length) (dX ws) 147 65] (dD (λ_ H=>H=[aj d [(.map (some m)),(.slice none 0 0),(.bool false),(.int .i64 0),(.bool false)] 111,lL m (uq (nW mask torn (qQ n) s ws ws.length)),own (.slice none 0 0) 0 [] 147 65])):=by
 refine BD 70 Tryz.func28 rfl rfl rfl λw0 F hF=>sr λ_ J1=>jb 2 rfl rfl (λhwl _=>PS ?_)
 refine tp (zk rfl rfl rfl) ?_;refine tp (nZ (v':=(.int .i64 (((qQ n:Nat):Int)))) (PV.minI rfl rfl rfl) (congrArg (Value.int .i64) (My n))) ?_;refine PS ?_;refine nx J1 (aa λ_ J2=>sr λ_ J3=>P2 ?_);refine FA 1 ir ic ?_;refine LA 0 jv ?_;refine tp (dL rfl jv rfl hwl) ?_;refine PS ?_;refine nx J3 (am ?_)
 refine bG (α:=(Nat)×(gi)) (λ⟨k,s'⟩=>k≤ws.length∧s'=nW mask torn (qQ n) s ws k) (λ⟨k,s'⟩=>[(0,(.pointer (some ⟨d,0,none⟩))),(1,(.int .i64 (mask))),(2,(.int .i64 (torn))),(3,(.int .i64 (((qQ n:Nat):Int)))),(17,wv),(18,(.int .i64 (((ws.length:Nat):Int)))),(19,(.int .i64 (((k:Nat):Int))))]) (λ⟨k,s'⟩=>[aj d [(.map (some m)),wv,(.bool (ar)),(.int .i64 (lf)),(.bool (dn))] 111,lL m (uq s'),own wv (ws.length) (dX ws) 147 65]) (λ⟨k,s'⟩=>ws.length-k) (0,s)
  ⟨aO _,rfl⟩ SB
  (λ_ s=>s) (λ⟨k,s'⟩ hinv=>?_)
 obtain⟨hk,hs'⟩:=hinv;have hs2:Whole s':=by rw[hs'];exact hs1.crash hw k hk
 have hcn:=ua n;refine sr λ_ J4=>PS ?_
 refine ap ?_ ?_<;>intro h20;refine jW 2 rfl rfl (by omega) (λg cap hv hcap=>nx J4 (aa λ_ J5=>CY (qx J5 (aa λ_ J6=>am (sr λ_ J7=>PS ?_)))));refine tp (bn (r:=k*65) hv rfl jv m5 rfl rfl (by omega) (by omega) (by omega)) ?_;refine tp (MP (vs:=dp (lm ws k)) rfl pP rfl m5 rfl (gK 2 rfl hv rfl) (cB (ee hw (by omega))) (rh hw (by omega))) ?_;refine XA He λb9=>?_
 refine PS ?_;refine bW (vs:=dp (lm ws k)) (i:=0) (ab rfl) rfl rfl rfl rfl rfl (by rw[cB (ee hw (by omega))];exact m5) (jk _) rfl rfl (by rw[cB (ee hw (by omega))];exact aK _) (jA (Eq.trans (rfl:_=65) (by rw[cB (ee hw (by omega))]:(dp (lm ws k)).length=65).symm)) rfl (nx J7 (sr λ_ J8=>P3 ?_));refine ap ?_ ?_<;>intro h26;refine nx J8 (CY (aa λ_ J9=>sK (λw=>Frm F w∧w.heap[d]?=some (.cells ([(.map (some m)),wv,(.bool (ar)),(.int .i64 (lf)),(.bool (dn))]).toArray 111 (0,0))∧Hm m (uq s') w∧w.heap[b9]?=some (.cells (dp (lm ws k)).toArray 147 (0,0))∧True) de rfl (λ_ s=>⟨fB s,s.block 1 (lb rfl) rfl,s.map 2 rfl rfl,s.block 0 (lb rfl) rfl,trivial⟩) (PD 0 ?_)));refine PD 1 ?_;refine FD 2 0 ir Gr ?_;refine LX 3 Ex (.map (some m)) ?_ (hc:=by exact rfl);refine FD 4 0 pP aP ?_;refine LX 5 Y3 (.int .i64 ((lm ws k).1)) ?_ (hc:=by exact rfl);refine ta 6 rfl (PV.lookup rfl Ex Y3 Lt rfl rfl (λ_ h=>h.2.2.1) (DQ _ _)) ?_;refine AL 7 ?_;refine XA Lt λb10=>?_
 refine au (wh (λ_ s=>⟨fB s,s.block 2 (lb rfl) rfl,s.map 3 rfl rfl,s.block 1 (lb rfl) rfl,trivial⟩) (AL 8 ?_));refine bW (vs:=dU (kX s' ((lm ws k).1))) (i:=0) (ab rfl) rfl rfl rfl rfl rfl (by rw[bo,fE hs2];exact lU) (e9 _) rfl rfl (by rw[bo,fE hs2];exact aK _) (jA (Eq.trans (rfl:_=64) (by rw[bo,fE hs2]:(dU (kX s' ((lm ws k).1))).length=64).symm)) rfl (au (wh (λ_ s=>⟨fB s,s.block 2 (lb rfl) rfl,s.map 3 rfl rfl,s.block 1 (lb rfl) rfl,trivial⟩) (DN (ad J9 (aa λ_ J10=>D1 1 de ?_)))));refine PD 0 ?_;refine ta 1 rfl (Rm (k:=qQ n) rfl sI kx rfl rfl (by omega) (by omega) rfl) ?_;refine FD 2 1 pP lU ?_;refine PD 3 ?_;refine ta 4 rfl (Rm (k:=qQ n) rfl sI kx rfl rfl (by omega) (by omega) rfl) ?_;refine AL 5 ?_;refine Oo (i:=0) (m:=qQ n) (news:=((dU (lm ws k).2).take (qQ n))) (H':=[aj b10 (dU (tf (kX s' ((lm ws k).1)) (lm ws k).2 (qQ n))) 145,aj b9 (dp (lm ws k)) 147,aj d [(.map (some m)),wv,(.bool (ar)),(.int .i64 (lf)),(.bool (dn))] 111,lL m (uq s'),own wv (ws.length) (dX ws) 147 65]) (ab rfl) rfl rfl rfl fM kx rfl rfl rfl rfl (λ_ _=>gl (by rw[bA,bo,ee hw (by omega)];have:=ua n;omega) (RO 1) (by rw[bA,bo,ee hw (by omega)];exact Cd (ee hw (by omega)) (ua n))) (λu hu=>e9 _ u (rc hu)) (by rw[bo,fE hs2];have:=ua n;omega) (Hs (ua n) (fE hs2 _) (ee hw (by omega)) (by omega)) rfl (EN (DN (ad J10 (ac (PS ?_)))));refine FA 0 pP aP ?_;refine LA 1 Y3 ?_
 refine tp (aN (vs:=dU (tf (kX s' ((lm ws k).1)) (lm ws k).2 (qQ n))) rfl sI rfl lU rfl (RO 0) (by rw[bo];exact rj (fE hs2 _) (ee hw (by omega))) (w3 (by rw[bo];exact rj (fE hs2 _) (ee hw (by omega))))) ?_;refine CR NN (pK d m wv s' ar (dn) lf ((lm ws k).1) (tf (kX s' ((lm ws k).1)) (lm ws k).2 (qQ n)) (by exact rj (fE hs2 _) (ee hw (by omega)))) (SM [2,2]) λvR HR hR=>?_
 subst hR;refine au (af (ad J6 (ac (AD ?_))));refine PS ?_;refine au ?_
 exact aL ((k+1,oT s' (lm ws k).1 (tf (kX s' (lm ws k).1) (lm ws k).2 (qQ n))):(Nat)×(gi)) ⟨by omega,by rw[hs',nW,ny,if_pos h26]⟩ (by show ws.length- (k+1)<ws.length-k;omega)
  SB
  (λ_ s=>ak [0,0,2] rfl s)
 refine nx J8 (CN (sr λ_ J11=>P2 ?_));refine tp (PV.rem (r:=((k%32:Nat):Int)) rfl rfl rfl (by omega) (by rw[show(32:Int)=((32:Nat):Int)from rfl,←Int.ofNat_tmod])) ?_;refine tp (iA (r:=mask.fdiv (2^ (k%32))) rfl rfl rfl (by omega) (by congr 2;show min ((k%32:Nat):Int).toNat 64=k%32;omega)) ?_;refine tp (jw (r:=mask.fdiv (2^ (k%32))%2) rfl rfl rfl (Rc _)) ?_;refine PS ?_;refine ap ?_ ?_<;>intro h50;refine nx J11 (CY (ac (PS ?_)));refine FA 0 pP aP ?_;refine LA 0 Y3 ?_;refine FA 1 pP lU ?_;refine tp (aN (vs:=dU (lm ws k).2) rfl sI rfl lU rfl (RO 0) (by rw[bo];exact ee hw (by omega)) (wQ (ee hw (by omega)))) ?_;refine CR NN (pK d m wv s' ar (dn) lf ((lm ws k).1) (lm ws k).2 (by exact ee hw (by omega))) (SM [1,1]) λvR HR hR=>?_
 subst hR;refine au (af (ad J6 (ac (AD ?_))));refine PS ?_;refine au ?_
 exact aL ((k+1,oT s' (lm ws k).1 (lm ws k).2):(Nat)×(gi)) ⟨by omega,by rw[hs',nW,ny,if_neg h26,if_pos h50]⟩ (by show ws.length- (k+1)<ws.length-k;omega)
  SB
  (λ_ s=>ak [0,0,1] rfl s)
 refine nx J11 (CN (aR (af (ad J6 (ac (AD ?_))))));refine PS ?_;refine au ?_
 exact aL ((k+1,s'):(Nat)×(gi)) ⟨by omega,by rw[nW,ny,if_neg h26,if_neg h50];exact hs'⟩ (by show ws.length- (k+1)<ws.length-k;omega)
  SB
  (λ_ s=>ak [1,1,1] rfl s)
 refine nx J4 (aa λ_ J12=>CN (aW (aA (aA (br (ad J2 (ac ?_)))))))
 iterate 5 refine PS ?_
 refine FA 1 ir ic ?_;refine S0 0 ic ?_;refine PS ?_;refine FA 2 ir lR ?_;refine S0 0 lR ?_;refine PS ?_;refine FA 3 ir aP ?_;refine S0 0 aP ?_;refine PS ?_;refine FA 4 ir lR ?_;refine S0 0 lR ?_;refine au (aE (H':=[aj d [(.map (some m)),(.slice none 0 0),(.bool false),(.int .i64 0),(.bool false)] 111,lL m (uq s'),own (.slice none 0 0) 0 [] 147 65]) (dK _) (λ_ s=>eI (List.Perm.trans (List.Perm.swap _ _ _) (List.Perm.cons _ (List.Perm.swap _ _ _))) (fY 147 65 (ak [0,0] rfl s))) (bB rfl ?_));obtain rfl:k=ws.length:=by omega
 subst hs';exact rfl
theorem OF:Tryz.prog.eqGuardType Tryz.prog.depth 145=false:=by kernel_rfl
theorem OD:Tryz.prog.keyTypeAt 2 145=true:=by kernel_rfl
theorem OG:qM Tryz.prog 2 145=some (List.replicate 64 (some .u8)):=by kernel_rfl
theorem OI:IZ Tryz.prog 145=true:=by kernel_rfl
theorem OH:Tryz.prog.cellsOf 145=64:=by kernel_rfl
abbrev dk(d:Nat)(D:DS):HP:=PN 111 147 d D
theorem G2(d:Nat)(D:DS):DT 48 #[(.pointer (some ⟨d,0,none⟩))] T0 [dk d D] (RI (.bool D.dn) [dk d (D)]):=Leg.Does.pack (B:=[]) λ⟨m,wv⟩=>
 Leg.Does.withinR (BG d m wv D.ar D.dn D.lf) (B:=[lL m (uq D.s),own wv D.ws.length (dX D.ws) 147 65]) (λ_ _ _ _=>trivial) (λ_ s=>s) (λv H h=>by
  obtain⟨rfl,rfl⟩:=h
  exact⟨_,λ_ s=>bw (H:=[]) (m,wv) (s),rfl,rfl⟩)
theorem N8(d:Nat)(D:DS)(n:Int):DT 27 #[(.pointer (some ⟨d,0,none⟩)), .int .i64 n] T0 [dk d D] (dD (λv H=>True∧H=[dk d (D.arm n)])):=Leg.Does.pack (B:=[]) λ⟨m,wv⟩=>
 Leg.Does.withinR (Ea d m wv D.ar D.dn D.lf n) (B:=[lL m (uq D.s),own wv D.ws.length (dX D.ws) 147 65]) (λ_ _ _ _=>trivial) (λ_ s=>s) (λv H h=>by
  subst h
  exact⟨_,λ_ s=>bw (H:=[]) (m,wv) s,trivial,rfl⟩)
theorem BH(d:Nat)(D:DS)(at':Int)(hD:D.Ok)(hb:D.ws.length≤1000000000):DT 85 #[(.pointer (some ⟨d,0,none⟩)), .int .i64 at'] T0 [dk d D] (RI (HI (D.read at')) [dk d (D)]):=Leg.Does.pack (B:=[]) λ⟨m,wv⟩=>
 Leg.Does.withinR (BF d m wv D.s D.ws D.ar D.dn D.lf at' hD.s hD.ws hb) (B:=[]) (λ_ _ _ _=>trivial) (λ_ s=>s) (λv H h=>by
  obtain⟨rfl,rfl⟩:=h
  exact⟨_,λ_ s=>bw (H:=[]) (m,wv) (s),rfl,rfl⟩)
theorem Ef(d:Nat)(D:DS)(mask torn n:Int)(hD:D.Ok):DT 28 #[(.pointer (some ⟨d,0,none⟩)), .int .i64 mask, .int .i64 torn, .int .i64 n] T0 [dk d D] (dD (λv H=>True∧H=[dk d (D.crash mask torn n)])):=Leg.Does.pack (B:=[]) λ⟨m,wv⟩=>
 Leg.Does.withinR (y6 d m wv D.s D.ws D.ar D.dn D.lf mask torn n hD.s hD.ws) (B:=[]) (λ_ _ _ _=>trivial) (λ_ s=>s) (λv H h=>by
  subst h
  exact⟨_,λ_ s=>bw (H:=[]) (m,(.slice none 0 0:Value)) s,trivial,rfl⟩)
theorem Ee(d:Nat)(D:DS)(at':Int)(x:Value)(bs:List UInt8)(hD:D.Ok)(hb:D.ws.length≤1000000000):DT 86 #[(.pointer (some ⟨d,0,none⟩)), .int .i64 at',x] (IsW x bs) [dk d D] (RI (.int .i64 (D.write at' bs).1) [dk d ((D.write at' bs).2)]):=Leg.Does.pack (B:=[]) λ⟨m,wv⟩=>
 Leg.Does.withinR (y5 d m wv D.ws D.ar D.dn D.lf at' x bs hD.lf hb) (B:=[lL m (uq D.s)]) (λ_ _ h d=>h.more d) (λ_ s=>aD [0,1] rfl s) (λv H h=>by
  unfold DS.write;replace h:(if at'<0∨2048≤at'∨64<bs.length then _ else _):=h;split at h<;>rename_i h1
  · rw[if_pos h1]
    obtain⟨rfl,rfl⟩:=h;exact⟨_,λ_ s=>bw (H:=[]) (m,wv) (aD [0,1] rfl s),rfl,rfl⟩
  · rw[if_neg h1]
    split at h<;>rename_i h2
    · rw[if_pos h2]
      obtain⟨rfl,rfl⟩:=h;exact⟨_,λ_ s=>bw (H:=[]) (m,wv) (aD [0,1] rfl s),rfl,rfl⟩
    · rw[if_neg h2]
      obtain⟨rfl,wv',rfl⟩:=h
      exact⟨_,λ_ s=>bw (H:=[]) (m,wv') (aD [0,1] rfl s),rfl,rfl⟩)
theorem G1(d:Nat)(D:DS)(hD:D.Ok):DT 87 #[(.pointer (some ⟨d,0,none⟩))] T0 [dk d D] (RI (.int .i64 D.sync.1) [dk d D.sync.2]):=by
 obtain⟨s,ws,ar,lf,dn⟩:=D;cases dn
 · exact Leg.Does.pack (B:=[]) λ⟨m,wv⟩=>Leg.Does.withinR (yj d m wv s ws ar lf hD.ws) (B:=[]) (λ_ _ _ _=>trivial) (λ_ s=>s) (λv H h=>by
    obtain⟨rfl,rfl⟩:=h
    exact⟨_,λ_ s=>bw (H:=[]) (m,(.slice none 0 0:Value)) s,rfl,rfl⟩)
 · exact Leg.Does.pack (B:=[]) λ⟨m,wv⟩=>Leg.Does.withinR (ve d m wv ar lf) (B:=[lL m (uq s),own wv ws.length (dX ws) 147 65]) (λ_ _ _ _=>trivial) (λ_ s=>s) (λv H h=>by
    obtain⟨rfl,rfl⟩:=h
    exact⟨_,λ_ s=>bw (H:=[]) (m,wv) s,rfl,rfl⟩)
theorem N7:DT 20 #[] T0 [] (dD (λv H=>∃d,v= .pointer (some ⟨d,0,none⟩)∧H=[dk d DS.new])):=
 Leg.Does.withinR D9 (B:=[]) (λ_ _ _ _=>trivial) (λ_ s=>s) (λv H h=>by
  obtain⟨d,m,rfl,rfl⟩:=h
  exact⟨_,λ_ s=>bw (H:=[]) (m,(.slice none 0 0:Value)) (eI (List.Perm.trans (List.Perm.swap _ _ _) (List.Perm.cons _ (List.Perm.swap _ _ _))) (fY 147 65 s)),d,rfl,rfl⟩)
end Go.Proofs.YtkhjnolhhidecaaGreatDoor
end

section
namespace Wal
open Go Leg Codec Api Dsk
theorem uP{x y:Int}(k:Nat)(hx:0≤x)(hx2:x<2^k)(hy:0≤y)(h:x+y*2^k<4294967296):iN .u32 x (y*2^k)=x+y*2^k:=by
 obtain⟨a,rfl⟩:=Int.eq_ofNat_of_zero_le hx;obtain⟨b,rfl⟩:=Int.eq_ofNat_of_zero_le hy;have e2:((b:Nat):Int)*2^k=((b*2^k:Nat):Int):=by simp
 rw[e2]at h ⊢
 have ha:a<2^k:=by
  have:(((2:Nat)^k:Nat):Int)=(2:Int)^k:=by simp
  omega
 have hs:a+b*2^k<4294967296:=by omega
 have h1:(BitVec.ofInt 32 (a:Int)).toNat=a:=by rw[BitVec.toNat_ofInt];omega
 have h2:(BitVec.ofInt 32 ((b*2^k:Nat):Int)).toNat=b*2^k:=by
  rw[BitVec.toNat_ofInt];generalize b*2^k=q at*;omega
 have h3:a|||b*2^k=a+b*2^k:=by
  rw[Nat.or_comm,←Nat.shiftLeft_eq,←Nat.shiftLeft_add_eq_or_of_lt ha,mZ]
 show IntKind.u32.wrap (((BitVec.ofInt 32 (a:Int))||| (BitVec.ofInt 32 ((b*2^k:Nat):Int))).toNat:Nat)=_;rw[BitVec.toNat_or,h1,h2,h3];generalize b*2^k=q at*;rw[lu (by omega) (by omega)];omega
theorem Ie{x y:Int}(k:Nat)(hx:0≤x)(hx2:x<2^k)(hy:0≤y)(h:x+y*2^k<9223372036854775808):iN .i64 (y*2^k) x=x+y*2^k:=by
 obtain⟨a,rfl⟩:=Int.eq_ofNat_of_zero_le hx;obtain⟨b,rfl⟩:=Int.eq_ofNat_of_zero_le hy;have e2:((b:Nat):Int)*2^k=((b*2^k:Nat):Int):=by simp
 rw[e2]at h ⊢
 have ha:a<2^k:=by
  have:(((2:Nat)^k:Nat):Int)=(2:Int)^k:=by simp
  omega
 have h1:(BitVec.ofInt 64 (a:Int)).toNat=a:=by rw[BitVec.toNat_ofInt];omega
 have h2:(BitVec.ofInt 64 ((b*2^k:Nat):Int)).toNat=b*2^k:=by
  rw[BitVec.toNat_ofInt];generalize b*2^k=q at*;omega
 have h3:b*2^k|||a=a+b*2^k:=by
  rw[←Nat.shiftLeft_eq,←Nat.shiftLeft_add_eq_or_of_lt ha,mZ]
 show IntKind.i64.wrap (((BitVec.ofInt 64 ((b*2^k:Nat):Int))||| (BitVec.ofInt 64 (a:Int))).toNat:Nat)=_;rw[BitVec.toNat_or,h1,h2,h3];generalize b*2^k=q at*;rw[bK (by omega) (by omega)];omega
theorem Hp(x:Int):0≤IntKind.u32.wrap x∧IntKind.u32.wrap x<4294967296:=by
 simp only[IntKind.wrap,IntKind.signed,IntKind.bits];simp;omega
theorem B3(a b:Int):0≤qj .u32 a b∧qj .u32 a b<4294967296:=Hp _
def r8(x:Int):UInt8:=UInt8.ofNat (x%256).toNat
theorem mU(x:Int):(((r8 x).toNat:Nat):Int)=x%256:=by
 have:(x%256).toNat<256:=by omega
 simp only[r8,UInt8.toNat_ofNat'];omega
theorem r8_wrap(x:Int):IntKind.u8.wrap x=(((r8 x).toNat:Nat):Int):=by
 rw[mU];simp only[IntKind.wrap,IntKind.signed,IntKind.bits];simp
def F8(r:Int):Int:=if rD .u32 r 1=1 then qj .u32 (r.fdiv 2) 3988292384 else r.fdiv 2
def np(r:Int):Nat→Int
 |0=>r
 |k+1=>F8 (np r k)
def G5(r:Int)(c:UInt8):Int:=np (qj .u32 r ((c.toNat:Nat):Int)) 8
def fS(r:Int)(bs:List UInt8):Int:=bs.foldl G5 r
def gI(bs:List UInt8):Int:=qj .u32 4294967295 (fS 4294967295 bs)
theorem Eh{r:Int}{bs:List UInt8}{k:Nat}(h:k<bs.length):fS r (bs.take (k+1))=G5 (fS r (bs.take k)) (bs.getD k 0):=by
 rw[fS,fS,bZ h,fi,List.getD_eq_getElem?_getD,List.getElem?_eq_getElem h];rfl
theorem y7(r:Int)(a b:List UInt8):fS r (a++b)=fS (fS r a) b:=by simp[fS]
theorem Ei{r:Int}{ps:List (List UInt8)}{k:Nat}(h:k<ps.length):fS r (ps.take (k+1)).flatten=fS (fS r (ps.take k).flatten) ps[k]:=by
 rw[bZ h,List.flatten_append,y7];simp
theorem Ej(bs:List UInt8):0≤gI bs∧gI bs<4294967296:=B3 _ _
def Q9(r:Int):List UInt8:=[r8 r,r8 (r.fdiv 256),r8 (r.fdiv 65536),r8 (r.fdiv 16777216)]
def Kq(a b c d:UInt8):Int:=
 iN .u32 (iN .u32 (iN .u32 ((a.toNat:Nat):Int) (IntKind.u32.wrap (((b.toNat:Nat):Int)*2^8))) (IntKind.u32.wrap (((c.toNat:Nat):Int)*2^16))) (IntKind.u32.wrap (((d.toNat:Nat):Int)*2^24))
theorem Mp(a b c d:UInt8):Kq a b c d=((a.toNat:Nat):Int)+((b.toNat:Nat):Int)*256+((c.toNat:Nat):Int)*65536+((d.toNat:Nat):Int)*16777216:=by
 have ha:=a.toNat_lt;have hb:=b.toNat_lt;have hc:=c.toNat_lt;have hd:=d.toNat_lt;unfold Kq;generalize a.toNat=a at*;generalize b.toNat=b at*;generalize c.toNat=c at*;generalize d.toNat=d at*;rw[lu (x:=(b:Int)*2^8) (by omega) (by omega),lu (x:=(c:Int)*2^16) (by omega) (by omega),lu (x:=(d:Int)*2^24) (by omega) (by omega)];rw[uP 8 (by omega) (by omega) (by omega) (by omega),uP 16 (by omega) (by omega) (by omega) (by omega),uP 24 (by omega) (by omega) (by omega) (by omega)];omega
def qE(bs:List UInt8):List UInt8:=bs++Q9 (gI bs)
def nF(bs:List UInt8):Option (List UInt8):=
 if bs.length<4 then none
 else if gI (bs.take (bs.length-4))=Kq ((bs.drop (bs.length-4)).getD 0 0) ((bs.drop (bs.length-4)).getD 1 0) ((bs.drop (bs.length-4)).getD 2 0) ((bs.drop (bs.length-4)).getD 3 0)then some (bs.take (bs.length-4))else none
theorem lG(bs:List UInt8):(qE bs).length=bs.length+4:=by simp[qE,Q9]
theorem Kp{r:Int}(h:0≤r∧r<4294967296):Kq (r8 r) (r8 (r.fdiv 256)) (r8 (r.fdiv 65536)) (r8 (r.fdiv 16777216))=r:=by
 rw[Mp,mU,mU,mU,mU,Int.fdiv_eq_ediv_of_nonneg _ (by decide),Int.fdiv_eq_ediv_of_nonneg _ (by decide),Int.fdiv_eq_ediv_of_nonneg _ (by decide)];omega
theorem sc(bs:List UInt8):nF (qE bs)=some bs:=by
 have hl:=lG bs;have e1:(qE bs).take (bs.length+4-4)=bs:=by rw[I4,qE];exact mL
 have e2:(qE bs).drop (bs.length+4-4)=Q9 (gI bs):=by rw[I4,qE];exact ED
 unfold nF;rw[hl,if_neg (by omega),e1,e2];exact if_pos (Kp (Ej bs)).symm
theorem zA{bs t:List UInt8}(h:nF bs=some t):t.length+4=bs.length:=by
 unfold nF at h;split at h
 · cases h
 · split at h
   · injection h with h;subst h;rw[bA];omega
   · cases h
def bq(n:Nat):Nat:=if n=0 then 1 else(n-1) / 52+1
theorem qG(n:Nat):0<bq n:=by unfold bq;split<;>omega
theorem py{n:Nat}(h:n≤3000):bq n≤58:=by unfold bq;split<;>omega
theorem yT(n:Nat):n≤bq n*52:=by unfold bq;split<;>omega
def Ls(n:Int):List UInt8:=[r8 (n.fdiv 16777216),r8 (n.fdiv 65536),r8 (n.fdiv 256),r8 n]
def IW(bs:List UInt8):Int:=bs.foldl (λh c=>iN .i64 (IntKind.i64.wrap (h*2^8)) ((c.toNat:Nat):Int)) 0
theorem KV{bs:List UInt8}{k:Nat}(h:k<bs.length):IW (bs.take (k+1))=iN .i64 (IntKind.i64.wrap (IW (bs.take k)*2^8)) (((bs.getD k 0).toNat:Nat):Int):=by
 rw[IW,IW,bZ h,fi,List.getD_eq_getElem?_getD,List.getElem?_eq_getElem h];rfl
theorem wK{h:Int}(c:UInt8)(h0:0≤h)(h1:h<4294967296):iN .i64 (IntKind.i64.wrap (h*2^8)) ((c.toNat:Nat):Int)=h*256+((c.toNat:Nat):Int):=by
 have hc:=c.toNat_lt;generalize c.toNat=c at*;rw[bK (by omega) (by omega),Ie 8 (by omega) (by omega) (by omega) (by omega)];omega
theorem KW(a b c d:UInt8):IW [a,b,c,d]=((a.toNat:Nat):Int)*16777216+((b.toNat:Nat):Int)*65536+((c.toNat:Nat):Int)*256+((d.toNat:Nat):Int):=by
 have ha:=a.toNat_lt;have hb:=b.toNat_lt;have hc:=c.toNat_lt;have hd:=d.toNat_lt;simp only[IW,List.foldl_cons,List.foldl_nil];rw[wK a (by omega) (by omega),wK b (by omega) (by omega),wK c (by omega) (by omega),wK d (by omega) (by omega)];omega
theorem MI{n:Int}(h0:0≤n)(h1:n<4294967296):IW (Ls n)=n:=by
 rw[Ls,KW,mU,mU,mU,mU,Int.fdiv_eq_ediv_of_nonneg _ (by decide),Int.fdiv_eq_ediv_of_nonneg _ (by decide),Int.fdiv_eq_ediv_of_nonneg _ (by decide)];omega
def hJ(b:List UInt8)(i:Nat):List UInt8:=(b.drop (i*52)).take 52
theorem uM(b:List UInt8)(i:Nat):(hJ b i).length≤52:=by rw[hJ,bA];omega
theorem L9{n k:Nat}(h:k<bq n):k*52≤n:=by unfold bq at h;split at h<;>omega
theorem Ma(b:List UInt8)(k:Nat):((b.take (min ((k+1)*52) b.length)).drop (k*52))=hJ b k:=by
 rw[hJ,kN,fN,Nat.one_mul]
 by_cases q:k*52+52≤b.length
 · rw[Nat.min_eq_left q,cE]
 · rw[Nat.min_eq_right (by omega),aC (by rw[bV];omega),aC (by rw[bV];omega)]
theorem H9(b:List UInt8): ∀k,b.length≤k*52→((List.range k).map (hJ b)).flatten=b:=by
 have key: ∀k,((List.range k).map (hJ b)).flatten=b.take (k*52):=by
  intro k
  induction k with
  |zero=>simp
  |succ k ih=>
   rw[cQ,eX,List.flatten_append,ih,fN,Nat.one_mul,List.take_add];simp[hJ]
 intro k hk;rw[key,aC hk]
def kl(number:Int)(place all:Nat)(p:List UInt8):List UInt8:=Ls number++([r8 (place:Int),r8 (all:Int),r8 (p.length:Int)]++(p++List.replicate (52-p.length) 0))
theorem j6{number:Int}{place all:Nat}{p:List UInt8}(h:p.length≤52):(kl number place all p).length=59:=by simp[kl,Ls];omega
def qA(number:Int)(place all:Nat)(p:List UInt8):jx:=qE (kl number place all p)++[1]
theorem HH{number:Int}{place all:Nat}{p:List UInt8}(h:p.length≤52):(qA number place all p).length=64:=by simp[qA,lG,j6 h]
def co(number:Int)(b:List UInt8):List jx:=(List.range (bq b.length)).map λi=>qA number i (bq b.length) (hJ b i)
def nL(number:Int)(b:List UInt8)(k:Nat):List jx:=(List.range k).map λi=>qA number i (bq b.length) (hJ b i)
theorem Fb(number:Int)(b:List UInt8)(k:Nat):nL number b (k+1)=nL number b k++[qA number k (bq b.length) (hJ b k)]:=by simp[nL,cQ]
theorem zJ(number:Int)(b:List UInt8)(k:Nat):(nL number b k).length=k:=by simp[nL]
theorem Ht{number:Int}{place all:Nat}{p:List UInt8}(h:p.length≤52):
 wr (dU (Ls number++([r8 (place:Int),r8 (all:Int),r8 (p.length:Int)]++List.replicate 52 0))) 7 ((dU p).take (min p.length 52))=dU (kl number place all p):=by
 have e:(dU p).take (min p.length 52)=dU p:=aC (by rw[bo];omega);rw[e,wr,bo];have e2:(dU (Ls number++([r8 (place:Int),r8 (all:Int),r8 (p.length:Int)]++List.replicate 52 0))).take 7=dU (Ls number++[r8 (place:Int),r8 (all:Int),r8 (p.length:Int)]):=rfl
 have e3:(dU (Ls number++([r8 (place:Int),r8 (all:Int),r8 (p.length:Int)]++List.replicate 52 0))).drop (7+p.length)=dU (List.replicate (52-p.length) 0):=by
  rw[←mM];have:(dU (Ls number++([r8 (place:Int),r8 (all:Int),r8 (p.length:Int)]++List.replicate 52 0))).drop 7=dU (List.replicate 52 0):=rfl;rw[this,dU,dU,←lQ,List.drop_replicate]
 rw[e2,e3,kl];simp[dU]
theorem dV(number:Int)(b:List UInt8):(co number b).length=bq b.length:=by simp[co]
def fQ(s:jx)(number place:Int):Option (List UInt8×Int):=
 match nF (s.take 63)with
 |none=>none
 |some t=>if s.getD 63 0≠1 then none
  else if IW (t.take 4)≠number∨(((t.getD 4 0).toNat:Nat):Int)≠place∨place≥(((t.getD 5 0).toNat:Nat):Int)∨(((t.getD 6 0).toNat:Nat):Int)>52 then none
  else some ((t.drop 7).take (t.getD 6 0).toNat,(((t.getD 5 0).toNat:Nat):Int))
theorem Do{number:Int}{place all:Nat}{p:List UInt8}(h:p.length≤52)(h0:0≤number)(h1:number<4294967296)(hp:place<all)(ha:all≤255):fQ (qA number place all p) number place=some (p,(all:Int)):=by
 have e1:(qA number place all p).take 63=qE (kl number place all p):=by
  rw[qA,cH (by rw[lG,j6 h];omega),aC (by rw[lG,j6 h];omega)]
 have e2:(qA number place all p).getD 63 0=1:=by
  rw[qA,List.getD_eq_getElem?_getD,List.getElem?_append_right (by rw[lG,j6 h];omega),lG,j6 h];rfl
 have n1:(((r8 (place:Int)).toNat:Nat):Int)=place:=by rw[mU];omega
 have n2:(((r8 (all:Int)).toNat:Nat):Int)=all:=by rw[mU];omega
 have n3:(((r8 (p.length:Int)).toNat:Nat):Int)=p.length:=by rw[mU];omega
 unfold fQ;rw[e1,sc];simp only[e2,ne_eq,not_true_eq_false,if_false];have t4:(kl number place all p).take 4=Ls number:=rfl;have g4:(kl number place all p).getD 4 0=r8 (place:Int):=rfl;have g5:(kl number place all p).getD 5 0=r8 (all:Int):=rfl;have g6:(kl number place all p).getD 6 0=r8 (p.length:Int):=rfl;have g7:(kl number place all p).drop 7=p++List.replicate (52-p.length) 0:=rfl;rw[t4,MI h0 h1,g4,g5,g6,g7,n1,n2,n3];rw[if_neg (by omega)];have n3':(r8 (p.length:Int)).toNat=p.length:=by omega
 rw[n3'];simp
theorem st{s:jx}{number place:Int}(h:s.getD 63 0≠1):fQ s number place=none:=by
 unfold fQ;split
 · rfl
 · rw[if_pos h]
theorem pz{s b:jx}{number place all:Int}(hs:s.length=64)(h:fQ s number place=some (b,all)):place<all∧all≤255∧b.length≤52:=by
 unfold fQ at h;split at h
 · cases h
 · rename_i t ht
   have hl:=zA ht;split at h
   · cases h
   · split at h
     · cases h
     · rename_i h2
       injection h with h
       simp only[Prod.mk.injEq]at h;obtain⟨rfl,rfl⟩:=h;have:=(t.getD 5 0).toNat_lt;rw[bA];omega
theorem Bm{s:jx}{number place:Int}(h:nF (s.take 63)=none):fQ s number place=none:=by simp only[fQ,h]
theorem nf{s t:jx}{number place:Int}(h:nF (s.take 63)=some t)(h2:IW (t.take 4)≠number∨(((t.getD 4 0).toNat:Nat):Int)≠place∨place≥(((t.getD 5 0).toNat:Nat):Int)∨(((t.getD 6 0).toNat:Nat):Int)>52):fQ s number place=none:=by
 simp only[fQ,h];split
 · rfl
 · first|rfl|rw[if_pos h2]
theorem Dn{s t:jx}{number place:Int}(h:nF (s.take 63)=some t)(h1:s.getD 63 0=1)(h2: ¬(IW (t.take 4)≠number∨(((t.getD 4 0).toNat:Nat):Int)≠place∨place≥(((t.getD 5 0).toNat:Nat):Int)∨(((t.getD 6 0).toNat:Nat):Int)>52)):
 fQ s number place=some ((t.drop 7).take (t.getD 6 0).toNat,(((t.getD 5 0).toNat:Nat):Int)):=by
 simp only[fQ,h,h1,ne_eq,not_true_eq_false,if_false];rw[if_neg h2]
def lJ(rd:Int→jx)(number at' all:Int):Nat→Option (List UInt8)
 |0=>some []
 |k+1=>match lJ rd number at' all k with
  |none=>none
  |some b=>match fQ (rd (at'+k)) number k with
   |none=>none
   |some (m,same)=>if same=all then some (b++m)else none
def gB(rd:Int→jx)(number at':Int):Option (List UInt8×Int):=
 match fQ (rd at') number 0 with
 |none=>none
 |some (_,all)=>(lJ rd number at' all all.toNat).map λb=>(b,all)
theorem Fz{rd:Int→jx}{number at' all:Int}{k:Nat}(h:lJ rd number at' all k=none): ∀m,k≤m→lJ rd number at' all m=none:=by
 intro m hm
 induction hm with
 |refl=>exact h
 |step _ ih=>simp only[lJ,ih]
theorem xR{rd:Int→jx}{number at' all:Int}{k:Nat}(h:fQ (rd (at'+k)) number k=none∨∃m same,fQ (rd (at'+k)) number k=some (m,same)∧same≠all): ∀m,k<m→lJ rd number at' all m=none:=by
 refine λm hm=>Fz (k:=k+1) ?_ m hm
 simp only[lJ];cases lJ rd number at' all k with
 |none=>rfl
 |some b=>
  rcases h with h| ⟨x,same,h,h2⟩
  · simp only[h]
  · simp only[h,if_neg h2]
theorem xT{rd:Int→jx}{number at' all:Int}{k:Nat}{b x:List UInt8}(h:lJ rd number at' all k=some b)(h2:fQ (rd (at'+k)) number k=some (x,all)):lJ rd number at' all (k+1)=some (b++x):=by
 simp only[lJ,h,h2,if_true]
theorem Il{rd:Int→jx}{number at' all:Int}{b:List UInt8}(h:fQ (rd at') number 0=some (b,all)):lJ rd number at' all 1=some b:=by
 have h0:lJ rd number at' all 0=some []:=rfl;have:=xT (rd:=rd) (number:=number) (at':=at') (all:=all) (k:=0) h0 (x:=b) (by simpa using h)
 simpa using this
theorem rJ{rd:Int→jx}{number at':Int}(h:fQ (rd at') number 0=none):gB rd number at'=none:=by simp only[gB,h]
theorem rI{rd:Int→jx}{number at' all:Int}{b:List UInt8}(h:fQ (rd at') number 0=some (b,all))(h2:lJ rd number at' all all.toNat=none):gB rd number at'=none:=by simp only[gB,h,h2,Option.map_none]
theorem tm{rd:Int→jx}{number at' all:Int}{b c:List UInt8}(h:fQ (rd at') number 0=some (b,all))(h2:lJ rd number at' all all.toNat=some c):gB rd number at'=some (c,all):=by simp only[gB,h,h2,Option.map_some]
def gH(rd:Int→jx):Nat→Int→Int→List (List UInt8)×Int
 |0,_,used=>([],used)
 |f+1,cnt,used=>match gB rd (cnt+1) used with
  |none=>([],used)
  |some (b,all)=>let r:=gH rd f (cnt+1) (used+all);(b::r.1,r.2)
def ki:Nat→Int→DS→Int×DS
 |0,_,D=>(0,D)
 |n+1,at',D=>if D.read at'=zs then ki n (at'+1) D else if(D.write at' []).1=0 then ki n (at'+1) (D.write at' []).2 else D.write at' []
structure OpenR where
 err:Int
 recs:List (List UInt8)
 used:Int
 D:DS
def jN:Nat:=2049
theorem tS:jN=2049:=rfl
def bY(D:DS):OpenR:=
 let r:=gH D.read jN 0 0;let w:=ki (2048-r.2).toNat r.2 D
 if w.1≠0 then⟨w.1,[],0,w.2⟩else if w.2.sync.1≠0 then⟨w.2.sync.1,[],0,w.2.sync.2⟩else⟨0,r.1,r.2,w.2.sync.2⟩
def In(s:gi):Prop:=∀p∈s,0≤p.1∧p.1<2048
def DS.In(D:DS):Prop:=Wal.In D.s∧Wal.In D.ws
end Wal
end

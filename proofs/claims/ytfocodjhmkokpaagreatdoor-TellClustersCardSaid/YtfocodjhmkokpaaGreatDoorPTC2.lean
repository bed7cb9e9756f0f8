/-
  Joined texts:what a statement's proof reaches.
-/
import Derived.Laws.MakeOwn
import Derived.OwnWalk
import Derived.Lib.AppendStr
import Derived.Lib.UnsafeStr
import Derived.Lib.Builder
import Derived.Laws.Externs
import Derived.Test.YtfocodjhmkokpaaGreatDoorProg
import Derived.KernelRfl
import Derived.WalkSpells
import Derived.Test.YtfocodjhmkokpaaGreatDoorPTC1
set_option maxHeartbeats 8000000
set_option maxRecDepth 100000
set_option linter.unusedSimpArgs false
set_option linter.unusedVariables false
section
namespace Leg
open Go Codec Api
theorem zq(v:Value)(n:Nat):madeCells #[v] n=(List.replicate n v).toArray:=by
 unfold madeCells;apply Array.ext
 · simp
 · intro i h1 h2
   simp at h1;simp[Nat.mod_one]
theorem Mk(n:Nat):dL (List.replicate n 0)=List.replicate n (.int .u8 0):=by simp[dL]
section
variable {P:Program} {w0:World} {F:Hl} {n:Nat} {ops:Array Oper} {Q:QQ} {D:List Deferred} {L:List (Nat×Value)} {H:List HP} {o:Oper} {l:List Oper} {d:Nat} {S:World→Prop}
theorem TL.mono{H':List HP}(m: ∀h,bH H h→bH H' h)(h:TL P w0 F n ops Q l D L H'):TL P w0 F n ops Q l D L H:=TL.weak (dH _) m h
abbrev cz:= @TL.mono
theorem TL.makeB{t e:TypeId}{x y:Operand}{k k':IntKind}{a b:Int}(m c:Nat)(hw:Want n D ops o L)(ho:o.op= .makeSlice t x y)(hd:o.dst=some d)(hn:Nat.blt d n=true)(ht:P.underlying t=some (.slice e))
 (hi:(P.info? e).map (λi=>(i.zero,i.size,i.bytes))=some (some (.int .u8 0),1,1)) (hx:cL L x=some (.int k a)) (hy:cL L y=some (.int k' b)) (ha:a=(m:Int)) (hb:b=(c:Int)) (h1:m≤c) (h2:c≤281474976710656)
 (h: ∀b,TL P w0 F n ops Q l D ((d, .slice (some ⟨b,0,none⟩) m c)::L) (ak b (dL (List.replicate c 0)) e::H)):TL P w0 F n ops Q (o::l) D L H:=
 kV hw λa w f sm q=>by
  subst ha;subst hb;obtain⟨i,hie,hz0,hs,hb⟩:=info_parts hi;have hr:=run_make (P:=P) w t e i (.int .u8 0) ht hie hz0 k k' (m:Int) (c:Int) (by omega) (by omega) (by rw[hb];omega) (by omega)
  have e1:madeCells (Value.cells (.int .u8 0)) ((c:Int).toNat*i.size)=(dL (List.replicate c 0)).toArray:=by
   rw[hs,gi,wu,Mk];exact zq _ _
  rw[e1]at hr;simp only[wu]at hr
  have r:(execOp a.eval o).run P w= .ok (.value (.slice (some ⟨w.heap.size,0,none⟩) m c)) (w.alloc (.cells (dL (List.replicate c 0)).toArray e)):=by
   simp only[execOp,ho,f.eval hx,f.eval hy,Sem.run_bind,hr,Result.andThen_ok,Sem.run_pure]
  unfold Oper.wp;rw[r,Oper.upon_value,hd];exact h _ _ _ (f.put (lb hn) _) (sm.trans ⟨rfl,rfl,rfl,by simp⟩) (q.alloc _)
def ku:Value→Nat→Nat→Value
 | .slice a m c,lo,hi=> .slice (if c=lo then a else a.map (·.add lo)) (hi-lo) (c-lo)
 |v,_,_=>v
theorem PV.sliceLH{t e:TypeId}{x y z:Operand}{a:Option Addr}{len cap lo hi:Nat}{k k':IntKind}{i j:Int}(ho:o.op= .slice t x (some y) (some z) none)(ht:P.underlying t=some (.slice e))(hs:(P.info? e).map (·.size)=some 1)
 (hx:cL L x=some (.slice a len cap)) (hy:cL L y=some (.int k i)) (hz:cL L z=some (.int k' j)) (hi':i=(lo:Int)) (hj:j=(hi:Int)) (h1:lo≤hi) (h2:hi≤cap):PV P n D L S o (ku (.slice a len cap) lo hi):=
 λb w g _=>by
  subst hi';subst hj;simp only[execOp,ho,g.eval hx,Option.map_some,Option.map_none,g.eval hy,g.eval hz,ku]
  by_cases q:cap=lo
  · have e2:hi=lo:=by omega
    subst e2;simp[Instr.sliceAt,Instr.slice,run_underlying ht,Instr.sliceBounds,Instr.sliceBound,asIntOf,ej hs,q]
  · simp[Instr.sliceAt,Instr.slice,run_underlying ht,Instr.sliceBounds,Instr.sliceBound,asIntOf,h1,h2,ej hs,q]
theorem PV.sliceH{t e:TypeId}{x z:Operand}{a:Option Addr}{len cap hi:Nat}{k':IntKind}{j:Int}(ho:o.op= .slice t x none (some z) none)(ht:P.underlying t=some (.slice e))(hs:(P.info? e).map (·.size)=some 1)
 (hx:cL L x=some (.slice a len cap)) (hz:cL L z=some (.int k' j)) (hj:j=(hi:Int)) (h2:hi≤cap):PV P n D L S o (ku (.slice a len cap) 0 hi):=
 λb w g _=>by
  subst hj;simp only[execOp,ho,g.eval hx,Option.map_some,Option.map_none,g.eval hz,ku]
  by_cases q:cap=0
  · have e2:hi=0:=by omega
    subst e2;simp[Instr.sliceAt,Instr.slice,run_underlying ht,Instr.sliceBounds,Instr.sliceBound,asIntOf,ej hs,q]
  · simp[Instr.sliceAt,Instr.slice,run_underlying ht,Instr.sliceBounds,Instr.sliceBound,asIntOf,h2,ej hs,q]
theorem PV.sliceL{t e:TypeId}{x y:Operand}{a:Option Addr}{len cap lo:Nat}{k:IntKind}{i:Int}(ho:o.op= .slice t x (some y) none none)(ht:P.underlying t=some (.slice e))(hs:(P.info? e).map (·.size)=some 1)
 (hx:cL L x=some (.slice a len cap)) (hy:cL L y=some (.int k i)) (hi:i=(lo:Int)) (h1:lo≤len):PV P n D L S o (ku (.slice a len cap) lo len):=
 λb w g _=>by
  subst hi;simp only[execOp,ho,g.eval hx,Option.map_some,Option.map_none,g.eval hy,ku]
  by_cases q:cap=lo
  · simp[Instr.sliceAt,Instr.slice,run_underlying ht,Instr.sliceBounds,Instr.sliceBound,asIntOf,h1,ej hs,q]
  · simp[Instr.sliceAt,Instr.slice,run_underlying ht,Instr.sliceBounds,Instr.sliceBound,asIntOf,h1,ej hs,q]
end
theorem IsW.form{v:Value}{bs:List UInt8}{F:Hl}(h:IsW v bs F): ∃a c,v= .slice a bs.length c∧bs.length≤c∧(bs.length=0∨c≤9223372036854775807):=by
 rcases h with(⟨rfl,rfl⟩| ⟨b,off,cap,cs,T,z,rfl,h1,h2,_⟩)| ⟨a,c,rfl,rfl⟩
 · exact⟨_,_,rfl,aH _, .inl rfl⟩
 · exact⟨_,_,rfl,h1, .inr h2⟩
 · exact⟨_,_,rfl,aO _, .inl rfl⟩
theorem IsW.lt{v:Value}{bs:List UInt8}{F:Hl}(h:IsW v bs F):bs.length≤9223372036854775807:=by
 obtain⟨a,c,_,h1,h2⟩:=h.form;omega
theorem IsW.cut{v:Value}{bs:List UInt8}{F:Hl}(h:IsW v bs F){lo hi:Nat}(h1:lo≤hi)(h2:hi≤bs.length):IsW (ku v lo hi) ((bs.take hi).drop lo) F:=by
 have hl:((bs.take hi).drop lo).length=hi-lo:=by simp;omega
 by_cases e:hi-lo=0
 · obtain⟨a,c,rfl,hc,_⟩:=h.form
   have e0:(bs.take hi).drop lo=[]:=List.eq_nil_of_length_eq_zero (by omega);rw[e0];simp only[ku,e];split
   · cases a with
     |some a=>exact .inr ⟨_,_,rfl,rfl⟩
     |none=>
      rcases h with(⟨h,rfl⟩| ⟨b,off,cap,cs,T,z,h,_⟩)| ⟨a,c,h,_⟩
      · injection h with _ _ h;subst h;exact .inl (.inl ⟨by simp,rfl⟩)
      · simp at h
      · simp at h
   · cases a with
     |some a=>exact .inr ⟨_,_,rfl,rfl⟩
     |none=>
      rcases h with(⟨h,rfl⟩| ⟨b,off,cap,cs,T,z,h,_⟩)| ⟨a,c,h,_⟩
      · injection h with _ _ h;subst h;exact .inl (.inl ⟨by simp,rfl⟩)
      · simp at h
      · simp at h
 · obtain⟨b,off,cap,cs,T,z,rfl,hb,hcs,hc⟩:=h.at (j:=0) (by omega)
   rcases h.form with⟨a,c,hv,_,hm⟩
   injection hv with _ _ hv
   subst hv;refine .inl (.inr ⟨b,off+lo,cap-lo,cs,T,z,?_,by omega,by omega,hb,λj hj=>?_⟩)
   · simp only[ku,hl,if_neg (show ¬cap=lo by omega),Option.map_some,pV]
   · rw[hl]at hj
     rw[HM,hcs (lo+j) (by omega)];congr 2;simp[List.getD_eq_getElem?_getD,List.getElem?_take,show lo+j<hi by omega]
def hX(v:Value)(bs:List UInt8)(e:Nat):HP:=λh=>
 (v= .slice none 0 0∧bs=[]∧h=em)∨∃g off cap cur,v= .slice (some ⟨g,off,none⟩) bs.length cap∧h=sg g (.cells cur e (0,0))∧bs.length≤cap∧cap≤maxLen∧off+cap≤cur.size∧(cur.toList.drop off).take bs.length=dL bs
theorem qJ{v:Value}{bs:List UInt8}{e:Nat}{h:Hl}(x:cw v bs e h):hX v bs e h:=by
 rcases x with⟨_,⟨h1,h2,h3⟩| ⟨g,cap,cur,h1,h2,h3,h4,h5,h6⟩⟩
 · exact .inl ⟨h1,List.eq_nil_of_length_eq_zero h2,h3⟩
 · exact .inr ⟨g,0,cap,cur,h1,h2,h3,h4,by omega,by simpa using h6⟩
section
variable {H:List HP} {F:Hl} {v:Value} {bs:List UInt8} {e:Nat}
theorem By(i:Nat)(hi:Nat.blt i H.length=true)(hH:H.getD i (λ_=>True)=cw v bs e){h:Hl}(s:bH H h):bH (H.set i (hX v bs e)) h:=
 lm i (lb hi) (cM (eU i (lb hi) s) (λ_ x=>qJ (by rwa [hH]at x)) λ_ x=>x)
theorem xA{lo hi nn:Nat}{bs':List UInt8}(i:Nat)(hi':Nat.blt i H.length=true)(hH:H.getD i (λ_=>True)=cw v bs e){g cap:Nat}(hv:v= .slice (some ⟨g,0,none⟩) nn cap)(h1:lo≤hi)(h2:hi≤bs.length)(h3:lo<bs.length)(hb:(bs.take hi).drop lo=bs'){h:Hl}(s:bH H h):
 bH (H.set i (hX (ku v lo hi) bs' e)) h:=by
 subst hb;have hl:((bs.take hi).drop lo).length=hi-lo:=by simp;omega
 refine lm i (lb hi') (cM (eU i (lb hi') s) (λ_ x=>?_) λ_ x=>x);rw[hH]at x;rcases x with⟨_,⟨h1,h2,_⟩| ⟨g',cap',cur,h4,h5,h6,h7,h8,h9⟩⟩
 · rw[hv]at h1;simp at h1
 · rw[hv]at h4 ⊢
   simp only[Value.slice.injEq,Option.some.injEq,Addr.mk.injEq,and_true,true_and]at h4;obtain⟨rfl,rfl,rfl⟩:=h4;refine .inr ⟨g,lo,cap-lo,cur,?_,h5,by omega,by omega,by omega,?_⟩
   · simp only[ku,hl,if_neg (show ¬cap=lo by omega),Option.map_some,pV,bi]
   · rw[hl]
     rw[gi]at h9;have e1:=congrArg (λl:List Value=>(l.take hi).drop lo) h9;simp only[Fj,Nat.min_eq_left h2]at e1;rw[←mD,e1];simp[dL,qu,lI]
theorem Sat.sub_form{w:World}(i:Nat)(s:Sat H F w)(hi:Nat.blt i H.length=true)(hH:H.getD i (λ_=>True)=hX v bs e):(v= .slice none 0 0∧bs=[])∨∃g off cap cur,v= .slice (some ⟨g,off,none⟩) bs.length cap∧w.heap[g]?=some (.cells cur e (0,0))∧bs.length≤cap∧cap≤maxLen∧off+cap≤cur.size∧(cur.toList.drop off).take bs.length=dL bs:=by
 obtain⟨h,d,e',x⟩:=s;obtain⟨h1,h2,d',rfl,a,_⟩:=eU i (lb hi) x;rw[hH]at a;rcases a with⟨x1,x2,_⟩| ⟨g,off,cap,cur,x1,x2,x3⟩
 · exact .inl ⟨x1,x2⟩
 · refine .inr ⟨g,off,cap,cur,x1,?_,x3⟩
   have:hp w g=some (.cells cur e (0,0)):=by
    rw[e',jO];exact iA (by rw[x2];simp[sg])
   exact this
theorem Sat.sub_len{w:World}(i:Nat)(s:Sat H F w)(hi:Nat.blt i H.length=true)(hH:H.getD i (λ_=>True)=hX v bs e):p5 v bs.length∧v.oneCell'=true:=by
 rcases s.sub_form i hi hH with⟨rfl,rfl⟩| ⟨g,off,cap,cur,rfl,_⟩
 · exact⟨⟨_,_,rfl⟩,rfl⟩
 · exact⟨⟨_,_,rfl⟩,rfl⟩
theorem Src.sub(i:Nat)(hi:Nat.blt i H.length=true)(hH:H.getD i (λ_=>True)=hX v bs e){w:World}(s:Sat H F w):Src (Sat H F) v bs.length (dL bs) 1:=by
 refine⟨by simp[dL],?_⟩;rcases s.sub_form i hi hH with⟨rfl,rfl⟩| ⟨g,off,cap,cur,rfl,_⟩
 · exact .inl ⟨rfl,rfl⟩
 · refine .inr ⟨⟨g,off,none⟩,cap,rfl,λw s j u hj=>?_⟩
   rcases s.sub_form i hi hH with⟨h1,_⟩| ⟨g',off',cap',cur',h1,h2,h3,h4,h5,h6⟩
   · simp at h1
   · simp only[Value.slice.injEq,Option.some.injEq,Addr.mk.injEq,and_true,true_and]at h1
     obtain⟨⟨rfl,rfl⟩,rfl⟩:=h1;rw[pV];rw[←h6,List.getElem?_take]at hj;split at hj
     · simp only[World.cell?,h2,Option.isSome_none,Bool.false_eq_true,if_false]
       simpa using hj
     · cases hj
theorem B9(i:Nat){B:List HP}(hi:Nat.blt i B.length=true)(hH:B.getD i (λ_=>True)=hX v bs e): ∀g,Dj g F→bH B g→IsB v bs (jn g F):=λg _ s=>by
 obtain⟨h1,h2,d',rfl,a,_⟩:=eU i (lb hi) s;rw[hH]at a;rcases a with⟨x1,x2,_⟩| ⟨g,off,cap,cur,x1,x2,x3,x4,x5,x6⟩
 · exact .inl ⟨x1,x2⟩
 · refine .inr ⟨g,off,cap,cur.toList,e,(0,0),x1,x3,by simpa [maxLen]using x4,iA (iA (by rw[x2];simp[sg])),λj hj=>?_⟩
   have e1:=congrArg (λl:List Value=>l[j]?) x6;simp only[List.getElem?_take,if_pos hj,List.getElem?_drop]at e1;rw[e1];simp[dL,List.getD_eq_getElem?_getD,hj]
end
theorem u6{P:Program}(w:World)(t ty e:TypeId)(i:TypeInfo)(ht:P.underlying t=some (.slice e))(hi:P.info? e=some i)(g off sLen sCap:Nat)(cur:Array Value)(hg:w.heap[g]?=some (.cells cur e (0,0)))
 (a:Addr) (m c:Nat) (news:List Value) (hl:news.length=m*i.size) (hnews: ∀j u,news[j]?=some u→w.cell? (a.add j)=some u) (h1: ∀u∈news,u.oneCell'=true)
 (hroom:sLen+m≤sCap) (hfit:off+sLen*i.size+news.length≤cur.size):
 (Builtin.append_ #[t,t] ty #[.slice (some ⟨g,off,none⟩) sLen sCap, .slice (some a) m c]).run P w=
  .ok (.slice (some ⟨g,off,none⟩) (sLen+m) sCap) (w.setRow g (cur.toList.take (off+sLen*i.size)++news++cur.toList.drop (off+sLen*i.size+news.length)).toArray):=by
 have hf:=run_firstCells_some (P:=P) w i.size m a m c news hl hnews;have hst:=run_storeCells_at P g (off+sLen*i.size) e news 0 cur w hg (by simpa using hfit) h1;simp only[L5]at hst;simp[Builtin.append_,run_underlying ht,Go.sizeOf,typeInfo,hi,Builtin.lenOf,hroom,hf,Addr.add_lit,hst]
section
variable {P:Program} {w0:World} {F:Hl} {n:Nat} {ops:Array Oper} {Q:QQ} {D:List Deferred} {L:List (Nat×Value)} {H:List HP} {o:Oper} {l:List Oper} {d:Nat} {S:World→Prop}
theorem Sat.sub_open{w:World}{k:Nat}{v:Value}{bs:List UInt8}{e:TypeId}(s:Sat H F w)(hk:Nat.blt k H.length=true)(hH:H.getD k (λ_=>True)=hX v bs e):
 (v= .slice none 0 0∧bs=[]∧Sat (H.set k (cw (.slice none 0 0) [] e)) F w)∨∃g off cap cur,v= .slice (some ⟨g,off,none⟩) bs.length cap∧Sat (H.set k (zb g (.cells cur e (0,0)))) F w∧bs.length≤cap∧cap≤maxLen∧off+cap≤cur.size∧(cur.toList.drop off).take bs.length=dL bs:=by
 obtain⟨h,d,e',x⟩:=s;obtain⟨h1,h2,d',rfl,a,y⟩:=eU k (lb hk) x;rw[hH]at a;rcases a with⟨x1,x2,x3⟩| ⟨g,off,cap,cur,x1,x2,x3⟩
 · exact .inl ⟨x1,x2,_,d,e',lm k (lb hk) ⟨h1,h2,d',rfl,⟨rfl, .inl ⟨rfl,rfl,x3⟩⟩,y⟩⟩
 · exact .inr ⟨g,off,cap,cur,x1,⟨_,d,e',lm k (lb hk) ⟨h1,h2,d',rfl,x2,y⟩⟩,x3⟩
theorem Src.of_eq{S':World→Prop}{x:Value}{m size:Nat}{news:List Value}(h:Src S x m news size)(hS: ∀w,S' w→S w):Src S' x m news size:=⟨h.1,h.2.imp id λ⟨a,c,q3,q4⟩=>⟨a,c,q3,λw' s'=>q4 w' (hS w' s')⟩⟩
theorem Dw{k:Nat}{q:HP}(hk:Nat.blt k H.length=true)(hH:H.getD k (λ_=>True)=q):H.set k q=H:=by
 rw[←hH,List.getD_eq_getElem?_getD,List.getElem?_eq_getElem (lb hk)];exact List.set_getElem_self _
theorem DG{w:World}{k:Nat}{v x:Value}{bs news:List UInt8}{t ty e:TypeId}(s:Sat H F w)(ht:P.underlying t=some (.slice e))(hi:(P.info? e).map (λi=>(i.zero,i.size,i.bytes))=some (some (.int .u8 0),1,1))
 (hk:Nat.blt k H.length=true) (hH:H.getD k (λ_=>True)=hX v bs e) (hx:Src (Sat H F) x news.length (dL news) 1) (hb:bs.length+news.length≤140737488355328):
 ∃v' w',(Builtin.append_ #[t,t] ty #[v,x]).run P w= .ok v' w'∧Same w w'∧Sat (H.set k (hX v' (bs++news) e)) F w':=by
 rcases s.sub_open hk hH with⟨rfl,rfl,s1⟩| ⟨g,off,cap,cur,rfl,s1,h3,h4,h5,h6⟩
 · have hx':Src (Sat (H.set k (cw (.slice none 0 0) [] e)) F) x news.length (dL news) 1:=hx.of_eq λw' s'=>by
    have:=s'.turn (q:=hX (.slice none 0 0) [] e) k (by simpa using lb hk) λh hh=>by
     rw[fL (lb hk)]at hh;exact qJ hh
    rwa [fk,Dw hk hH]at this
   obtain⟨v',w',r1,r2,r3⟩:=vO (k:=k) (nn:=0) (m:=news.length) (v:= .slice none 0 0) (xs:=dL []) (news:=dL news) (ty:=ty) s1 ht hi rfl (by decide) (by simpa using lb hk) (fL (lb hk) _) hx' (e6 _) (by simp only[maxLen];simp at hb;omega) (by simp at hb;omega);refine⟨v',w',r1,r2,?_⟩;rw[fk]at r3
   have:=r3.turn (q:=hX v' ([]++news) e) k (by simpa using lb hk) λh hh=>by
    rw[fL (lb hk)]at hh;refine qJ ?_;rw[←iO,bi,bG]at hh;exact hh
   rwa [fk]at this
 · obtain⟨i,hie,hz0,hsz,hby⟩:=info_parts hi
   obtain⟨hxl,hxx⟩:=hx;have hg:w.heap[g]?=some (.cells cur e (0,0)):=s1.block k (by simpa using lb hk) (fL (lb hk) _)
   by_cases hroom:bs.length+news.length≤cap
   · rcases hxx with⟨rfl,hm⟩| ⟨a0,c,rfl,hc⟩
     · have hn:news=[]:=List.eq_nil_of_length_eq_zero hm
       subst hn;refine⟨_,w,?_,qh w,by rw[aL,Dw hk hH];exact s⟩;simp[Builtin.append_,run_underlying ht,Go.sizeOf,typeInfo,hie,Builtin.lenOf,Builtin.firstCells,loadCells,loadCellsFrom,storeCells,h3]
     · have hfit:off+bs.length*i.size+(dL news).length≤cur.size:=by rw[hsz,gi,aW];omega
       refine⟨_,_,u6 (P:=P) w t ty e i ht hie g off bs.length cap cur hg a0 news.length c (dL news) (by rw[hsz,aW,gi]) (λj v hj=>hc w s j v hj) (e6 _) hroom hfit,⟨rfl,rfl,rfl,by simp⟩,?_⟩;have h2:=s1.write k (by simpa using lb hk) (fL (lb hk) _) (setRow_heap w g cur (cur.toList.take (off+bs.length*i.size)++dL news++cur.toList.drop (off+bs.length*i.size+(dL news).length)).toArray e _ hg) (λj hj=>setRow_other w g j _ hj);rw[fk]at h2
       have h7:=h2.turn (q:=hX (.slice (some ⟨g,off,none⟩) (bs.length+news.length) cap) (bs++news) e) k (by simpa using lb hk) (λh hh=>by
        rw[fL (lb hk)]at hh;rw[hsz,gi,aW]at hh;refine .inr ⟨g,off,cap,_,by rw[ac],hh,by rw[ac];exact hroom,h4,?_,?_⟩
        · simp only[List.size_toArray,ac,aZ,dP,Array.length_toList,aW]
          rw[hsz,gi,aW]at hfit;omega
        · simp only[aI]
          rw[ii (by simp only[aZ,Array.length_toList];rw[hsz,gi,aW]at hfit;omega),mD,cx,h6,←aI,←iO]
          rw[co (by rw[aW];exact aH _),az (by rw[aW];exact aH _)])
       rwa [fk]at h7
   · rcases hxx with⟨rfl,hm⟩| ⟨a0,c,rfl,hc⟩
     · omega
     · have holds: ∀j u,(dL bs)[j]?=some u→w.cell? ((⟨g,off,none⟩:Addr).add j)=some u:=λj u hj=>by
        rw[pV];rw[←h6,List.getElem?_take]at hj;split at hj
        · simpa [World.cell?,hg]using hj
        · cases hj
       have hr:=run_append_grow (P:=P) w t ty e i _ ht hie hz0 ⟨g,off,none⟩ bs.length cap (dL bs) (by rw[hsz,aW,gi]) holds a0 news.length c (dL news) (by rw[hsz,aW,gi]) (λj v hj=>hc w s j v hj) (by omega) (by omega) (growslice_fits (by omega) (by rw[hby];omega));refine⟨_,_,hr,⟨rfl,rfl,rfl,by simp⟩,QJ k (lb hk) (s.drew.alloc _) λh hh=>?_⟩;have hge:=grownCap_ge w (bs.length+news.length) cap e;refine .inr ⟨w.heap.size,0,_,_,by rw[ac],hh,by rw[ac];exact hge,grownCap_le_maxLen w (bs.length+news.length) cap e (by simp only[maxLen];omega),?_,?_⟩
       · simp only[Array.size_append,List.size_toArray,size_zeroCells,aW,bi]
         have:(Value.cells (.int .u8 0)).size=1:=rfl;rw[this,gi];omega
       · simp only[Array.toList_append,aI,ba]
         rw[←aI,←iO,←aW (bs++news)];exact mC
theorem TL.appendS{s x:Operand}{k:Nat}{v vx:Value}{bs news bs':List UInt8}{t e:TypeId}(hw:Want n D ops o L)
 (ho:o.op= .call {callee:= .builtin .append,args:=#[s,x],argTypes:=#[t,t]}) (hd:o.dst=some d) (hn:Nat.blt d n=true) (ht:P.underlying t=some (.slice e))
 (hi:(P.info? e).map (λi=>(i.zero,i.size,i.bytes))=some (some (.int .u8 0),1,1)) (hs:cL L s=some v) (hx:cL L x=some vx)
 (hk:Nat.blt k H.length=true) (hH:H.getD k (λ_=>True)=hX v bs e) (hsrc: ∀w,Sat H F w→Src (Sat H F) vx news.length (dL news) 1) (hb:bs.length+news.length≤140737488355328)
 (hxs:bs++news=bs') (h: ∀v',v'.oneCell'=true→TL P w0 F n ops Q l D ((d,v')::L) (H.set k (hX v' bs' e))):TL P w0 F n ops Q (o::l) D L H:=
 kV hw λa w f sm q=>by
  obtain⟨v',w',hr,s',q'⟩:=DG (ty:=o.type) q ht hi hk hH (hsrc w q) hb;unfold Oper.wp execOp;simp only[ho,resolve,invoke,builtin,Sem.run_bind,Sem.run_pure,Result.andThen_ok,qk,el,mP,f.eval hs,f.eval hx,hr];rw[Oper.upon_value,hd];subst hxs;have one:v'.oneCell'=true:=(q'.sub_len k (by simpa using hk) (fL (lb hk) _)).2;exact h v' one _ w' (f.put (lb hn) v') (sm.trans s') q'
theorem TL.subLen{v:Value}{bs:List UInt8}{e:Nat}(k:Nat)(hk:Nat.blt k H.length=true)(hH:H.getD k (λ_=>True)=hX v bs e)
 (h:p5 v bs.length→v.oneCell'=true→TL P w0 F n ops Q l D L H):TL P w0 F n ops Q l D L H:=zH (λw m=>m.sub_len k hk hH) λ⟨h1,h2⟩=>h h1 h2
end
theorem ux{v:Value}{z:Array Value}(h:v.oneCell'=true)(hz:z.size=1):Instr.fill (λi=>some (i*1,1)) z [(0,v)]=some #[v]:=by
 rw[Instr.fill,A3 h];simp only[g8,List.size_toArray,ah,ao,bi,hz,ne_eq,not_true_eq_false,decide_false,Bool.false_or];rw[if_neg (by simp)]
 have:(#[v].zipIdx.foldl (λcs (c,j)=>cs.setIfInBounds (0+j) c) z)=#[v]:=by
  match z,hz with
  | ⟨[x]⟩,_=>rfl
 simp only[bi]at this;simp only[Instr.fill];rw[this]
theorem Ei{x:Value}{bs:List UInt8}{F:Hl}(hx:IsW x bs F)(i:Nat){g T:Nat}{B:List HP}(hi:Nat.blt i B.length=true)(e:B.getD i (λ_=>True)=ak g [x] T): ∀h,Dj h F→bH B h→QS (.slice (some ⟨g,0,none⟩) 1 1) [bs] (jn h F):=λh d s=>
 .inr (.inr ⟨g,0,1,[x],T,(0,0),rfl,aH _,by decide,tV i hi e h d s,λj hj=>by
  obtain rfl:j=0:=by simpa using hj
  exact⟨[x],rfl,rfl,x,rfl,hx.more d⟩⟩)
theorem Eh(i n:Nat){g T:Nat}{bs:List UInt8}{B:List HP}{F:Hl}(hn:bs.length=n)(hl:n≤9223372036854775807)(hi:Nat.blt i B.length=true)(e:B.getD i (λ_=>True)=ak g (dL bs) T): ∀h,Dj h F→bH B h→IsB (.slice (some ⟨g,0,none⟩) n n) bs (jn h F):=by
 subst hn;exact MW i hl hi e
def eJ(us:List Value)(ls:List (List UInt8))(e:Nat):HP:=λh=>us.length=ls.length∧bH (List.zipWith (λu l=>hX u l e) us ls) h
abbrev mT(te e:Nat)(v:Value)(ls:List (List UInt8)):HP:=pack λus:List Value=>[own v ls.length us te 1,eJ us ls e]
theorem w6{α β γ:Type}(f:α→β→γ): ∀(us:List α) (ls:List β) (u:α) (l:β),us.length=ls.length→List.zipWith f (us++[u]) (ls++[l])=List.zipWith f us ls++[f u l]
 | [],[],_,_,_=>rfl
 | [],_::_,_,_,h=>by simp at h
 |_::_,[],_,_,h=>by simp at h
 |x::us,y::ls,u,l,h=>by simp[w6 f us ls u l (by simpa using h)]
theorem vw{us:List Value}{ls:List (List UInt8)}{e:Nat}{u:Value}{l:List UInt8}{H:List HP}{h:Hl}(s:bH (eJ us ls e::hX u l e::H) h):bH (eJ (us++[u]) (ls++[l]) e::H) h:=by
 have t:=nG.2 s;refine cM t (λh' x=>?_) λ_ x=>x
 obtain⟨h1,h2,d,rfl,⟨hl,a⟩,b⟩:=x;refine⟨by simp[hl],?_⟩;rw[w6 _ _ _ _ _ hl];exact(ci _ _).2 ⟨h1,h2,d,rfl,a,sI b⟩
theorem A5{e:Nat}{H:List HP}{h:Hl}(s:bH H h):bH (eJ [] [] e::H) h:=⟨em,h,Fm h,(sj h).symm,⟨rfl,trivial⟩,s⟩
theorem yT: ∀(us:List Value) (ls:List (List UInt8)) (e:Nat) (h:Hl),us.length=ls.length→bH (List.zipWith (λu l=>hX u l e) us ls) h→∀(j:Nat) (hj:j<ls.length),∃u,us[j]?=some u∧∃h1 h2,Dj h1 h2∧h=jn h1 h2∧hX u ls[j] e h1
 | [],[],_,_,_,_,j,hj=>by simp at hj
 | [],_::_,_,_,h,_,_,_=>by simp at h
 |_::_,[],_,_,h,_,_,_=>by simp at h
 |u::us,l::ls,e,h,hl,s,0,_=>by
  obtain⟨h1,h2,d,rfl,a,_⟩:=s;exact⟨u,rfl,h1,h2,d,rfl,a⟩
 |u::us,l::ls,e,h,hl,s,j+1,hj=>by
  obtain⟨h1,h2,d,rfl,_,b⟩:=s;obtain⟨u',e1,g1,g2,d',rfl,a⟩:=yT us ls e h2 (by simpa using hl) b j (by simpa using hj);refine⟨u',by simpa using e1,g1,jn h1 g2,?_,?_,a⟩
  · obtain⟨q1,q2⟩:=oz.1 d
    exact oz.2 ⟨q1.symm,d'⟩
  · rw[oj d,jO,oj (oz.1 d).2]
theorem Dc{v:Value}{bs:List UInt8}{e:Nat}{h1 G:Hl}(a:hX v bs e h1)(hG:Le h1 G):IsB v bs G:=by
 rcases a with⟨x1,x2,_⟩| ⟨g,off,cap,cur,x1,x2,x3,x4,x5,x6⟩
 · exact .inl ⟨x1,x2⟩
 · refine .inr ⟨g,off,cap,cur.toList,e,(0,0),x1,x3,by simpa [maxLen]using x4,hG _ _ (by rw[x2];simp[sg]),λj hj=>?_⟩
   have e1:=congrArg (λl:List Value=>l[j]?) x6;simp only[List.getElem?_take,if_pos hj,List.getElem?_drop]at e1;rw[e1];simp[dL,List.getD_eq_getElem?_getD,hj]
theorem vK(te e:Nat){H:List HP}{h:Hl}(s:bH H h):bH (mT te e (.slice none 0 0) []::H) h:=bv (p:=λus:List Value=>[own (.slice none 0 0) 0 us te 1,eJ us [] e]) [] (gI te 1 (A5 s))
theorem vM{te e:Nat}{v' u:Value}{us:List Value}{ls:List (List UInt8)}{l:List UInt8}{H:List HP}{h:Hl}(s:bH (own v' (ls.length+1) (us++[u]) te 1::eJ us ls e::hX u l e::H) h):bH (mT te e v' (ls++[l])::H) h:=
 bv (p:=λus:List Value=>[own v' (ls++[l]).length us te 1,eJ us (ls++[l]) e]) (us++[u]) (cM s (λ_ x=>by simpa using x) λ_ x=>vw x)
section
variable {P:Program} {w0:World} {F:Hl} {n:Nat} {ops:Array Oper} {Q:QQ} {D:List Deferred} {L:List (Nat×Value)} {H:List HP} {l:List Oper}
theorem TL.recsOpen{te e:Nat}{v:Value}{ls:List (List UInt8)}(h: ∀us,TL P w0 F n ops Q l D L (own v ls.length us te 1::eJ us ls e::H)):TL P w0 F n ops Q l D L (mT te e v ls::H):=
 Sf (λ_ s=>fK s) h
abbrev N3:= @TL.recsOpen
theorem vL{te e:Nat}{v:Value}{ls:List (List UInt8)}{h:Hl}(s:mT te e v ls h):p5 v ls.length∧v.oneCell'=true:=by
 obtain⟨us,g1,g2,d2,rfl,a1,_⟩:=s;rcases a1 with⟨q0,⟨q1,q2,_⟩| ⟨g,cap,cur,q1,_⟩⟩
 · subst q1
   have:ls=[]:=List.eq_nil_of_length_eq_zero q2;subst this;exact⟨⟨_,_,rfl⟩,rfl⟩
 · subst q1;exact⟨⟨_,_,rfl⟩,rfl⟩
theorem TL.recsLen{te e:Nat}{v:Value}{ls:List (List UInt8)}(k:Nat)(hk:Nat.blt k H.length=true)(hH:H.getD k (λ_=>True)=mT te e v ls)(h:p5 v ls.length→v.oneCell'=true→TL P w0 F n ops Q l D L H):TL P w0 F n ops Q l D L H:=
 zH (p:=p5 v ls.length∧v.oneCell'=true) (λw ⟨h,d,e',x⟩=>by
  obtain⟨h1,h2,d',rfl,a,_⟩:=eU k (lb hk) x;rw[hH]at a
  exact vL a) λ⟨h1,h2⟩=>h h1 h2
end
end Leg
namespace Leg
open Go Codec Api
section
variable {P:Program} {w0:World} {F:Hl} {n:Nat} {L:List (Nat×Value)} {H:List HP}
theorem TE.ret3{fn:Func}{post:Ending→List HP→Prop}{t t' t'':Nat}{v v' v'':Value}(hr:fn.results=#[.tmp t, .tmp t', .tmp t''])(e:lk L t=some v)(e':lk L t'=some v')(e'':lk L t''=some v'')(h:post (.returned (.tuple #[v,v',v''])) H):
 TE w0 F n (bodyPost P fn (kc post w0 F)) .ret [] L H:=λa w f s m=>by
 refine bodyPost_ret (results_tmp3 hr _ _ _) f.2.1 ⟨s,H,m,?_⟩;have h1:=f.eval (x:= .tmp t) e;have h2:=f.eval (x:= .tmp t') e';have h3:=f.eval (x:= .tmp t'') e'';rw[show a.tmps.getD t undef=v from h1,show a.tmps.getD t' undef=v' from h2,show a.tmps.getD t'' undef=v'' from h3];exact h
abbrev n6:= @TE.ret3
end
theorem sB{l:List UInt8}{j:Nat}(h:j<l.length):(dL l)[j]?=some (.int .u8 (((l.getD j 0).toNat:Nat):Int)):=by simp[dL,List.getD_eq_getElem?_getD,h]
theorem M8{a:Addr}{m c k:Nat}(hc:0<c):ku (.slice (some a) m c) 0 k= .slice (some a) k c:=by
 simp only[ku,if_neg (show ¬c=0 by omega),Option.map_some,Nat.sub_zero];rfl
end Leg
namespace Leg
open Go Codec Api
section
variable {P:Program} {w0:World} {F:Hl} {n:Nat} {ops:Array Oper} {Q:QQ} {D:List Deferred} {L:List (Nat×Value)} {H:List HP} {o:Oper} {l:List Oper} {d:Nat} {S:World→Prop}
end
theorem Bx(bs:List UInt8):Lib.strCells ⟨bs.toArray⟩=dL bs:=by simp[Lib.strCells,dL]
theorem xr(bs:List UInt8):(⟨bs.toArray⟩:ByteArray).size=bs.length:=by simp[ByteArray.size]
section
variable {P:Program} {w0:World} {F:Hl} {n:Nat} {ops:Array Oper} {Q:QQ} {D:List Deferred} {L:List (Nat×Value)} {H:List HP} {o:Oper} {l:List Oper} {d:Nat} {S:World→Prop}
theorem DF{w:World}{k nn:Nat}{v:Value}{xs:List Value}{bs:List UInt8}{t u ty e:Nat}(s:Sat H F w)(ht:P.underlying t=some (.slice e))(hu:P.underlying u=some .string)
 (hi:(P.info? e).map (λi=>(i.zero,i.size,i.bytes))=some (some (.int .u8 0),1,1)) (hk:k<H.length) (hH:H.getD k (λ_=>True)=own v nn xs e 1) (hb:nn+bs.length≤maxLen) (hby:nn+bs.length≤140737488355328):
 ∃v' w',(Builtin.append_ #[t,u] ty #[v,iZ bs]).run P w= .ok v' w'∧Same w w'∧Sat (H.set k (own v' (nn+bs.length) (xs++dL bs) e 1)) F w':=by
 obtain⟨i,hie,hz0,hs1,hb1⟩:=info_parts hi;have hlx:=s.own_len hk hH;have hsz:=xr bs;have hsc:=Bx bs;have hll:(xs++dL bs).length=(nn+bs.length)*1:=by rw[ac,hlx,aW,fC];omega
 have hsmall:nn+bs.length≤9223372036854775807:=by simp only[maxLen]at hb;omega
 have hz1:(Value.int IntKind.u8 0).cells.size=1:=rfl
 have fresh: ∀old,old<nn+bs.length→(∀h,zb w.heap.size (.cells (xs.toArray++(dL bs).toArray++Builtin.zeroCells (Value.int .u8 0).cells (grownCap w (nn+bs.length) old e- (nn+bs.length))) e) h→
  own (.slice (some ⟨w.heap.size,0,none⟩) (nn+bs.length) (grownCap w (nn+bs.length) old e)) (nn+bs.length) (xs++dL bs) e 1 h):=λold _ h hh=>by
  have hge:=grownCap_ge w (nn+bs.length) old e;refine⟨hll, .inr ⟨_,_,_,rfl,hh,hge,grownCap_le_maxLen w (nn+bs.length) old e hb,?_,?_⟩⟩
  · simp only[Array.size_append,List.size_toArray,size_zeroCells,hz1,hlx,aW]
    omega
  · simp only[Array.toList_append,aI]
    rw[←aI,←hll];exact mC
 have same: ∀ob,Same w (w.drew.alloc ob):=λob=>⟨rfl,rfl,rfl,by simp⟩
 have u0:bs.length=0→dL bs=[]:=λhm=>List.eq_nil_of_length_eq_zero (by rw[aW];exact hm)
 rcases s.own_form hk hH with⟨rfl,rfl,rfl⟩| ⟨g,cap,rfl⟩
 · by_cases hm:bs.length=0
   · have hn:=u0 hm
     refine⟨.slice none 0 0,w,?_,qh w,s.turn k hk (λh hh=>by rw[hH]at hh;rw[hm,hn];simpa using hh)⟩;have hf:=Lib.run_firstCells_string (P:=P) w 1 ⟨bs.toArray⟩;rw[hsz,hm]at hf;simp[Builtin.append_,run_underlying ht,run_underlying hu,Go.sizeOf,typeInfo,hie,hs1,Builtin.lenOf,hsz,hm,hf]
   · have hr:=run_append_nil_string (P:=P) w t u ty e i (.int .u8 0) ht hu hie hz0 ⟨bs.toArray⟩ (by rw[hsz];omega) (by rw[hsz];omega) (by rw[hsz,hb1];omega)
     have e1:((⟨bs.toArray⟩:ByteArray).data.map λb=>Value.int .u8 b.toNat)=(dL bs).toArray:=by
      rw[←hsc];apply Array.ext';simp[Lib.strCells]
     rw[e1,hsz]at hr;refine⟨_,_,hr,same _,?_⟩;have:=fresh 0 (by omega);simp only[bi,bG,Array.empty_append]at this ⊢;exact QJ k hk (s.drew.alloc _) this
 · obtain⟨cur,hH1,hnc,hcm,hcs,htake⟩:=s.own_open hk hH
   have hlen:k< (H.set k (zb g (.cells cur e (0,0)))).length:=by simpa using hk
   have hg:=hH1.block k hlen (fL hk _);have hcs':cur.size=cap:=by simpa using hcs
   by_cases hroom:nn+bs.length≤cap
   · have hr:=Lib.run_append_room_string (P:=P) w t u ty e i ht hu hie hs1 g nn cap cur hg ⟨bs.toArray⟩ (by rw[hsz];exact hroom) (by rw[hsz];omega)
     rw[hsz,hsc]at hr;have h2:=hH1.write k hlen (fL hk _) (setRow_heap w g cur (cur.toList.take nn++dL bs++cur.toList.drop (nn+bs.length)).toArray e _ hg) (λj hj=>setRow_other w g j _ hj);rw[fk]at h2
     have h3:=h2.turn (q:=own (.slice (some ⟨g,0,none⟩) (nn+bs.length) cap) (nn+bs.length) (xs++dL bs) e 1) k (by simpa using hk) (λh hh=>by
      rw[fL hk]at hh;refine⟨hll, .inr ⟨g,cap,_,rfl,hh,hroom,hcm,?_,?_⟩⟩
      · simp only[List.size_toArray,ac,aZ,dP,Array.length_toList,aW]
        omega
      · have ht':cur.toList.take nn=xs:=by simpa using htake
        rw[ht',←hll]
        exact mC)
     rw[fk]at h3;exact⟨_,_,hr,⟨rfl,rfl,rfl,by simp⟩,h3⟩
   · have holds: ∀j u,xs[j]?=some u→w.cell? ((⟨g,0,none⟩:Addr).add j)=some u:=λj u hj=>by
      rw[pV];subst htake;rw[List.getElem?_take]at hj;split at hj
      · simpa [World.cell?,hg]using hj
      · cases hj
     have hr:=Lib.run_append_grow_string (P:=P) w t u ty e i (.int .u8 0) ht hu hie hz0 ⟨g,0,none⟩ nn cap xs (by rw[hs1];simpa using hlx) holds ⟨bs.toArray⟩ (by rw[hsz];omega) (by rw[hsz];omega) (by rw[hsz,hb1];exact growslice_fits (by omega) (by omega));rw[hsz,hsc]at hr;exact⟨_,_,hr,same _,QJ k hk (s.drew.alloc _) (fresh cap (by omega))⟩
theorem TL.appendT{s x:Operand}{k:Nat}{v:Value}{bs ys:List UInt8}{t u e:Nat}(hw:Want n D ops o L)
 (ho:o.op= .call {callee:= .builtin .append,args:=#[s,x],argTypes:=#[t,u]}) (hd:o.dst=some d) (hn:Nat.blt d n=true) (ht:P.underlying t=some (.slice e)) (hu:P.underlying u=some .string)
 (hi:(P.info? e).map (λi=>(i.zero,i.size,i.bytes))=some (some (.int .u8 0),1,1)) (hs:cL L s=some v) (hx:cL L x=some (iZ ys))
 (hk:Nat.blt k H.length=true) (hH:H.getD k (λ_=>True)=cw v bs e) (hb:bs.length+ys.length≤maxLen) (hby:bs.length+ys.length≤140737488355328)
 (h: ∀v',v'.oneCell'=true→TL P w0 F n ops Q l D ((d,v')::L) (H.set k (cw v' (bs++ys) e))):TL P w0 F n ops Q (o::l) D L H:=
 kV hw λa w f sm q=>by
  obtain⟨v',w',hr,s',q'⟩:=DF (ty:=o.type) (bs:=ys) q ht hu hi (lb hk) hH hb hby
  have e2:own v' (bs.length+ys.length) (dL bs++dL ys) e 1=cw v' (bs++ys) e:=by
   unfold cw;rw[ac,iO]
  have one:v'.oneCell'=true:=by
   rcases q'.own_form (i:=k) (by simpa using lb hk) (fL (lb hk) _)with⟨rfl,_⟩| ⟨g,c,rfl⟩<;>rfl
  rw[e2]at q';unfold Oper.wp execOp;simp only[ho,resolve,invoke,builtin,Sem.run_bind,Sem.run_pure,Result.andThen_ok,qk,el,mP,f.eval hs,f.eval hx,hr];rw[Oper.upon_value,hd];exact h v' one _ w' (f.put (lb hn) v') (sm.trans s') q'
end
section
variable {P:Program} {w0:World} {F:Hl} {n:Nat} {ops:Array Oper} {Q:QQ} {D:List Deferred} {L:List (Nat×Value)} {H:List HP} {o:Oper} {l:List Oper} {d:Nat} {S:World→Prop}
theorem Ji{w:World}{g:Nat}{cur:Array Value}{e:TypeId}(hg:w.heap[g]?=some (.cells cur e (0,0))){m:Nat}(hm:0<m):(w.freeze ⟨g,0,none⟩ m).heap[g]?=some (.cells cur e (0,m))∧(∀j,j≠g→(w.freeze ⟨g,0,none⟩ m).heap[j]?=w.heap[j]?)∧Same w (w.freeze ⟨g,0,none⟩ m):=by
 unfold World.freeze;rw[if_neg (by omega)];refine⟨?_,λj hj=>?_,⟨rfl,rfl,rfl,by simp⟩⟩
 · simp only[Array.getElem?_modify,hg]
   simp
 · simp only[Array.getElem?_modify]
   rw[if_neg (λe=>hj e.symm)]
theorem TL.unsafeStr{x y:Operand}{k g cap:Nat}{bs:List UInt8}{pt it e:TypeId}(hw:Want n D ops o L)(ho:o.op= .call {callee:= .builtin .unsafeString,args:=#[x,y],argTypes:=#[pt,it]})(hd:o.dst=some d)(hn:Nat.blt d n=true)
 (hp:P.underlying pt=some (.pointer e)) (hc:P.cellsOf e=1) (hx:cL L x=some (.pointer (some ⟨g,0,none⟩))) (hy:cL L y=some (.int .i64 ((bs.length:Nat):Int)))
 (hk:Nat.blt k H.length=true) (hH:H.getD k (λ_=>True)=cw (.slice (some ⟨g,0,none⟩) bs.length cap) bs e) (h0:0<bs.length) (h63:bs.length≤9223372036854775807)
 (h:TL P w0 F n ops Q l D ((d,iZ bs)::L) (H.set k (λ_=>True))):TL P w0 F n ops Q (o::l) D L H:=
 kV hw λa w f sm q=>by
  obtain⟨cur,hH1,hnc,hcm,hcs,htake⟩:=q.own_open (lb hk) hH;have hlen:k< (H.set k (zb g (.cells cur e (0,0)))).length:=by simpa using lb hk
  have hg:=hH1.block k hlen (fL (lb hk) _);have hcs':cur.size=cap:=by simpa using hcs
  have hcell: ∀j x,bs[j]?=some x→w.cell? ((⟨g,0,none⟩:Addr).add j)=some (.int .u8 x.toNat):=λj x hj=>by
   rw[pV];have hj':(dL bs)[j]?=some (.int .u8 ((x.toNat:Nat):Int)):=by simp[dL,hj]
   rw[←htake,List.getElem?_take]at hj';split at hj'
   · simpa [World.cell?,hg]using hj'
   · cases hj'
  have hr:=Lib.run_unsafeString_row (P:=P) w pt it o.type e hp hc g cur.size (by simp[World.shape?,hg]) bs (λe=>by rw[e]at h0;exact absurd h0 (by decide)) (by omega) h63 hcell;obtain⟨h1,h2,h3⟩:=Ji hg h0;have q':=hH1.write k hlen (fL (lb hk) _) h1 h2;rw[fk]at q';have q2:=q'.turn (q:=λ_=>True) k (by simpa using lb hk) (λ_ _=>trivial);rw[fk]at q2;unfold Oper.wp execOp;simp only[ho,resolve,invoke,builtin,Sem.run_bind,Sem.run_pure,Result.andThen_ok,qk,el,mP,f.eval hx,f.eval hy,hr];rw[Oper.upon_value,hd];exact h _ _ (f.put (lb hn) (iZ bs)) (sm.trans h3) q2
theorem PV.sliceData{t:TypeId}{x:Operand}{g m cap:Nat}(ho:o.op= .call {callee:= .builtin .unsafeSliceData,args:=#[x],argTypes:=#[t]})(hx:cL L x=some (.slice (some ⟨g,0,none⟩) m cap))(hc:0<cap):PV P n D L S o (.pointer (some ⟨g,0,none⟩)):=λa w f _=>by
 have:=Lib.run_unsafeSliceData_row (P:=P) (w:=w) #[t] o.type ⟨g,0,none⟩ m cap (by omega);simp[execOp,ho,resolve,invoke,builtin,f.eval hx,this]
end
section
variable {P:Program} {w0:World} {F:Hl} {n:Nat} {ops:Array Oper} {Q:QQ} {D:List Deferred} {L:List (Nat×Value)} {H:List HP} {o:Oper} {l:List Oper} {d:Nat} {S:World→Prop}
theorem Mq(bs:List UInt8)(a b:Nat):(⟨bs.toArray⟩:ByteArray).extract a b=⟨((bs.take b).drop a).toArray⟩:=by
 apply ByteArray.ext;simp[ByteArray.data_extract,mD]
theorem PV.strTo{t:TypeId}{x z:Operand}{bs:List UInt8}{hi:Nat}{k':IntKind}{j:Int}(ho:o.op= .slice t x none (some z) none)(ht:P.underlying t=some .string)(hx:cL L x=some (iZ bs))(hz:cL L z=some (.int k' j))(hj:j=(hi:Int))(h2:hi≤bs.length):PV P n D L S o (iZ (bs.take hi)):=
 λb w g _=>by
  subst hj;simp only[execOp,ho,g.eval hx,Option.map_some,Option.map_none,g.eval hz];have hs:=xr bs;simp[Instr.sliceAt,Instr.slice,run_underlying ht,Instr.sliceBounds,Instr.sliceBound,asIntOf,hs,h2,Mq]
theorem PV.strLen{t:TypeId}{x:Operand}{bs:List UInt8}(ho:o.op= .call {callee:= .builtin .len,args:=#[x],argTypes:=#[t]})(ht:P.underlying t=some .string)(hx:cL L x=some (iZ bs)):PV P n D L S o (.int .i64 ((bs.length:Nat):Int)):=λb w g _=>by
 have hs:=xr bs;simp[execOp,ho,resolve,g.eval hx,invoke,builtin,Builtin.len_,run_underlying ht,goInt,hs]
theorem PV.toUnsafe{t t' u e:TypeId}{x:Operand}{b j m:Nat}{cs:List Value}{z:Nat×Nat}(ho:o.op= .convert t t' x)(ht:P.underlying t=some (.pointer u))(ht':P.underlying t'=some .unsafePointer)(hs:(P.info? u).map (·.size)=some (m+1))(hx:cL L x=some (.pointer (some ⟨b,j,none⟩)))
 (hR:Rd S b (.cells cs.toArray e z)) (hj:j<cs.length):PV P n D L S o (.pointer (some ⟨b,j,none⟩)):=λa w g q=>by
 obtain⟨i,hu,hi0⟩:=Option.map_eq_some_iff.1 hs;have hi:i.size≠0:=by rw[hi0];exact Nat.succ_ne_zero m
 have hb:=hR w q;have:=Lib.run_to_unsafe (P:=P) w ⟨b,j,none⟩ ht ht' hu hi (e:=e) (cells:=cs.length) (by simp[World.shape?,hb]) hj;simp[execOp,ho,g.eval hx,this]
theorem PV.ofUnsafe{t t' u e:TypeId}{x:Operand}{b j k:Nat}{cs:List Value}{z:Nat×Nat}(ho:o.op= .convert t t' x)(ht:P.underlying t=some .unsafePointer)(ht':P.underlying t'=some (.pointer u))(hs:(P.info? u).map (·.size)=some k)(hx:cL L x=some (.pointer (some ⟨b,j,none⟩)))
 (hR:Rd S b (.cells cs.toArray e z)) (hl:liesAt P P.depth e (cs.length / P.cellsOf e) j u 1=true):PV P n D L S o (.pointer (some ⟨b,j,none⟩)):=λa w g q=>by
 obtain⟨i,hu,_⟩:=Option.map_eq_some_iff.1 hs;have hb:=hR w q;have:=Lib.run_from_unsafe (P:=P) w ⟨b,j,none⟩ ht ht' hu (e:=e) (cells:=cs.length) (by simp[World.shape?,hb]) hl;simp[execOp,ho,g.eval hx,this]
theorem PV.ptrNeqSame{t t' te k:TypeId}{x y:Operand}{a:Addr}(ho:o.op= .binOp .neq t x y t')(ht:P.underlying t=some (.pointer te))(hs:(P.info? te).map (·.size)=some k)(hx:cL L x=some (.pointer (some a)))(hy:cL L y=some (.pointer (some a))):PV P n D L S o (.bool false):=
 gl ho hx hy (λw=>by
  obtain⟨i,hi,_⟩:=Option.map_eq_some_iff.1 hs;have:=Lib.run_neq_ptr_same (P:=P) w a ht hi
  simpa [eqGuard]using this)
theorem PV.noEscape {f : FuncId} {fn : Func} {x : Operand} {ts : Array TypeId} {v : Value} (ho : o.op = .call { callee := .value (.func f), args := #[x], argTypes := ts }) (hf : P.funcs[f]? = some fn) (hname : (fn.name == "runtime.NumGoroutine") = false) (hb : fn.body.isNone = true) (hn : Extern.findNext fn = none)
 (he:Extern.find fn=some Extern.AbiNoEscape.same) (hx:cL L x=some v):PV P n D L S o v:=λa w g _=>by
 have h:=run_callFunc_extern hf hname hb hn he #[v] w;rw[Lib.run_noEscape]at h;have hr:(callFunc f #[v]).run P w= .ok (.value v) w:=h;have e:(#[x].map a.eval)=#[v]:=by simp[g.eval hx]
 simp only[execOp,ho,resolve];rw[e];simp[Act.eval,Deferred.ofValue,invoke,hr]
end
end Leg
end

namespace Go.Proofs.YtfocodjhmkokpaaGreatDoor
abbrev Y3:=Tryz.underlying3
abbrev Y4:=Tryz.underlying4
abbrev Y5:=Tryz.underlying5
abbrev Y9:=Tryz.underlying9
abbrev Rc:=Tryz.underlying22
abbrev QH:=Tryz.underlying25
abbrev uG:=Tryz.underlying28
abbrev ke:=Tryz.underlying30
abbrev eO:=Tryz.underlying32
abbrev nw:=Tryz.underlying35
abbrev CB:=Tryz.underlying36
abbrev N2:=Tryz.underlying37
abbrev ec:=Tryz.underlying39
abbrev jx:=Tryz.underlying41
abbrev HI:=Tryz.underlying43
abbrev Ni:=Tryz.underlying47
abbrev gA:=Tryz.underlying53
abbrev n5:=Tryz.underlying61
abbrev gk:=Tryz.underlying63
abbrev Md:=Tryz.underlying67
abbrev JD:=Tryz.underlying68
abbrev Nh:=Tryz.underlying69
abbrev wE:=Tryz.underlying70
abbrev Rb:=Tryz.underlying71
abbrev qp:=Tryz.underlying73
abbrev JC:=Tryz.underlying75
abbrev OY:=Tryz.underlying78
abbrev kG:=Tryz.underlying80
abbrev qo:=Tryz.underlying82
abbrev qf:=Tryz.underlying83
abbrev QG:=Tryz.underlying85
abbrev dw:=Tryz.underlying87
abbrev Mc:=Tryz.underlying94
abbrev N1:=Tryz.underlying98
abbrev zG:=Tryz.underlying100
abbrev JF:=Tryz.underlying102
abbrev GT:=Tryz.underlying113
abbrev Cz:=Tryz.underlying131
abbrev zF:=Tryz.underlying137
abbrev jz:=Tryz.underlying138
abbrev ia:=Tryz.underlying140
abbrev wG:=Tryz.underlying141
abbrev en:=Tryz.underlying146
abbrev bj:=Tryz.underlying163
abbrev qg:=Tryz.underlying173
abbrev pW:=Tryz.underlying175
abbrev wF:=Tryz.underlying182
abbrev Fe:=Tryz.underlying184
abbrev rX:=Tryz.underlying186
abbrev j5:=Tryz.underlying207
abbrev Cy:=Tryz.underlying219
abbrev JE:=Tryz.underlying221
abbrev Nj:=Tryz.underlying237
abbrev L0:=Tryz.underlying247
abbrev Cx:=Tryz.underlying254
end Go.Proofs.YtfocodjhmkokpaaGreatDoor
section
namespace Go.Proofs.YtfocodjhmkokpaaGreatDoor
open Go Leg
theorem aR:(Tryz.prog.info? 3).map (·.size)=some 1:=by kernel_rfl
theorem p2:(Tryz.prog.info? 3).map (λi=>(i.zero,i.size,i.bytes))=some (some (.int .i64 0),1,8):=by kernel_rfl
theorem lK:(Tryz.prog.info? 4).map (·.size)=some 1:=by kernel_rfl
theorem z4:(Tryz.prog.info? 4).map (·.zero)=some (some (.bool false)):=by kernel_rfl
theorem l5:(Tryz.prog.info? 5).map (·.size)=some 1:=by kernel_rfl
theorem yA:(Tryz.prog.info? 5).map (λi=>(i.zero,i.size,i.bytes))=some (some (.int .u8 0),1,1):=by kernel_rfl
theorem Mp:(Tryz.prog.info? 25).map (·.size)=some 1:=by kernel_rfl
theorem kI:(Tryz.prog.info? 28).map (·.size)=some 1:=by kernel_rfl
theorem e8:(Tryz.prog.info? 30).map (·.size)=some 5:=by kernel_rfl
theorem Pb:(Tryz.prog.info? 30).map (·.zero)=some (some (.agg #[.int .i64 0, .int .i64 0, .int .i64 0, .int .i64 0, .int .i64 0])):=by kernel_rfl
theorem bm:(Tryz.prog.info? 32).map (·.size)=some 7:=by kernel_rfl
theorem tj:(Tryz.prog.info? 32).map (·.zero)=some (some (.agg #[.int .i64 0, .int .i64 0, .int .i64 0, .int .i64 0, .int .i64 0, .int .i64 0, .int .i64 0])):=by kernel_rfl
theorem fN:(Tryz.prog.info? 35).map (·.size)=some 7:=by kernel_rfl
theorem L8:(Tryz.prog.info? 35).map (·.zero)=some (some (.agg #[.int .i64 0, .int .i64 0, .int .i64 0, .int .i64 0, .int .i64 0, .int .i64 0, .int .i64 0])):=by kernel_rfl
theorem ma:(Tryz.prog.info? 36).map (·.size)=some 28:=by kernel_rfl
theorem C9:(Tryz.prog.info? 37).map (·.size)=some 140:=by kernel_rfl
theorem bg:(Tryz.prog.info? 39).map (·.size)=some 174:=by kernel_rfl
theorem vD:(Tryz.prog.info? 39).map (·.zero)=some (some (.agg (Api.ints Api.RowT.zero.flat).toArray)):=by kernel_rfl
theorem zi:(Tryz.prog.info? 43).map (·.size)=some 1:=by kernel_rfl
theorem Pi:(Tryz.prog.info? 45).map (·.size)=some 1:=by kernel_rfl
theorem H6:(Tryz.prog.info? 47).map (·.size)=some 3:=by kernel_rfl
theorem Je:(Tryz.prog.info? 47).map (λi=>(i.zero,i.size,i.bytes))=some (some (.agg #[.int .i64 0, .int .i64 0, .int .i64 0]),3,24):=by kernel_rfl
theorem Se:(Tryz.prog.info? 47).map (·.zero)=some (some (.agg #[.int .i64 0, .int .i64 0, .int .i64 0])):=by kernel_rfl
theorem ld:(Tryz.prog.info? 53).map (·.size)=some 1:=by kernel_rfl
theorem Jd:(Tryz.prog.info? 53).map (λi=>(i.zero,i.size,i.bytes))=some (some (.slice none 0 0),1,24):=by kernel_rfl
theorem z53:(Tryz.prog.info? 53).map (·.zero)=some (some (.slice none 0 0)):=by kernel_rfl
theorem fT:(Tryz.prog.info? 61).map (·.size)=some 3:=by kernel_rfl
theorem Q7:(Tryz.prog.info? 61).map (·.zero)=some (some (.agg #[.int .i64 0, .int .i64 0, .int .i64 0])):=by kernel_rfl
theorem C8:(Tryz.prog.info? 63).map (·.size)=some 11:=by kernel_rfl
theorem Sl:(Tryz.prog.info? 63).map (·.zero)=some (some (.agg #[.int .i64 0, .int .i64 0, .int .i64 0, .int .i64 0, .int .i64 0, .int .i64 0, .int .i64 0, .int .i64 0, .int .i64 0, .int .i64 0, .int .i64 0])):=by kernel_rfl
theorem C7:(Tryz.prog.info? 67).map (·.size)=some 1:=by kernel_rfl
theorem ww:(Tryz.prog.info? 68).map (·.size)=some 1:=by kernel_rfl
theorem Bv:(Tryz.prog.info? 69).map (·.size)=some 5:=by kernel_rfl
theorem p9:(Tryz.prog.info? 70).map (·.size)=some 5:=by kernel_rfl
theorem Sd:(Tryz.prog.info? 70).map (·.zero)=some (some (.agg #[.pointer none, .pointer none, .pointer none, .pointer none, .pointer none])):=by kernel_rfl
theorem Mo:(Tryz.prog.info? 71).map (·.size)=some 5:=by kernel_rfl
theorem Ri:(Tryz.prog.info? 74).map (·.size)=some 1:=by kernel_rfl
theorem Ob:(Tryz.prog.info? 76).map (·.size)=some 5:=by kernel_rfl
theorem cH:(Tryz.prog.info? 80).map (·.size)=some 2:=by kernel_rfl
theorem Q6:(Tryz.prog.info? 80).map (·.zero)=some (some (.agg #[.int .i64 0, .int .i64 0])):=by kernel_rfl
theorem fV:(Tryz.prog.info? 82).map (·.size)=some 8:=by kernel_rfl
theorem JK:(Tryz.prog.info? 82).map (·.zero)=some (some (.agg #[.int .i64 0, .int .i64 0, .int .i64 0, .int .i64 0, .int .i64 0, .int .i64 0, .int .i64 0, .int .i64 0])):=by kernel_rfl
theorem nF:(Tryz.prog.info? 83).map (·.size)=some 1:=by kernel_rfl
theorem Sc:(Tryz.prog.info? 94).map (·.zero)=some (some (.agg #[.int .i64 0, .int .i64 0, .int .i64 0, .int .i64 0, .int .i64 0, .int .i64 0, .int .i64 0, .int .i64 0, .int .i64 0, .int .i64 0, .int .i64 0, .int .i64 0, .int .i64 0, .int .i64 0, .int .i64 0, .int .i64 0, .int .i64 0, .int .i64 0, .int .i64 0, .int .i64 0, .int .i64 0, .int .i64 0, .int .i64 0, .int .i64 0, .int .i64 0, .int .i64 0, .int .i64 0, .int .i64 0, .int .i64 0, .int .i64 0, .int .i64 0, .int .i64 0, .int .i64 0, .int .i64 0, .int .i64 0])):=by kernel_rfl
theorem Ke:(Tryz.prog.info? 98).map (·.size)=some 1:=by kernel_rfl
theorem xq:(Tryz.prog.info? 100).map (·.size)=some 2:=by kernel_rfl
theorem Kf:(Tryz.prog.info? 131).map (·.size)=some 1:=by kernel_rfl
theorem Ns:(Tryz.prog.info? 132).map (·.size)=some 5:=by kernel_rfl
theorem Nr:(Tryz.prog.info? 133).map (·.size)=some 25:=by kernel_rfl
theorem Da:(Tryz.prog.info? 137).map (·.size)=some 1:=by kernel_rfl
theorem hO:(Tryz.prog.info? 138).map (·.size)=some 1:=by kernel_rfl
theorem fW:(Tryz.prog.info? 146).map (·.size)=some 189:=by kernel_rfl
theorem JL:(Tryz.prog.info? 146).map (·.zero)=some (some (.agg (Api.ints Api.RecT.zero.flat).toArray)):=by kernel_rfl
theorem cp:(Tryz.prog.info? 163).map (·.size)=some 192:=by kernel_rfl
theorem mZ:(Tryz.prog.info? 163).map (·.zero)=some (some (.agg (Api.ints Api.MsgT.zero.flat).toArray)):=by kernel_rfl
theorem j7:(Tryz.prog.info? 173).map (·.size)=some 64:=by kernel_rfl
theorem z173:(Tryz.prog.info? 173).map (·.zero)=some (some (.agg #[.int .u8 0, .int .u8 0, .int .u8 0, .int .u8 0, .int .u8 0, .int .u8 0, .int .u8 0, .int .u8 0, .int .u8 0, .int .u8 0, .int .u8 0, .int .u8 0, .int .u8 0, .int .u8 0, .int .u8 0, .int .u8 0, .int .u8 0, .int .u8 0, .int .u8 0, .int .u8 0, .int .u8 0, .int .u8 0, .int .u8 0, .int .u8 0, .int .u8 0, .int .u8 0, .int .u8 0, .int .u8 0, .int .u8 0, .int .u8 0, .int .u8 0, .int .u8 0, .int .u8 0, .int .u8 0, .int .u8 0, .int .u8 0, .int .u8 0, .int .u8 0, .int .u8 0, .int .u8 0, .int .u8 0, .int .u8 0, .int .u8 0, .int .u8 0, .int .u8 0, .int .u8 0, .int .u8 0, .int .u8 0, .int .u8 0, .int .u8 0, .int .u8 0, .int .u8 0, .int .u8 0, .int .u8 0, .int .u8 0, .int .u8 0, .int .u8 0, .int .u8 0, .int .u8 0, .int .u8 0, .int .u8 0, .int .u8 0, .int .u8 0, .int .u8 0])):=by kernel_rfl
theorem mR:(Tryz.prog.info? 175).map (·.size)=some 65:=by kernel_rfl
theorem mX:(Tryz.prog.info? 175).map (λi=>(i.zero,i.size,i.bytes))=some (some (.agg #[.int .i64 0, .int .u8 0, .int .u8 0, .int .u8 0, .int .u8 0, .int .u8 0, .int .u8 0, .int .u8 0, .int .u8 0, .int .u8 0, .int .u8 0, .int .u8 0, .int .u8 0, .int .u8 0, .int .u8 0, .int .u8 0, .int .u8 0, .int .u8 0, .int .u8 0, .int .u8 0, .int .u8 0, .int .u8 0, .int .u8 0, .int .u8 0, .int .u8 0, .int .u8 0, .int .u8 0, .int .u8 0, .int .u8 0, .int .u8 0, .int .u8 0, .int .u8 0, .int .u8 0, .int .u8 0, .int .u8 0, .int .u8 0, .int .u8 0, .int .u8 0, .int .u8 0, .int .u8 0, .int .u8 0, .int .u8 0, .int .u8 0, .int .u8 0, .int .u8 0, .int .u8 0, .int .u8 0, .int .u8 0, .int .u8 0, .int .u8 0, .int .u8 0, .int .u8 0, .int .u8 0, .int .u8 0, .int .u8 0, .int .u8 0, .int .u8 0, .int .u8 0, .int .u8 0, .int .u8 0, .int .u8 0, .int .u8 0, .int .u8 0, .int .u8 0, .int .u8 0]),65,72):=by kernel_rfl
theorem HN:(Tryz.prog.info? 175).map (·.zero)=some (some (.agg #[.int .i64 0, .int .u8 0, .int .u8 0, .int .u8 0, .int .u8 0, .int .u8 0, .int .u8 0, .int .u8 0, .int .u8 0, .int .u8 0, .int .u8 0, .int .u8 0, .int .u8 0, .int .u8 0, .int .u8 0, .int .u8 0, .int .u8 0, .int .u8 0, .int .u8 0, .int .u8 0, .int .u8 0, .int .u8 0, .int .u8 0, .int .u8 0, .int .u8 0, .int .u8 0, .int .u8 0, .int .u8 0, .int .u8 0, .int .u8 0, .int .u8 0, .int .u8 0, .int .u8 0, .int .u8 0, .int .u8 0, .int .u8 0, .int .u8 0, .int .u8 0, .int .u8 0, .int .u8 0, .int .u8 0, .int .u8 0, .int .u8 0, .int .u8 0, .int .u8 0, .int .u8 0, .int .u8 0, .int .u8 0, .int .u8 0, .int .u8 0, .int .u8 0, .int .u8 0, .int .u8 0, .int .u8 0, .int .u8 0, .int .u8 0, .int .u8 0, .int .u8 0, .int .u8 0, .int .u8 0, .int .u8 0, .int .u8 0, .int .u8 0, .int .u8 0, .int .u8 0])):=by kernel_rfl
theorem vG:(Tryz.prog.info? 182).map (·.size)=some 1:=by kernel_rfl
theorem Rh:(Tryz.prog.info? 219).map (·.zero)=some (some (.agg #[.slice none 0 0])):=by kernel_rfl
theorem Pj:(Tryz.prog.info? 221).map (·.size)=some 0:=by kernel_rfl
theorem Rg:(Tryz.prog.info? 221).map (·.zero)=some (some (.agg #[])):=by kernel_rfl
theorem Pc:(Tryz.prog.info? 247).map (·.zero)=some (some (.agg #[.slice none 0 0])):=by kernel_rfl
theorem So:Named Tryz.prog 7:=⟨Tryz.f7,Tryz.func7,by kernel_rfl,by kernel_rfl⟩
theorem Sn:Named Tryz.prog 8:=⟨Tryz.f8,Tryz.func8,by kernel_rfl,by kernel_rfl⟩
theorem Sm:Named Tryz.prog 9:=⟨Tryz.f9,Tryz.func9,by kernel_rfl,by kernel_rfl⟩
theorem vh:Named Tryz.prog 10:=⟨Tryz.f10,Tryz.func10,by kernel_rfl,by kernel_rfl⟩
theorem OE:Named Tryz.prog 11:=⟨Tryz.f11,Tryz.func11,by kernel_rfl,by kernel_rfl⟩
theorem I0:Named Tryz.prog 12:=⟨Tryz.f12,Tryz.func12,by kernel_rfl,by kernel_rfl⟩
theorem Qc:Named Tryz.prog 13:=⟨Tryz.f13,Tryz.func13,by kernel_rfl,by kernel_rfl⟩
theorem KV:Named Tryz.prog 14:=⟨Tryz.f14,Tryz.func14,by kernel_rfl,by kernel_rfl⟩
theorem MM:Named Tryz.prog 15:=⟨Tryz.f15,Tryz.func15,by kernel_rfl,by kernel_rfl⟩
theorem OD:Named Tryz.prog 16:=⟨Tryz.f16,Tryz.func16,by kernel_rfl,by kernel_rfl⟩
theorem OC:Named Tryz.prog 17:=⟨Tryz.f17,Tryz.func17,by kernel_rfl,by kernel_rfl⟩
theorem PO:Named Tryz.prog 18:=⟨Tryz.f18,Tryz.func18,by kernel_rfl,by kernel_rfl⟩
theorem PM:Named Tryz.prog 19:=⟨Tryz.f19,Tryz.func19,by kernel_rfl,by kernel_rfl⟩
theorem PK:Named Tryz.prog 20:=⟨Tryz.f20,Tryz.func20,by kernel_rfl,by kernel_rfl⟩
theorem RS:Named Tryz.prog 21:=⟨Tryz.f21,Tryz.func21,by kernel_rfl,by kernel_rfl⟩
theorem RR:Named Tryz.prog 22:=⟨Tryz.f22,Tryz.func22,by kernel_rfl,by kernel_rfl⟩
theorem RQ:Named Tryz.prog 23:=⟨Tryz.f23,Tryz.func23,by kernel_rfl,by kernel_rfl⟩
theorem RP:Named Tryz.prog 25:=⟨Tryz.f25,Tryz.func25,by kernel_rfl,by kernel_rfl⟩
theorem KK:Named Tryz.prog 28:=⟨Tryz.f28,Tryz.func28,by kernel_rfl,by kernel_rfl⟩
theorem DZ:Named Tryz.prog 29:=⟨Tryz.f29,Tryz.func29,by kernel_rfl,by kernel_rfl⟩
theorem qV:Named Tryz.prog 30:=⟨Tryz.f30,Tryz.func30,by kernel_rfl,by kernel_rfl⟩
theorem RN:Named Tryz.prog 31:=⟨Tryz.f31,Tryz.func31,by kernel_rfl,by kernel_rfl⟩
theorem PE:Named Tryz.prog 32:=⟨Tryz.f32,Tryz.func32,by kernel_rfl,by kernel_rfl⟩
theorem RM:Named Tryz.prog 33:=⟨Tryz.f33,Tryz.func33,by kernel_rfl,by kernel_rfl⟩
theorem ML:Named Tryz.prog 34:=⟨Tryz.f34,Tryz.func34,by kernel_rfl,by kernel_rfl⟩
theorem OB:Named Tryz.prog 35:=⟨Tryz.f35,Tryz.func35,by kernel_rfl,by kernel_rfl⟩
theorem RL:Named Tryz.prog 36:=⟨Tryz.f36,Tryz.func36,by kernel_rfl,by kernel_rfl⟩
theorem RK:Named Tryz.prog 37:=⟨Tryz.f37,Tryz.func37,by kernel_rfl,by kernel_rfl⟩
theorem RJ:Named Tryz.prog 38:=⟨Tryz.f38,Tryz.func38,by kernel_rfl,by kernel_rfl⟩
theorem KJ:Named Tryz.prog 39:=⟨Tryz.f39,Tryz.func39,by kernel_rfl,by kernel_rfl⟩
theorem RG:Named Tryz.prog 41:=⟨Tryz.f41,Tryz.func41,by kernel_rfl,by kernel_rfl⟩
theorem PC:Named Tryz.prog 42:=⟨Tryz.f42,Tryz.func42,by kernel_rfl,by kernel_rfl⟩
theorem OA:Named Tryz.prog 43:=⟨Tryz.f43,Tryz.func43,by kernel_rfl,by kernel_rfl⟩
theorem RF:Named Tryz.prog 45:=⟨Tryz.f45,Tryz.func45,by kernel_rfl,by kernel_rfl⟩
theorem RE:Named Tryz.prog 46:=⟨Tryz.f46,Tryz.func46,by kernel_rfl,by kernel_rfl⟩
theorem RB:Named Tryz.prog 47:=⟨Tryz.f47,Tryz.func47,by kernel_rfl,by kernel_rfl⟩
theorem RA:Named Tryz.prog 48:=⟨Tryz.f48,Tryz.func48,by kernel_rfl,by kernel_rfl⟩
theorem PB:Named Tryz.prog 49:=⟨Tryz.f49,Tryz.func49,by kernel_rfl,by kernel_rfl⟩
theorem PA:Named Tryz.prog 50:=⟨Tryz.f50,Tryz.func50,by kernel_rfl,by kernel_rfl⟩
theorem Pz:Named Tryz.prog 53:=⟨Tryz.f53,Tryz.func53,by kernel_rfl,by kernel_rfl⟩
theorem Py:Named Tryz.prog 54:=⟨Tryz.f54,Tryz.func54,by kernel_rfl,by kernel_rfl⟩
theorem Rz:Named Tryz.prog 55:=⟨Tryz.f55,Tryz.func55,by kernel_rfl,by kernel_rfl⟩
theorem KI:Named Tryz.prog 56:=⟨Tryz.f56,Tryz.func56,by kernel_rfl,by kernel_rfl⟩
theorem Oz:Named Tryz.prog 57:=⟨Tryz.f57,Tryz.func57,by kernel_rfl,by kernel_rfl⟩
theorem Oy:Named Tryz.prog 58:=⟨Tryz.f58,Tryz.func58,by kernel_rfl,by kernel_rfl⟩
theorem KH:Named Tryz.prog 59:=⟨Tryz.f59,Tryz.func59,by kernel_rfl,by kernel_rfl⟩
theorem Ry:Named Tryz.prog 60:=⟨Tryz.f60,Tryz.func60,by kernel_rfl,by kernel_rfl⟩
theorem MK:Named Tryz.prog 61:=⟨Tryz.f61,Tryz.func61,by kernel_rfl,by kernel_rfl⟩
theorem Px:Named Tryz.prog 62:=⟨Tryz.f62,Tryz.func62,by kernel_rfl,by kernel_rfl⟩
theorem Rx:Named Tryz.prog 65:=⟨Tryz.f65,Tryz.func65,by kernel_rfl,by kernel_rfl⟩
theorem Rw:Named Tryz.prog 66:=⟨Tryz.f66,Tryz.func66,by kernel_rfl,by kernel_rfl⟩
theorem Ow:Named Tryz.prog 67:=⟨Tryz.f67,Tryz.func67,by kernel_rfl,by kernel_rfl⟩
theorem Rv:Named Tryz.prog 68:=⟨Tryz.f68,Tryz.func68,by kernel_rfl,by kernel_rfl⟩
theorem Ru:Named Tryz.prog 69:=⟨Tryz.f69,Tryz.func69,by kernel_rfl,by kernel_rfl⟩
theorem qU:Named Tryz.prog 71:=⟨Tryz.f71,Tryz.func71,by kernel_rfl,by kernel_rfl⟩
theorem Rt:Named Tryz.prog 72:=⟨Tryz.f72,Tryz.func72,by kernel_rfl,by kernel_rfl⟩
theorem Pv:Named Tryz.prog 73:=⟨Tryz.f73,Tryz.func73,by kernel_rfl,by kernel_rfl⟩
theorem vg:Named Tryz.prog 74:=⟨Tryz.f74,Tryz.func74,by kernel_rfl,by kernel_rfl⟩
theorem Ov:Named Tryz.prog 75:=⟨Tryz.f75,Tryz.func75,by kernel_rfl,by kernel_rfl⟩
theorem F3:Named Tryz.prog 76:=⟨Tryz.f76,Tryz.func76,by kernel_rfl,by kernel_rfl⟩
theorem F2:Named Tryz.prog 77:=⟨Tryz.f77,Tryz.func77,by kernel_rfl,by kernel_rfl⟩
theorem Rs:Named Tryz.prog 78:=⟨Tryz.f78,Tryz.func78,by kernel_rfl,by kernel_rfl⟩
theorem Pu:Named Tryz.prog 79:=⟨Tryz.f79,Tryz.func79,by kernel_rfl,by kernel_rfl⟩
theorem Pt:Named Tryz.prog 80:=⟨Tryz.f80,Tryz.func80,by kernel_rfl,by kernel_rfl⟩
theorem Rr:Named Tryz.prog 81:=⟨Tryz.f81,Tryz.func81,by kernel_rfl,by kernel_rfl⟩
theorem Pr:Named Tryz.prog 82:=⟨Tryz.f82,Tryz.func82,by kernel_rfl,by kernel_rfl⟩
theorem Ou:Named Tryz.prog 83:=⟨Tryz.f83,Tryz.func83,by kernel_rfl,by kernel_rfl⟩
theorem MJ:Named Tryz.prog 84:=⟨Tryz.f84,Tryz.func84,by kernel_rfl,by kernel_rfl⟩
theorem Ot:Named Tryz.prog 85:=⟨Tryz.f85,Tryz.func85,by kernel_rfl,by kernel_rfl⟩
theorem Oq:Named Tryz.prog 86:=⟨Tryz.f86,Tryz.func86,by kernel_rfl,by kernel_rfl⟩
theorem MI:Named Tryz.prog 87:=⟨Tryz.f87,Tryz.func87,by kernel_rfl,by kernel_rfl⟩
theorem Oo:Named Tryz.prog 88:=⟨Tryz.f88,Tryz.func88,by kernel_rfl,by kernel_rfl⟩
theorem vf:Named Tryz.prog 89:=⟨Tryz.f89,Tryz.func89,by kernel_rfl,by kernel_rfl⟩
theorem nL:Named Tryz.prog 90:=⟨Tryz.f90,Tryz.func90,by kernel_rfl,by kernel_rfl⟩
theorem On:Named Tryz.prog 91:=⟨Tryz.f91,Tryz.func91,by kernel_rfl,by kernel_rfl⟩
theorem MH:Named Tryz.prog 92:=⟨Tryz.f92,Tryz.func92,by kernel_rfl,by kernel_rfl⟩
theorem Om:Named Tryz.prog 93:=⟨Tryz.f93,Tryz.func93,by kernel_rfl,by kernel_rfl⟩
theorem Rq:Named Tryz.prog 94:=⟨Tryz.f94,Tryz.func94,by kernel_rfl,by kernel_rfl⟩
theorem Ol:Named Tryz.prog 95:=⟨Tryz.f95,Tryz.func95,by kernel_rfl,by kernel_rfl⟩
theorem Oj:Named Tryz.prog 96:=⟨Tryz.f96,Tryz.func96,by kernel_rfl,by kernel_rfl⟩
theorem MG:Named Tryz.prog 97:=⟨Tryz.f97,Tryz.func97,by kernel_rfl,by kernel_rfl⟩
theorem Pq:Named Tryz.prog 98:=⟨Tryz.f98,Tryz.func98,by kernel_rfl,by kernel_rfl⟩
theorem MF:Named Tryz.prog 99:=⟨Tryz.f99,Tryz.func99,by kernel_rfl,by kernel_rfl⟩
theorem D4:Named Tryz.prog 100:=⟨Tryz.f100,Tryz.func100,by kernel_rfl,by kernel_rfl⟩
theorem Qp:Named Tryz.prog 103:=⟨Tryz.f103,Tryz.func103,by kernel_rfl,by kernel_rfl⟩
theorem KY:Named Tryz.prog 104:=⟨Tryz.f104,Tryz.func104,by kernel_rfl,by kernel_rfl⟩
theorem NV:Named Tryz.prog 105:=⟨Tryz.f105,Tryz.func105,by kernel_rfl,by kernel_rfl⟩
theorem Qo:Named Tryz.prog 106:=⟨Tryz.f106,Tryz.func106,by kernel_rfl,by kernel_rfl⟩
theorem Qn:Named Tryz.prog 107:=⟨Tryz.f107,Tryz.func107,by kernel_rfl,by kernel_rfl⟩
theorem NU:Named Tryz.prog 108:=⟨Tryz.f108,Tryz.func108,by kernel_rfl,by kernel_rfl⟩
theorem NS:Named Tryz.prog 109:=⟨Tryz.f109,Tryz.func109,by kernel_rfl,by kernel_rfl⟩
theorem Qm:Named Tryz.prog 110:=⟨Tryz.f110,Tryz.func110,by kernel_rfl,by kernel_rfl⟩
theorem Ql:Named Tryz.prog 111:=⟨Tryz.f111,Tryz.func111,by kernel_rfl,by kernel_rfl⟩
theorem Qk:Named Tryz.prog 112:=⟨Tryz.f112,Tryz.func112,by kernel_rfl,by kernel_rfl⟩
theorem NR:Named Tryz.prog 113:=⟨Tryz.f113,Tryz.func113,by kernel_rfl,by kernel_rfl⟩
theorem yg:Named Tryz.prog 114:=⟨Tryz.f114,Tryz.func114,by kernel_rfl,by kernel_rfl⟩
theorem NQ:Named Tryz.prog 115:=⟨Tryz.f115,Tryz.func115,by kernel_rfl,by kernel_rfl⟩
theorem KX:Named Tryz.prog 116:=⟨Tryz.f116,Tryz.func116,by kernel_rfl,by kernel_rfl⟩
theorem NP:Named Tryz.prog 117:=⟨Tryz.f117,Tryz.func117,by kernel_rfl,by kernel_rfl⟩
theorem Qj:Named Tryz.prog 118:=⟨Tryz.f118,Tryz.func118,by kernel_rfl,by kernel_rfl⟩
theorem Qi:Named Tryz.prog 119:=⟨Tryz.f119,Tryz.func119,by kernel_rfl,by kernel_rfl⟩
theorem Qh:Named Tryz.prog 120:=⟨Tryz.f120,Tryz.func120,by kernel_rfl,by kernel_rfl⟩
theorem Qg:Named Tryz.prog 121:=⟨Tryz.f121,Tryz.func121,by kernel_rfl,by kernel_rfl⟩
theorem Qf:Named Tryz.prog 122:=⟨Tryz.f122,Tryz.func122,by kernel_rfl,by kernel_rfl⟩
theorem KW:Named Tryz.prog 123:=⟨Tryz.f123,Tryz.func123,by kernel_rfl,by kernel_rfl⟩
theorem Qe:Named Tryz.prog 124:=⟨Tryz.f124,Tryz.func124,by kernel_rfl,by kernel_rfl⟩
theorem Qd:Named Tryz.prog 125:=⟨Tryz.f125,Tryz.func125,by kernel_rfl,by kernel_rfl⟩
theorem He:Named Tryz.prog 126:=⟨Tryz.f126,Tryz.func126,by kernel_rfl,by kernel_rfl⟩
theorem D3:Named Tryz.prog 127:=⟨Tryz.f127,Tryz.func127,by kernel_rfl,by kernel_rfl⟩
theorem jM:Named Tryz.prog 128:=⟨Tryz.f128,Tryz.func128,by kernel_rfl,by kernel_rfl⟩
theorem NO:Named Tryz.prog 129:=⟨Tryz.f129,Tryz.func129,by kernel_rfl,by kernel_rfl⟩
theorem Hd:Named Tryz.prog 130:=⟨Tryz.f130,Tryz.func130,by kernel_rfl,by kernel_rfl⟩
theorem NN:Named Tryz.prog 131:=⟨Tryz.f131,Tryz.func131,by kernel_rfl,by kernel_rfl⟩
theorem Hc:Named Tryz.prog 132:=⟨Tryz.f132,Tryz.func132,by kernel_rfl,by kernel_rfl⟩
theorem Qb:Named Tryz.prog 133:=⟨Tryz.f133,Tryz.func133,by kernel_rfl,by kernel_rfl⟩
theorem j9:Named Tryz.prog 134:=⟨Tryz.f134,Tryz.func134,by kernel_rfl,by kernel_rfl⟩
theorem NL:Named Tryz.prog 135:=⟨Tryz.f135,Tryz.func135,by kernel_rfl,by kernel_rfl⟩
theorem Qa:Named Tryz.prog 136:=⟨Tryz.f136,Tryz.func136,by kernel_rfl,by kernel_rfl⟩
theorem NK:Named Tryz.prog 139:=⟨Tryz.f139,Tryz.func139,by kernel_rfl,by kernel_rfl⟩
theorem KU:Named Tryz.prog 140:=⟨Tryz.f140,Tryz.func140,by kernel_rfl,by kernel_rfl⟩
theorem jL:Named Tryz.prog 141:=⟨Tryz.f141,Tryz.func141,by kernel_rfl,by kernel_rfl⟩
theorem KT:Named Tryz.prog 142:=⟨Tryz.f142,Tryz.func142,by kernel_rfl,by kernel_rfl⟩
theorem qW:Named Tryz.prog 143:=⟨Tryz.f143,Tryz.func143,by kernel_rfl,by kernel_rfl⟩
theorem Ay:Named Tryz.prog 144:=⟨Tryz.f144,Tryz.func144,by kernel_rfl,by kernel_rfl⟩
theorem KS:Named Tryz.prog 145:=⟨Tryz.f145,Tryz.func145,by kernel_rfl,by kernel_rfl⟩
theorem KR:Named Tryz.prog 146:=⟨Tryz.f146,Tryz.func146,by kernel_rfl,by kernel_rfl⟩
theorem KQ:Named Tryz.prog 147:=⟨Tryz.f147,Tryz.func147,by kernel_rfl,by kernel_rfl⟩
theorem NJ:Named Tryz.prog 148:=⟨Tryz.f148,Tryz.func148,by kernel_rfl,by kernel_rfl⟩
theorem KP:Named Tryz.prog 149:=⟨Tryz.f149,Tryz.func149,by kernel_rfl,by kernel_rfl⟩
theorem KO:Named Tryz.prog 150:=⟨Tryz.f150,Tryz.func150,by kernel_rfl,by kernel_rfl⟩
theorem P9:Named Tryz.prog 151:=⟨Tryz.f151,Tryz.func151,by kernel_rfl,by kernel_rfl⟩
theorem P8:Named Tryz.prog 152:=⟨Tryz.f152,Tryz.func152,by kernel_rfl,by kernel_rfl⟩
theorem P7:Named Tryz.prog 153:=⟨Tryz.f153,Tryz.func153,by kernel_rfl,by kernel_rfl⟩
theorem P6:Named Tryz.prog 154:=⟨Tryz.f154,Tryz.func154,by kernel_rfl,by kernel_rfl⟩
theorem P5:Named Tryz.prog 155:=⟨Tryz.f155,Tryz.func155,by kernel_rfl,by kernel_rfl⟩
theorem P0:Named Tryz.prog 156:=⟨Tryz.f156,Tryz.func156,by kernel_rfl,by kernel_rfl⟩
theorem NI:Named Tryz.prog 157:=⟨Tryz.f157,Tryz.func157,by kernel_rfl,by kernel_rfl⟩
theorem PZ:Named Tryz.prog 159:=⟨Tryz.f159,Tryz.func159,by kernel_rfl,by kernel_rfl⟩
theorem PY:Named Tryz.prog 160:=⟨Tryz.f160,Tryz.func160,by kernel_rfl,by kernel_rfl⟩
theorem PX:Named Tryz.prog 161:=⟨Tryz.f161,Tryz.func161,by kernel_rfl,by kernel_rfl⟩
theorem PW:Named Tryz.prog 162:=⟨Tryz.f162,Tryz.func162,by kernel_rfl,by kernel_rfl⟩
theorem PT:Named Tryz.prog 163:=⟨Tryz.f163,Tryz.func163,by kernel_rfl,by kernel_rfl⟩
theorem PR:Named Tryz.prog 164:=⟨Tryz.f164,Tryz.func164,by kernel_rfl,by kernel_rfl⟩
theorem NG:Named Tryz.prog 165:=⟨Tryz.f165,Tryz.func165,by kernel_rfl,by kernel_rfl⟩
theorem NF:Named Tryz.prog 170:=⟨Tryz.f170,Tryz.func170,by kernel_rfl,by kernel_rfl⟩
theorem NE:Named Tryz.prog 171:=⟨Tryz.f171,Tryz.func171,by kernel_rfl,by kernel_rfl⟩
theorem PQ:Named Tryz.prog 172:=⟨Tryz.f172,Tryz.func172,by kernel_rfl,by kernel_rfl⟩
theorem PP:Named Tryz.prog 173:=⟨Tryz.f173,Tryz.func173,by kernel_rfl,by kernel_rfl⟩
theorem kp:Named Tryz.prog 174:=⟨Tryz.f174,Tryz.func174,by kernel_rfl,by kernel_rfl⟩
theorem KN:Named Tryz.prog 175:=⟨Tryz.f175,Tryz.func175,by kernel_rfl,by kernel_rfl⟩
theorem Ax:Named Tryz.prog 176:=⟨Tryz.f176,Tryz.func176,by kernel_rfl,by kernel_rfl⟩
theorem KM:Named Tryz.prog 177:=⟨Tryz.f177,Tryz.func177,by kernel_rfl,by kernel_rfl⟩
theorem KL:Named Tryz.prog 178:=⟨Tryz.f178,Tryz.func178,by kernel_rfl,by kernel_rfl⟩
theorem nM:Named Tryz.prog 179:=⟨Tryz.f179,Tryz.func179,by kernel_rfl,by kernel_rfl⟩
theorem ND:Named Tryz.prog 180:=⟨Tryz.f180,Tryz.func180,by kernel_rfl,by kernel_rfl⟩
theorem NC:Named Tryz.prog 182:=⟨Tryz.f182,Tryz.func182,by kernel_rfl,by kernel_rfl⟩
theorem NB:Named Tryz.prog 183:=⟨Tryz.f183,Tryz.func183,by kernel_rfl,by kernel_rfl⟩
theorem yf:Named Tryz.prog 184:=⟨Tryz.f184,Tryz.func184,by kernel_rfl,by kernel_rfl⟩
theorem NA:Named Tryz.prog 190:=⟨Tryz.f190,Tryz.func190,by kernel_rfl,by kernel_rfl⟩
theorem Nz:Named Tryz.prog 191:=⟨Tryz.f191,Tryz.func191,by kernel_rfl,by kernel_rfl⟩
theorem PL:Named Tryz.prog 192:=⟨Tryz.f192,Tryz.func192,by kernel_rfl,by kernel_rfl⟩
theorem PJ:Named Tryz.prog 212:=⟨Tryz.f212,Tryz.func212,by kernel_rfl,by kernel_rfl⟩
theorem PI:Named Tryz.prog 215:=⟨Tryz.f215,Tryz.func215,by kernel_rfl,by kernel_rfl⟩
theorem PH:Named Tryz.prog 216:=⟨Tryz.f216,Tryz.func216,by kernel_rfl,by kernel_rfl⟩
theorem PG:Named Tryz.prog 217:=⟨Tryz.f217,Tryz.func217,by kernel_rfl,by kernel_rfl⟩
theorem PF:Named Tryz.prog 218:=⟨Tryz.f218,Tryz.func218,by kernel_rfl,by kernel_rfl⟩
abbrev DT:=Leg.Does Tryz.prog
abbrev NM:=Leg.Named Tryz.prog
theorem nk {f : FuncId} {fn : Func} (h : Tryz.prog.funcs[f]? = some fn) (a : (fn.name == "runtime.NumGoroutine") = false := by kernel_rfl) (b : fn.body.isNone = false := by kernel_rfl) : NM f := ⟨fn, h, a, b⟩
end Go.Proofs.YtfocodjhmkokpaaGreatDoor
end

section
namespace Dsk
open Go Leg Codec Api
abbrev il:=List UInt8
def zs:il:=List.replicate 64 0
def DE(b:il):Value:= .agg (dL b).toArray
abbrev fA:=List (Int×il)
def fu(s:fA)(k:Int):il:=match s with
 | []=>zs
 | (a,b)::s=>if k=a then b else fu s k
def oV(s:fA)(k:Int)(v:il):fA:=match s with
 | []=>[(k,v)]
 | (a,b)::s=>if k=a then(a,v)::s else(a,b)::oV s k v
theorem ll(s:fA)(k j:Int)(v:il):fu (oV s k v) j=if j=k then v else fu s j:=by
 induction s with
 |nil=>simp[oV,fu]
 |cons p s ih=>
  obtain⟨a,b⟩:=p;simp only[oV]
  by_cases h:k=a
  · subst h
    rw[if_pos rfl]
    by_cases h2:j=k
    · simp[fu,h2]
    · simp[fu,h2]
  · rw[if_neg h]
    simp only[fu]
    by_cases h2:j=a
    · subst h2
      rw[if_pos rfl,if_pos rfl,if_neg (by omega)]
    · rw[if_neg h2,if_neg h2,ih]
def sT(s:fA):List (Int×Value):=s.map λp=>(p.1,DE p.2)
theorem yv(s:fA)(k:Int):(Ja (sT s) k).getD (DE zs)=DE (fu s k):=by
 induction s with
 |nil=>rfl
 |cons p s ih=>
  obtain⟨a,b⟩:=p;simp only[sT,el,Ja,fu]at ih ⊢;split
  · rfl
  · exact ih
theorem Lg(s:fA)(k:Int)(v:il):yu (sT s) k (DE v)=sT (oV s k v):=by
 induction s with
 |nil=>rfl
 |cons p s ih=>
  obtain⟨a,b⟩:=p;simp only[sT,el,yu,oV]at ih ⊢;split
  · rfl
  · rw[ih];rfl
def di(p:Int×il):List Value:= .int .i64 p.1::dL p.2
def dU(ws:fA):List Value:=ws.flatMap di
def eP(b:List UInt8):il:=b++List.replicate (64-b.length) 0
theorem dQ{b:List UInt8}(h:b.length≤64):(eP b).length=64:=by simp[eP];omega
def Whole(s:fA):Prop:=∀p∈s,p.2.length=64
theorem cu{p:Int×il}(h:p.2.length=64):(di p).length=65:=by simp[di,dL,h]
theorem HS{ws:fA}(h:Whole ws){k:Nat}(hk:k<ws.length):((dU ws).drop (k*65)).take 65=di ws[k]:=by
 induction ws generalizing k with
 |nil=>simp at hk
 |cons p ws ih=>
  have h1:=cu (h p (by simp));simp only[dU,cQ]at ih ⊢;cases k with
  |zero=>
   simp only[g8,ba,pn];rw[co (by omega),az (by omega)]
  |succ k=>
   rw[gV,ct (by omega),h1,show(k+1)*65-65=k*65 by omega,bG]
   simpa using ih (λq hq=>h q (by simp[hq])) (by simpa using hk)
theorem cy{s:fA}(h:Whole s)(k:Int):(fu s k).length=64:=by
 induction s with
 |nil=>simp[fu,zs]
 |cons p s ih=>
  obtain⟨a,b⟩:=p;simp only[fu];split
  · exact h (a,b) (by simp)
  · exact ih λq hq=>h q (by simp[hq])
theorem Whole.put{s:fA}(h:Whole s)(k:Int){v:il}(hv:v.length=64):Whole (oV s k v):=by
 induction s with
 |nil=>intro p hp;simp only[oV,cm]at hp;subst hp;exact hv
 |cons p s ih=>
  obtain⟨a,b⟩:=p;intro q hq;simp only[oV]at hq;split at hq
  · rcases cg.1 hq with rfl|hq
    · exact hv
    · exact h q (by simp[hq])
  · rcases cg.1 hq with rfl|hq
    · exact h (a,b) (by simp)
    · exact ih (λq hq=>h q (by simp[hq])) q hq
theorem Whole.add{s:fA}(h:Whole s)(k:Int){v:il}(hv:v.length=64):Whole (s++[(k,v)]):=λp hp=>by
 rcases bP.1 hp with hp|hp
 · exact h p hp
 · simp only[cm]at hp;subst hp;exact hv
section
variable {P:Program} {n:Nat} {D:List Deferred} {L:List (Nat×Value)} {S:World→Prop} {o:Oper}
theorem PV.mapNil{t t' k e m:TypeId}{x y:Operand}(ho:o.op= .binOp .eql t x y t')(hu:P.underlying t=some (.map k e))(hx:cL L x=some (.map (some m)))(hy:cL L y=some (.map none)):PV P n D L S o (.bool false):=
 gl ho hx hy λw=>by
  have e:(Op.equal t (.map (some m)) (.map none)).run P w= .ok false w:=run_equalIn_map_nil w 9999 t k e (some m) hu;simp[eqGuard,binOp,e]
end
end Dsk
namespace Dsk
open Go Leg Codec Api
theorem Bh{k:Int}{b:List UInt8}(h:b.length≤64):wr (.int .i64 k::dL zs) 1 ((dL b).take (min b.length 64))=di (k,eP b):=by
 have e:(dL b).take (min b.length 64)=dL b:=az (by rw[aW];omega);rw[e,wr,aW]
 have e2:(Value.int IntKind.i64 k::dL zs).drop (1+b.length)=dL (List.replicate (64-b.length) 0):=by
  rw[show 1+b.length=b.length+1 by omega,iJ];rw[dL,dL,zs,←lI,GV]
 rw[e2];simp only[di,eP,dL,cJ,List.take_succ_cons,List.take_zero,ql,bG]
theorem Lo(vs:List Value): ∀(j:Nat) (pre zeros:List Value),pre.length=j→zeros.length=vs.length→
 ((vs.zipIdx j).foldl (λ(cs:Array Value) (c,i)=>cs.setIfInBounds (0+i) c) (pre++zeros).toArray)=(pre++vs).toArray:=by
 induction vs with
 |nil=>intro j pre zeros _ h;rw[List.eq_nil_of_length_eq_zero h];rfl
 |cons v vs ih=>
  intro j pre zeros hp hz
  match zeros,hz with
  |z::zeros,hz=>
   rw[List.zipIdx_cons,List.foldl_cons]
   have e:(pre++z::zeros).toArray.setIfInBounds (0+j) v=((pre++[v])++zeros).toArray:=by
    rw[bi,List.setIfInBounds_toArray,gT _ _ (by omega),hp,zU,ck,aI];rfl
   simp only[e];rw[ih (j+1) (pre++[v]) zeros (by simp[hp]) (by simpa using hz),aI];rfl
theorem Gs{zeros:Array Value}{vs:List Value}(h:zeros.size=vs.length):Instr.fill (λi=>some (i*vs.length,vs.length)) zeros [(0, .agg vs.toArray)]=some vs.toArray:=by
 have e:=Lo vs 0 [] zeros.toList rfl (by simpa using h);simp only[bG,Array.toArray_toList]at e;simp only[Instr.fill,Value.cells,List.size_toArray,g8,bi,ne_eq,not_true_eq_false,false_or,decide_false,Bool.false_or];rw[if_neg (by simp[h])];rw[←Array.foldl_toList,Array.toList_zipIdx];simp only[bi]at e;rw[e]
theorem nf{zeros:Array Value}{vs:List Value}{size:Nat}(h:vs.length=size)(hz:zeros.size=size):Instr.fill (λi=>some (i*size,size)) zeros [(0, .agg vs.toArray)]=some vs.toArray:=by
 subst h;exact Gs hz
theorem ji(p:Int×il): ∀u∈di p,u.oneCell'=true:=by
 intro u hu;rcases cg.1 hu with rfl|hu
 · rfl
 · exact e6 _ u hu
end Dsk
namespace Leg
open Go
section
variable {P:Program} {w0:World} {F:Hl} {n:Nat} {ops:Array Oper} {Q:QQ} {D:List Deferred} {L:List (Nat×Value)} {H:List HP} {l:List Oper}
end
end Leg
namespace Dsk
open Go Leg Codec Api
def kM(ws:fA)(k:Nat):Int×il:=ws.getD k (0,zs)
theorem uP{ws:fA}{k:Nat}(hk:k<ws.length):kM ws k=ws[k]:=by simp[kM,List.getD_eq_getElem?_getD,hk]
theorem dY{ws:fA}(h:Whole ws){k:Nat}(hk:k<ws.length):(kM ws k).2.length=64:=by rw[uP hk];exact h _ (df hk)
theorem rC{ws:fA}(h:Whole ws){k:Nat}(hk:k<ws.length):((dU ws).drop (k*65)).take 65=di (kM ws k):=by rw[uP hk];exact HS h hk
theorem HU{ws:fA}(h:Whole ws){k:Nat}(hk:k<ws.length):(dU ws)[k*65]?=some (.int .i64 (kM ws k).1):=by
 have e:=congrArg (λl:List Value=>l[0]?) (rC h hk)
 simpa [di]using e
theorem HT{ws:fA}(h:Whole ws){k:Nat}(hk:k<ws.length):((dU ws).drop (k*65+1)).take 64=dL (kM ws k).2:=by
 have e:=congrArg (λl:List Value=>l.drop 1) (rC h hk);simp only[mD,jg,di,iJ,ba]at e;exact e
theorem xb{p:Int×il}(h:p.2.length=64):((di p).drop 1).take 64=dL p.2:=by
 simp only[di,iJ,ba];exact az (by rw[aW,h];exact aH _)
theorem CS{p:Int×il}{c:Nat}(h:p.2.length=64)(hc:c≤64):((di p).drop 1).take (min c 64)=(dL p.2).take c:=by
 simp only[di,iJ,ba];congr 1;omega
theorem Kb{l:List Value}{n:Nat}(h:l.length=n):(l.drop 0).take n=l:=by rw[ba,az (by omega)]
def Ed(s ws:fA):Nat→fA
 |0=>s
 |k+1=>oV (Ed s ws k) (kM ws k).1 (kM ws k).2
theorem Whole.lay{s ws:fA}(h:Whole s)(hw:Whole ws): ∀k,k≤ws.length→Whole (Ed s ws k)
 |0,_=>h
 |k+1,hk=>(Whole.lay h hw k (by omega)).put _ (dY hw (by omega))
def lN(old new:il)(c:Nat):il:=new.take c++old.drop c
theorem oR{old new:il}{c:Nat}(h1:old.length=64)(h2:new.length=64):(lN old new c).length=64:=by simp[lN];omega
def ni(n:Int):Nat:=(min (max n 0) 64).toNat
theorem M7(n:Int):min (max n 0) 64=((ni n:Nat):Int):=by unfold ni;omega
theorem nh(n:Int):ni n≤64:=by unfold ni;omega
def j0(mask torn:Int)(c:Nat)(s:fA)(k:Nat)(p:Int×il):fA:=
 if(k:Int)=torn then oV s p.1 (lN (fu s p.1) p.2 c)else if mask.fdiv (2^ (k%32))%2=1 then oV s p.1 p.2 else s
def gQ(mask torn:Int)(c:Nat)(s ws:fA):Nat→fA
 |0=>s
 |k+1=>j0 mask torn c (gQ mask torn c s ws k) k (kM ws k)
theorem Whole.crash{mask torn:Int}{c:Nat}{s ws:fA}(h:Whole s)(hw:Whole ws): ∀k,k≤ws.length→Whole (gQ mask torn c s ws k)
 |0,_=>h
 |k+1,hk=>by
  have ih:=Whole.crash (mask:=mask) (torn:=torn) (c:=c) h hw k (by omega);simp only[gQ,j0];split
  · exact ih.put _ (oR (cy ih _) (dY hw (by omega)))
  · split
    · exact ih.put _ (dY hw (by omega))
    · exact ih
def jb(s ws:fA)(at':Int):Nat→il
 |0=>fu s at'
 |k+1=>if(kM ws k).1=at' then(kM ws k).2 else jb s ws at' k
theorem Ap{s ws:fA}(h:Whole s)(hw:Whole ws)(at':Int): ∀k,k≤ws.length→(jb s ws at' k).length=64
 |0,_=>cy h _
 |k+1,hk=>by
  simp only[jb];split
  · exact dY hw (by omega)
  · exact Ap h hw at' k (by omega)
theorem Iy{s ws:fA}{at':Int}{k:Nat}(h:(kM ws k).1=at'):jb s ws at' (k+1)=(kM ws k).2:=by simp[jb,h]
theorem FV{s ws:fA}{at':Int}{k:Nat}(h:(kM ws k).1≠at'):jb s ws at' (k+1)=jb s ws at' k:=by simp[jb,h]
theorem HZ{old new:il}{c m:Nat}(hc:c≤64)(h1:old.length=64)(h2:new.length=64)(hm:m=c):wr (dL old) 0 (((dL new).take c).take m)=dL (lN old new c):=by
 subst hm;have:((dL new).take m).length=m:=by rw[aZ,aW];omega
 rw[az (by omega),wr,this,List.take_zero,bG,bi];simp[dL,lN,qu,lI]
structure DS where
 s:fA
 ws:fA
 ar:Bool
 lf:Int
 dn:Bool
structure DS.Ok(D:DS):Prop where
 s:Whole D.s
 ws:Whole D.ws
 lf:0≤D.lf∧D.lf≤9223372036854775807
def DS.new:DS:=⟨[],[],false,0,false⟩
def DS.arm(D:DS)(n:Int):DS:= {D with ar:=true,lf:=max n 0}
def DS.write(D:DS)(at':Int)(bs:List UInt8):Int×DS:=
 if at'<0∨2048≤at'∨64<bs.length then(5,D)
 else if D.dn=true∨(D.ar=true∧D.lf=0)then(4,{D with dn:=true})
 else(0,{D with ws:=D.ws++[(at',eP bs)],lf:=if D.ar=true then D.lf-1 else D.lf,dn:=false})
def DS.sync(D:DS):Int×DS:=if D.dn=true then(4,D)else(0,{D with s:=Ed D.s D.ws D.ws.length,ws:=[]})
def DS.crash(D:DS)(mask torn n:Int):DS:=⟨gQ mask torn (ni n) D.s D.ws D.ws.length,[],false,0,false⟩
def DS.read(D:DS)(at':Int):il:=jb D.s D.ws at' D.ws.length
theorem nr:Whole []:=λ_ h=>absurd h (by simp)
theorem DS.new_ok:DS.new.Ok:=⟨nr,nr,⟨by decide,by decide⟩⟩
theorem DS.arm_ok{D:DS}(h:D.Ok){n:Int}(hn:n≤9223372036854775807):(D.arm n).Ok:=⟨h.s,h.ws,by simp only[DS.arm];omega⟩
abbrev Sj:= @DS.arm_ok
theorem DS.write_ok{D:DS}(h:D.Ok)(at':Int)(bs:List UInt8):(D.write at' bs).2.Ok:=by
 unfold DS.write;split
 · exact h
 · split
   · exact⟨h.s,h.ws,h.lf⟩
   · rename_i h1 h2
     refine⟨h.s,h.ws.add _ (dQ (by omega)),?_⟩;have:=h.lf;show 0≤(if D.ar=true then D.lf-1 else D.lf)∧(if D.ar=true then D.lf-1 else D.lf)≤9223372036854775807;split<;>rename_i h3
     · have:D.lf≠0:=λq=>h2 (.inr ⟨h3,q⟩)
       exact⟨by omega,by omega⟩
     · exact this
theorem DS.sync_ok{D:DS}(h:D.Ok):D.sync.2.Ok:=by
 unfold DS.sync;split
 · exact h
 · exact⟨h.s.lay h.ws _ (aH _),nr,h.lf⟩
abbrev QU:= @DS.sync_ok
theorem DS.crash_ok{D:DS}(h:D.Ok)(mask torn n:Int):(D.crash mask torn n).Ok:=⟨h.s.crash h.ws _ (aH _),nr,⟨by simp[DS.crash],by simp[DS.crash]⟩⟩
theorem DS.read_len{D:DS}(h:D.Ok)(at':Int):(D.read at').length=64:=Ap h.s h.ws _ _ (aH _)
abbrev mG:= @DS.read_len
theorem DS.write_ws{D:DS}{at':Int}{bs:List UInt8}:(D.write at' bs).2.ws.length≤D.ws.length+1:=by
 unfold DS.write;split
 · simp
 · split
   · simp
   · simp
abbrev QA(DT WT:Nat)(d:Nat)(D:DS):HP:=pack λx:Nat×Value=>[ak d [.map (some x.1),x.2, .bool D.ar, .int .i64 D.lf, .bool D.dn] DT,kq x.1 (sT D.s),own x.2 D.ws.length (dU D.ws) WT 65]
end Dsk
end

section
namespace Go.Proofs.YtfocodjhmkokpaaGreatDoor
open Go Leg Codec Api Dsk
theorem Cg(d m:Nat)(wv:Value)(ar dn:Bool)(lf:Int):
 DT 53 #[(.pointer (some ⟨d,0,none⟩))] T0 [ak d [(.map (some m)),wv,(.bool (ar)),(.int .i64 (lf)),(.bool (dn))] 140] (RI (.bool dn) [ak d [(.map (some m)),wv,(.bool (ar)),(.int .i64 (lf)),(.bool (dn))] 140]):=by
 refine BD 7 Tryz.func53 rfl rfl rfl λw0 F hF=>sr λ_ J1=>PS ?_
 refine nx J1 (sr λ_ J2=>P2 ?_);refine FA 4 ia lK ?_;refine LA 0 Y4 ?_;refine PS ?_;exact nx J2 (aj (WK [0] (aw rfl rfl ⟨rfl,rfl⟩)))
theorem EE(d m:Nat)(wv:Value)(ar dn:Bool)(lf n:Int):
 DT 48 #[(.pointer (some ⟨d,0,none⟩)),(.int .i64 (n))] T0 [ak d [(.map (some m)),wv,(.bool (ar)),(.int .i64 (lf)),(.bool (dn))] 140] (dA (λ_ H=>H=[ak d [(.map (some m)),wv,(.bool true),(.int .i64 ((max n 0))),(.bool (dn))] 140])):=by
 refine BD 12 Tryz.func48 rfl rfl rfl λw0 F hF=>af (P3 ?_)
 refine tp (zR rfl rfl rfl) ?_;refine PS ?_;refine FA 2 ia lK ?_;refine S0 0 lK ?_;refine PS ?_;refine FA 3 ia aR ?_;refine S0 0 aR ?_;exact ax (WK [0] (bC rfl rfl))
theorem ED:
 DT 42 #[] T0 [] (dA (λv H=>∃d m,v= .pointer (some ⟨d,0,none⟩)∧H=[ak d [(.map (some m)),(.slice none 0 0),(.bool false),(.int .i64 0),(.bool false)] 140,kq m ([])])):=by
 refine BD 4 Tryz.func42 rfl rfl rfl λw0 F hF=>sr λ_ J1=>PS ?_
 refine nx J1 (sr λ_ J2=>TL.makeMap (ab rfl) rfl rfl rfl (λm1=>BV #[(.map (some m1)),(.slice none 0 0),(.bool false),(.int .i64 0),(.bool false)] ?_));refine XB λb3=>?_
 refine PS ?_;exact nx J2 (aj (WK [0,0] (aw rfl rfl ⟨b3,m1,rfl,rfl⟩)))
theorem Ce(d m:Nat)(wv:Value)(s:fA)(ar dn:Bool)(lf at':Int)(hs:Whole s):
 DT 94 #[(.pointer (some ⟨d,0,none⟩)),(.int .i64 (at'))] T0 [ak d [(.map (some m)),wv,(.bool (ar)),(.int .i64 (lf)),(.bool (dn))] 140,kq m (sT s)] (RI (DE (fu s at')) [ak d [(.map (some m)),wv,(.bool (ar)),(.int .i64 (lf)),(.bool (dn))] 140,kq m (sT s)]):=by
 refine BD 11 Tryz.func94 rfl rfl rfl λw0 F hF=>sr λ_ J1=>XA z173 λb4=>?_
 refine nx J1 (sr λ_ J2=>P2 ?_);refine FA 0 ia Da ?_;refine LA 1 zF ?_;refine PS ?_;refine tp (PV.lookup rfl zF Y3 z173 rfl rfl (RdM.own 2 rfl rfl) (yv _ _)) ?_;exact bT (vs:=dL (fu s at')) (i:=0) (ab rfl) rfl rfl rfl rfl rfl (by rw[aW,cy hs];exact j7) (e6 _) rfl rfl (by rw[aW,cy hs];exact aH _) (gE (by rw[aW,cy hs];rfl)) rfl (nx J2 (aj (zI (H':=[ak d [(.map (some m)),wv,(.bool (ar)),(.int .i64 (lf)),(.bool (dn))] 140,kq m (sT s)]) rfl rfl qg rfl j7 (RO 0) (by rw[aW];exact cy hs _) (λ_ s=>an [1,1] rfl s) ⟨rfl,rfl⟩)))
theorem dx:Tryz.prog.follows .mixedOrders=true:=by kernel_rfl
theorem pN(d m:Nat)(wv:Value)(s:fA)(ar dn:Bool)(lf at':Int)(b:List UInt8)(hb:b.length=64):
 DT 93 #[(.pointer (some ⟨d,0,none⟩)),(.int .i64 (at')),(.agg (dL b).toArray)] T0 [ak d [(.map (some m)),wv,(.bool (ar)),(.int .i64 (lf)),(.bool (dn))] 140,kq m (sT s)] (dA (λ_ H=>H=[ak d [(.map (some m)),wv,(.bool (ar)),(.int .i64 (lf)),(.bool (dn))] 140,kq m (sT (oV s at' b))])):=by
 refine BD 21 Tryz.func93 rfl rfl rfl λw0 F hF=>sr λ_ J1=>XY (dL b) λb5=>?_
 refine nx J1 (aa λ_ J2=>sr λ_ J3=>P2 ?_);refine FA 0 ia Da ?_;refine LA 1 zF ?_;refine tp (PV.mapNil rfl zF rfl rfl) ?_;refine nx J3 (CN (qx J2 (D2 1 0 dx ?_)));refine PD 0 ?_;refine PD 1 ?_;refine FD 2 0 ia Da ?_;refine LX 3 zF (.map (some m)) ?_ (hc:=by exact rfl);refine PD 4 ?_;refine ta 5 rfl (aP (vs:=dL b) rfl qg rfl j7 rfl (λ_ h=>h.2.2.1) (by rw[aW];exact hb) (by rw[ba,az (by rw[aW,hb];exact aH _)])) ?_;refine AL 6 ?_;exact TL.mapUpdate (i:=2) (H':=[ak b5 (dL b) 173,ak d [(.map (some m)),wv,(.bool (ar)),(.int .i64 (lf)),(.bool (dn))] 140,kq m (sT (oV s at' b))]) (ab rfl) rfl rfl zF Y3 rfl rfl rfl rfl rfl (congrArg (λq=>List.set _ 2 (kq m q)) (Lg _ _ _)) (EN (DN (WK [1,1] (bC rfl rfl))))
theorem zw(d m:Nat)(wv:Value)(ws:fA)(ar dn:Bool)(lf at':Int)(x:Value)(bs:List UInt8)(hl:0≤lf∧lf≤9223372036854775807)(hw:ws.length≤1000000000):
 DT 95 #[(.pointer (some ⟨d,0,none⟩)),(.int .i64 (at')),x] (IsW x bs) [ak d [(.map (some m)),wv,(.bool (ar)),(.int .i64 (lf)),(.bool (dn))] 140,own wv (ws.length) (dU ws) 175 65] (dA (λv H=>if at'<0∨2048≤at'∨64<bs.length then v= .int .i64 5∧H=[ak d [(.map (some m)),wv,(.bool (ar)),(.int .i64 (lf)),(.bool (dn))] 140,own wv (ws.length) (dU ws) 175 65]else if dn=true∨(ar=true∧lf=0)then v= .int .i64 4∧H=[ak d [(.map (some m)),wv,(.bool (ar)),(.int .i64 (lf)),(.bool true)] 140,own wv (ws.length) (dU ws) 175 65]else v= .int .i64 0∧∃wv',H=[ak d [(.map (some m)),wv',(.bool (ar)),(.int .i64 ((if ar=true then lf-1 else lf))),(.bool false)] 140,own wv' ((ws++[(at',eP bs)]).length) (dU (ws++[(at',eP bs)])) 175 65])):=by
 refine BD 64 Tryz.func95 rfl rfl rfl λw0 F hF=>sr λ_ J1=>PS ?_
 refine nx J1 (aa λ_ J2=>sr λ_ J3=>P2 ?_);refine aq ?_ ?_<;>intro h9;refine PS ?_;refine UT ?_;refine UT ?_;refine P2 ?_
 iterate 3 refine UT ?_
 refine PS ?_;refine nx J3 (CY (sr λ_ J4=>PS ?_));refine nx J4 (aj (ag (WK [0,0] (aw rfl rfl ?_))));show(if _ then _ else _)
 first
  | (rw[if_pos (by omega)];exact⟨rfl,rfl⟩)
  | (rw[if_neg (by omega),if_pos (by simp_all)];exact⟨rfl,by simp_all<;>rfl⟩)
  | (rw[if_neg (by omega),if_neg (by simp_all)];exact⟨rfl,v61,by simp_all<;>rfl⟩)
 refine P3 ?_;refine aq ?_ ?_<;>intro h12;refine P2 ?_
 iterate 3 refine UT ?_
 refine PS ?_;refine nx J3 (CY (sr λ_ J5=>PS ?_));refine nx J5 (aj (ag (WK [0,0] (aw rfl rfl ?_))));show(if _ then _ else _)
 first
  | (rw[if_pos (by omega)];exact⟨rfl,rfl⟩)
  | (rw[if_neg (by omega),if_pos (by simp_all)];exact⟨rfl,by simp_all<;>rfl⟩)
  | (rw[if_neg (by omega),if_neg (by simp_all)];exact⟨rfl,v61,by simp_all<;>rfl⟩)
 refine P3 ?_;refine tq (dI rfl gA rfl hF.len) ?_;refine PS ?_;refine aq ?_ ?_<;>intro h17;refine PS ?_;refine nx J3 (CY (sr λ_ J6=>PS ?_));refine nx J6 (aj (ag (WK [0,0] (aw rfl rfl ?_))));show(if _ then _ else _)
 first
  | (rw[if_pos (by omega)];exact⟨rfl,rfl⟩)
  | (rw[if_neg (by omega),if_pos (by simp_all)];exact⟨rfl,by simp_all<;>rfl⟩)
  | (rw[if_neg (by omega),if_neg (by simp_all)];exact⟨rfl,v61,by simp_all<;>rfl⟩)
 refine PS ?_;refine nx J3 (CN (qx J2 (aa λ_ J7=>sr λ_ J8=>P2 ?_)));refine FA 2 ia lK ?_;refine LA 0 Y4 ?_;refine bh ?_ ?_<;>intro h22;refine P3 ?_;refine FA 3 ia aR ?_;refine LA 0 Y3 ?_;refine PS ?_;refine aq ?_ ?_<;>intro h28;refine PS ?_;refine nx J8 (CY (af (P2 ?_)));refine FA 4 ia lK ?_;refine S0 0 lK ?_;refine nx J7 (aa λ_ J9=>sr λ_ J10=>P2 ?_);refine FA 4 ia lK ?_;refine LA 0 Y4 ?_;refine nx J10 (CY (sr λ_ J11=>PS ?_));refine nx J11 (aj (ag (WK [0,0] (aw rfl rfl ?_))));show(if _ then _ else _)
 first
  | (rw[if_pos (by omega)];exact⟨rfl,rfl⟩)
  | (rw[if_neg (by omega),if_pos (by simp_all)];exact⟨rfl,by simp_all<;>rfl⟩)
  | (rw[if_neg (by omega),if_neg (by simp_all)];exact⟨rfl,v61,by simp_all<;>rfl⟩)
 refine PS ?_;refine nx J8 (CN (qx J7 (aa λ_ J12=>sr λ_ J13=>P2 ?_)));refine FA 4 ia lK ?_;refine LA 0 Y4 ?_;refine bh ?_ ?_<;>intro h36;refine nx J13 (CY (sr λ_ J14=>PS ?_));refine nx J14 (aj (ag (WK [0,0] (aw rfl rfl ?_))));show(if _ then _ else _)
 first
  | (rw[if_pos (by omega)];exact⟨rfl,rfl⟩)
  | (rw[if_neg (by omega),if_pos (by simp_all)];exact⟨rfl,by simp_all<;>rfl⟩)
  | (rw[if_neg (by omega),if_neg (by simp_all)];exact⟨rfl,v61,by simp_all<;>rfl⟩)
 refine nx J13 (CN (qx J12 (aa λ_ J15=>sr λ_ J16=>P2 ?_)));refine FA 2 ia lK ?_;refine LA 0 Y4 ?_;refine bh ?_ ?_<;>intro h40;refine nx J16 (CY (af (P2 ?_)));refine FA 3 ia aR ?_;refine LA 0 Y3 ?_;refine tp (jC rfl rfl rfl (bY (by omega) (by omega))) ?_;refine PS ?_;refine FA 3 ia aR ?_;refine S0 0 aR ?_;refine nx J15 (sr λ_ J17=>PS ?_);refine BV (((.int .i64 (at'))::List.replicate 64 (.int .u8 0)).toArray) ?_;refine XA HN λb7=>?_
 refine bT (vs:=((.int .i64 (at'))::List.replicate 64 (.int .u8 0))) (i:=0) (ab rfl) rfl rfl rfl rfl rfl mR (by simp[Value.oneCell']) rfl rfl (MV rfl) rfl rfl (nx J17 (sr λ_ J18=>FA 1 pW j7 ?_));refine tp (mA rfl qg l5 rfl) ?_;refine PS ?_;refine O8 (i:=0) (m:=bs.length) (news:=(dL bs)) (H':=[ak b7 (di (at',eP bs)) 175,ak d [(.map (some m)),wv,(.bool (ar)),(.int .i64 (lf-1)),(.bool (dn))] 140,own wv (ws.length) (dU ws) 175 65]) (ab rfl) rfl rfl rfl gA l5 rfl rfl rfl rfl (λ_ _=>hF.src (λ_ h=>fm h)) (e6 _) (by show 1+min bs.length 64≤65;omega) (Bh (by omega)) rfl (nx J18 (aa λ_ J19=>D1 0 dx ?_));refine PD 0 ?_;refine PD 1 ?_;refine PD 2 ?_;refine FD 3 1 ia hO ?_;refine ta 5 rfl (aP (vs:=di (at',eP bs)) rfl pW rfl mR rfl (λ_ h=>h.2.1) (cu (dQ (by omega))) (by rw[ba,az (by rw[(cu (dQ (by omega)))];exact aH _)])) ?_;refine cZ [4,6] (by kernel_rfl) rfl (aG rfl ?_ ?_);refine LA 1 jz ?_;refine EN (AL 6 ?_);refine aT (cells:=(di (at',eP bs)).toArray) (ab rfl) rfl rfl rfl jz mX rfl rfl rfl (nf (cu (dQ (by omega))) (by simp)) (λb60=>?_);change TL _ _ _ _ _ _ _ _ _ [ak b60 (di (at',eP bs)) 175,ak b7 (di (at',eP bs)) 175,ak d [(.map (some m)),wv,(.bool (ar)),(.int .i64 (lf-1)),(.bool (dn))] 140,own wv (ws.length) (dU ws) 175 65];refine EN (AL 7 ?_)
 refine cF (k:=3) (news:=di (at',eP bs)) (nn':=(ws++[(at',eP bs)]).length) (xs':=dU (ws++[(at',eP bs)])) (ab rfl) rfl rfl rfl jz mX rfl rfl rfl rfl rfl rfl (λ_ _=>jB (cu (dQ (by omega))) (RO 0) (by rw[ba,az (aH _)])) (ji _) (by simp only[maxLen];omega) (by omega) (by simp) (by simp[dU]) (λv61 ov61=>EN (PD 8 ?_));refine FD 9 1 ia hO ?_;refine AL 10 ?_;refine bF (i:=2) (ab rfl) rfl rfl rfl rfl ov61 hO rfl rfl (lb rfl) rfl rfl (EN (DN (ae J19 (sr λ_ J20=>PS ?_))));refine nx J20 (aj (WK [2,2] (aw rfl rfl ?_)));show(if _ then _ else _)
 first
  | (rw[if_pos (by omega)];exact⟨rfl,rfl⟩)
  | (rw[if_neg (by omega),if_pos (by simp_all)];exact⟨rfl,by simp_all<;>rfl⟩)
  | (rw[if_neg (by omega),if_neg (by simp_all)];exact⟨rfl,v61,by simp_all<;>rfl⟩)
 refine aG rfl ?_ ?_;refine aT (cells:=(di (at',eP bs)).toArray) (ab rfl) rfl rfl rfl jz mX rfl rfl rfl (nf (cu (dQ (by omega))) (by simp)) (λb60=>?_);change TL _ _ _ _ _ _ _ _ _ [ak b60 (di (at',eP bs)) 175,ak b7 (di (at',eP bs)) 175,ak d [(.map (some m)),wv,(.bool (ar)),(.int .i64 (lf-1)),(.bool (dn))] 140,own wv (ws.length) (dU ws) 175 65];refine EN (AL 4 ?_);refine LA 2 jz ?_;refine EN (AL 7 ?_);refine cF (k:=3) (news:=di (at',eP bs)) (nn':=(ws++[(at',eP bs)]).length) (xs':=dU (ws++[(at',eP bs)])) (ab rfl) rfl rfl rfl jz mX rfl rfl rfl rfl rfl rfl (λ_ _=>jB (cu (dQ (by omega))) (RO 0) (by rw[ba,az (aH _)])) (ji _) (by simp only[maxLen];omega) (by omega) (by simp) (by simp[dU]) (λv61 ov61=>EN (PD 8 ?_));refine FD 9 1 ia hO ?_;refine AL 10 ?_;refine bF (i:=2) (ab rfl) rfl rfl rfl rfl ov61 hO rfl rfl (lb rfl) rfl rfl (EN (DN (ae J19 (sr λ_ J21=>PS ?_))));refine nx J21 (aj (WK [2,2] (aw rfl rfl ?_)));show(if _ then _ else _)
 first
  | (rw[if_pos (by omega)];exact⟨rfl,rfl⟩)
  | (rw[if_neg (by omega),if_pos (by simp_all)];exact⟨rfl,by simp_all<;>rfl⟩)
  | (rw[if_neg (by omega),if_neg (by simp_all)];exact⟨rfl,v61,by simp_all<;>rfl⟩)
 exact bM;refine nx J16 (CN (qx J15 (sr λ_ J22=>PS ?_)));refine BV (((.int .i64 (at'))::List.replicate 64 (.int .u8 0)).toArray) ?_;refine XA HN λb7=>?_
 refine bT (vs:=((.int .i64 (at'))::List.replicate 64 (.int .u8 0))) (i:=0) (ab rfl) rfl rfl rfl rfl rfl mR (by simp[Value.oneCell']) rfl rfl (MV rfl) rfl rfl (nx J22 (sr λ_ J23=>FA 1 pW j7 ?_));refine tp (mA rfl qg l5 rfl) ?_;refine PS ?_;refine O8 (i:=0) (m:=bs.length) (news:=(dL bs)) (H':=[ak b7 (di (at',eP bs)) 175,ak d [(.map (some m)),wv,(.bool (ar)),(.int .i64 (lf)),(.bool (dn))] 140,own wv (ws.length) (dU ws) 175 65]) (ab rfl) rfl rfl rfl gA l5 rfl rfl rfl rfl (λ_ _=>hF.src (λ_ h=>fm h)) (e6 _) (by show 1+min bs.length 64≤65;omega) (Bh (by omega)) rfl (nx J23 (aa λ_ J24=>D1 0 dx ?_));refine PD 0 ?_;refine PD 1 ?_;refine PD 2 ?_;refine FD 3 1 ia hO ?_;refine ta 5 rfl (aP (vs:=di (at',eP bs)) rfl pW rfl mR rfl (λ_ h=>h.2.1) (cu (dQ (by omega))) (by rw[ba,az (by rw[(cu (dQ (by omega)))];exact aH _)])) ?_;refine cZ [4,6] (by kernel_rfl) rfl (aG rfl ?_ ?_);refine LA 1 jz ?_;refine EN (AL 6 ?_);refine aT (cells:=(di (at',eP bs)).toArray) (ab rfl) rfl rfl rfl jz mX rfl rfl rfl (nf (cu (dQ (by omega))) (by simp)) (λb60=>?_);change TL _ _ _ _ _ _ _ _ _ [ak b60 (di (at',eP bs)) 175,ak b7 (di (at',eP bs)) 175,ak d [(.map (some m)),wv,(.bool (ar)),(.int .i64 (lf)),(.bool (dn))] 140,own wv (ws.length) (dU ws) 175 65];refine EN (AL 7 ?_)
 refine cF (k:=3) (news:=di (at',eP bs)) (nn':=(ws++[(at',eP bs)]).length) (xs':=dU (ws++[(at',eP bs)])) (ab rfl) rfl rfl rfl jz mX rfl rfl rfl rfl rfl rfl (λ_ _=>jB (cu (dQ (by omega))) (RO 0) (by rw[ba,az (aH _)])) (ji _) (by simp only[maxLen];omega) (by omega) (by simp) (by simp[dU]) (λv61 ov61=>EN (PD 8 ?_));refine FD 9 1 ia hO ?_;refine AL 10 ?_;refine bF (i:=2) (ab rfl) rfl rfl rfl rfl ov61 hO rfl rfl (lb rfl) rfl rfl (EN (DN (ae J24 (sr λ_ J25=>PS ?_))));refine nx J25 (aj (WK [2,2] (aw rfl rfl ?_)));show(if _ then _ else _)
 first
  | (rw[if_pos (by omega)];exact⟨rfl,rfl⟩)
  | (rw[if_neg (by omega),if_pos (by simp_all)];exact⟨rfl,by simp_all<;>rfl⟩)
  | (rw[if_neg (by omega),if_neg (by simp_all)];exact⟨rfl,v61,by simp_all<;>rfl⟩)
 refine aG rfl ?_ ?_;refine aT (cells:=(di (at',eP bs)).toArray) (ab rfl) rfl rfl rfl jz mX rfl rfl rfl (nf (cu (dQ (by omega))) (by simp)) (λb60=>?_);change TL _ _ _ _ _ _ _ _ _ [ak b60 (di (at',eP bs)) 175,ak b7 (di (at',eP bs)) 175,ak d [(.map (some m)),wv,(.bool (ar)),(.int .i64 (lf)),(.bool (dn))] 140,own wv (ws.length) (dU ws) 175 65];refine EN (AL 4 ?_);refine LA 2 jz ?_;refine EN (AL 7 ?_);refine cF (k:=3) (news:=di (at',eP bs)) (nn':=(ws++[(at',eP bs)]).length) (xs':=dU (ws++[(at',eP bs)])) (ab rfl) rfl rfl rfl jz mX rfl rfl rfl rfl rfl rfl (λ_ _=>jB (cu (dQ (by omega))) (RO 0) (by rw[ba,az (aH _)])) (ji _) (by simp only[maxLen];omega) (by omega) (by simp) (by simp[dU]) (λv61 ov61=>EN (PD 8 ?_));refine FD 9 1 ia hO ?_;refine AL 10 ?_;refine bF (i:=2) (ab rfl) rfl rfl rfl rfl ov61 hO rfl rfl (lb rfl) rfl rfl (EN (DN (ae J24 (sr λ_ J26=>PS ?_))));refine nx J26 (aj (WK [2,2] (aw rfl rfl ?_)));show(if _ then _ else _)
 first
  | (rw[if_pos (by omega)];exact⟨rfl,rfl⟩)
  | (rw[if_neg (by omega),if_pos (by simp_all)];exact⟨rfl,by simp_all<;>rfl⟩)
  | (rw[if_neg (by omega),if_neg (by simp_all)];exact⟨rfl,v61,by simp_all<;>rfl⟩)
 exact bM;refine PS ?_
 iterate 5 refine UF ?_
 refine PS ?_;refine nx J8 (CN (qx J7 (aa λ_ J27=>sr λ_ J28=>P2 ?_)));refine FA 4 ia lK ?_;refine LA 0 Y4 ?_;refine bh ?_ ?_<;>intro h36;refine nx J28 (CY (sr λ_ J29=>PS ?_));refine nx J29 (aj (ag (WK [0,0] (aw rfl rfl ?_))));show(if _ then _ else _)
 first
  | (rw[if_pos (by omega)];exact⟨rfl,rfl⟩)
  | (rw[if_neg (by omega),if_pos (by simp_all)];exact⟨rfl,by simp_all<;>rfl⟩)
  | (rw[if_neg (by omega),if_neg (by simp_all)];exact⟨rfl,v61,by simp_all<;>rfl⟩)
 refine nx J28 (CN (qx J27 (aa λ_ J30=>sr λ_ J31=>P2 ?_)));refine FA 2 ia lK ?_;refine LA 0 Y4 ?_;refine bh ?_ ?_<;>intro h40;refine nx J31 (CY (af (P2 ?_)));refine FA 3 ia aR ?_;refine LA 0 Y3 ?_;refine tp (jC rfl rfl rfl (bY (by omega) (by omega))) ?_;refine PS ?_;refine FA 3 ia aR ?_;refine S0 0 aR ?_;refine nx J30 (sr λ_ J32=>PS ?_);refine BV (((.int .i64 (at'))::List.replicate 64 (.int .u8 0)).toArray) ?_;refine XA HN λb7=>?_
 refine bT (vs:=((.int .i64 (at'))::List.replicate 64 (.int .u8 0))) (i:=0) (ab rfl) rfl rfl rfl rfl rfl mR (by simp[Value.oneCell']) rfl rfl (MV rfl) rfl rfl (nx J32 (sr λ_ J33=>FA 1 pW j7 ?_));refine tp (mA rfl qg l5 rfl) ?_;refine PS ?_;refine O8 (i:=0) (m:=bs.length) (news:=(dL bs)) (H':=[ak b7 (di (at',eP bs)) 175,ak d [(.map (some m)),wv,(.bool (ar)),(.int .i64 (lf-1)),(.bool (dn))] 140,own wv (ws.length) (dU ws) 175 65]) (ab rfl) rfl rfl rfl gA l5 rfl rfl rfl rfl (λ_ _=>hF.src (λ_ h=>fm h)) (e6 _) (by show 1+min bs.length 64≤65;omega) (Bh (by omega)) rfl (nx J33 (aa λ_ J34=>D1 0 dx ?_));refine PD 0 ?_;refine PD 1 ?_;refine PD 2 ?_;refine FD 3 1 ia hO ?_;refine ta 5 rfl (aP (vs:=di (at',eP bs)) rfl pW rfl mR rfl (λ_ h=>h.2.1) (cu (dQ (by omega))) (by rw[ba,az (by rw[(cu (dQ (by omega)))];exact aH _)])) ?_;refine cZ [4,6] (by kernel_rfl) rfl (aG rfl ?_ ?_);refine LA 1 jz ?_;refine EN (AL 6 ?_);refine aT (cells:=(di (at',eP bs)).toArray) (ab rfl) rfl rfl rfl jz mX rfl rfl rfl (nf (cu (dQ (by omega))) (by simp)) (λb60=>?_);change TL _ _ _ _ _ _ _ _ _ [ak b60 (di (at',eP bs)) 175,ak b7 (di (at',eP bs)) 175,ak d [(.map (some m)),wv,(.bool (ar)),(.int .i64 (lf-1)),(.bool (dn))] 140,own wv (ws.length) (dU ws) 175 65];refine EN (AL 7 ?_)
 refine cF (k:=3) (news:=di (at',eP bs)) (nn':=(ws++[(at',eP bs)]).length) (xs':=dU (ws++[(at',eP bs)])) (ab rfl) rfl rfl rfl jz mX rfl rfl rfl rfl rfl rfl (λ_ _=>jB (cu (dQ (by omega))) (RO 0) (by rw[ba,az (aH _)])) (ji _) (by simp only[maxLen];omega) (by omega) (by simp) (by simp[dU]) (λv61 ov61=>EN (PD 8 ?_));refine FD 9 1 ia hO ?_;refine AL 10 ?_;refine bF (i:=2) (ab rfl) rfl rfl rfl rfl ov61 hO rfl rfl (lb rfl) rfl rfl (EN (DN (ae J34 (sr λ_ J35=>PS ?_))));refine nx J35 (aj (WK [2,2] (aw rfl rfl ?_)));show(if _ then _ else _)
 first
  | (rw[if_pos (by omega)];exact⟨rfl,rfl⟩)
  | (rw[if_neg (by omega),if_pos (by simp_all)];exact⟨rfl,by simp_all<;>rfl⟩)
  | (rw[if_neg (by omega),if_neg (by simp_all)];exact⟨rfl,v61,by simp_all<;>rfl⟩)
 refine aG rfl ?_ ?_;refine aT (cells:=(di (at',eP bs)).toArray) (ab rfl) rfl rfl rfl jz mX rfl rfl rfl (nf (cu (dQ (by omega))) (by simp)) (λb60=>?_);change TL _ _ _ _ _ _ _ _ _ [ak b60 (di (at',eP bs)) 175,ak b7 (di (at',eP bs)) 175,ak d [(.map (some m)),wv,(.bool (ar)),(.int .i64 (lf-1)),(.bool (dn))] 140,own wv (ws.length) (dU ws) 175 65];refine EN (AL 4 ?_);refine LA 2 jz ?_;refine EN (AL 7 ?_);refine cF (k:=3) (news:=di (at',eP bs)) (nn':=(ws++[(at',eP bs)]).length) (xs':=dU (ws++[(at',eP bs)])) (ab rfl) rfl rfl rfl jz mX rfl rfl rfl rfl rfl rfl (λ_ _=>jB (cu (dQ (by omega))) (RO 0) (by rw[ba,az (aH _)])) (ji _) (by simp only[maxLen];omega) (by omega) (by simp) (by simp[dU]) (λv61 ov61=>EN (PD 8 ?_));refine FD 9 1 ia hO ?_;refine AL 10 ?_;refine bF (i:=2) (ab rfl) rfl rfl rfl rfl ov61 hO rfl rfl (lb rfl) rfl rfl (EN (DN (ae J34 (sr λ_ J36=>PS ?_))));refine nx J36 (aj (WK [2,2] (aw rfl rfl ?_)));show(if _ then _ else _)
 first
  | (rw[if_pos (by omega)];exact⟨rfl,rfl⟩)
  | (rw[if_neg (by omega),if_pos (by simp_all)];exact⟨rfl,by simp_all<;>rfl⟩)
  | (rw[if_neg (by omega),if_neg (by simp_all)];exact⟨rfl,v61,by simp_all<;>rfl⟩)
 exact bM;refine nx J31 (CN (qx J30 (sr λ_ J37=>PS ?_)));refine BV (((.int .i64 (at'))::List.replicate 64 (.int .u8 0)).toArray) ?_;refine XA HN λb7=>?_
 refine bT (vs:=((.int .i64 (at'))::List.replicate 64 (.int .u8 0))) (i:=0) (ab rfl) rfl rfl rfl rfl rfl mR (by simp[Value.oneCell']) rfl rfl (MV rfl) rfl rfl (nx J37 (sr λ_ J38=>FA 1 pW j7 ?_));refine tp (mA rfl qg l5 rfl) ?_;refine PS ?_;refine O8 (i:=0) (m:=bs.length) (news:=(dL bs)) (H':=[ak b7 (di (at',eP bs)) 175,ak d [(.map (some m)),wv,(.bool (ar)),(.int .i64 (lf)),(.bool (dn))] 140,own wv (ws.length) (dU ws) 175 65]) (ab rfl) rfl rfl rfl gA l5 rfl rfl rfl rfl (λ_ _=>hF.src (λ_ h=>fm h)) (e6 _) (by show 1+min bs.length 64≤65;omega) (Bh (by omega)) rfl (nx J38 (aa λ_ J39=>D1 0 dx ?_));refine PD 0 ?_;refine PD 1 ?_;refine PD 2 ?_;refine FD 3 1 ia hO ?_;refine ta 5 rfl (aP (vs:=di (at',eP bs)) rfl pW rfl mR rfl (λ_ h=>h.2.1) (cu (dQ (by omega))) (by rw[ba,az (by rw[(cu (dQ (by omega)))];exact aH _)])) ?_;refine cZ [4,6] (by kernel_rfl) rfl (aG rfl ?_ ?_);refine LA 1 jz ?_;refine EN (AL 6 ?_);refine aT (cells:=(di (at',eP bs)).toArray) (ab rfl) rfl rfl rfl jz mX rfl rfl rfl (nf (cu (dQ (by omega))) (by simp)) (λb60=>?_);change TL _ _ _ _ _ _ _ _ _ [ak b60 (di (at',eP bs)) 175,ak b7 (di (at',eP bs)) 175,ak d [(.map (some m)),wv,(.bool (ar)),(.int .i64 (lf)),(.bool (dn))] 140,own wv (ws.length) (dU ws) 175 65];refine EN (AL 7 ?_)
 refine cF (k:=3) (news:=di (at',eP bs)) (nn':=(ws++[(at',eP bs)]).length) (xs':=dU (ws++[(at',eP bs)])) (ab rfl) rfl rfl rfl jz mX rfl rfl rfl rfl rfl rfl (λ_ _=>jB (cu (dQ (by omega))) (RO 0) (by rw[ba,az (aH _)])) (ji _) (by simp only[maxLen];omega) (by omega) (by simp) (by simp[dU]) (λv61 ov61=>EN (PD 8 ?_));refine FD 9 1 ia hO ?_;refine AL 10 ?_;refine bF (i:=2) (ab rfl) rfl rfl rfl rfl ov61 hO rfl rfl (lb rfl) rfl rfl (EN (DN (ae J39 (sr λ_ J40=>PS ?_))));refine nx J40 (aj (WK [2,2] (aw rfl rfl ?_)));show(if _ then _ else _)
 first
  | (rw[if_pos (by omega)];exact⟨rfl,rfl⟩)
  | (rw[if_neg (by omega),if_pos (by simp_all)];exact⟨rfl,by simp_all<;>rfl⟩)
  | (rw[if_neg (by omega),if_neg (by simp_all)];exact⟨rfl,v61,by simp_all<;>rfl⟩)
 refine aG rfl ?_ ?_;refine aT (cells:=(di (at',eP bs)).toArray) (ab rfl) rfl rfl rfl jz mX rfl rfl rfl (nf (cu (dQ (by omega))) (by simp)) (λb60=>?_);change TL _ _ _ _ _ _ _ _ _ [ak b60 (di (at',eP bs)) 175,ak b7 (di (at',eP bs)) 175,ak d [(.map (some m)),wv,(.bool (ar)),(.int .i64 (lf)),(.bool (dn))] 140,own wv (ws.length) (dU ws) 175 65];refine EN (AL 4 ?_);refine LA 2 jz ?_;refine EN (AL 7 ?_);refine cF (k:=3) (news:=di (at',eP bs)) (nn':=(ws++[(at',eP bs)]).length) (xs':=dU (ws++[(at',eP bs)])) (ab rfl) rfl rfl rfl jz mX rfl rfl rfl rfl rfl rfl (λ_ _=>jB (cu (dQ (by omega))) (RO 0) (by rw[ba,az (aH _)])) (ji _) (by simp only[maxLen];omega) (by omega) (by simp) (by simp[dU]) (λv61 ov61=>EN (PD 8 ?_));refine FD 9 1 ia hO ?_;refine AL 10 ?_;refine bF (i:=2) (ab rfl) rfl rfl rfl rfl ov61 hO rfl rfl (lb rfl) rfl rfl (EN (DN (ae J39 (sr λ_ J41=>PS ?_))));refine nx J41 (aj (WK [2,2] (aw rfl rfl ?_)));show(if _ then _ else _)
 first
  | (rw[if_pos (by omega)];exact⟨rfl,rfl⟩)
  | (rw[if_neg (by omega),if_pos (by simp_all)];exact⟨rfl,by simp_all<;>rfl⟩)
  | (rw[if_neg (by omega),if_neg (by simp_all)];exact⟨rfl,v61,by simp_all<;>rfl⟩)
 exact bM
theorem vq(d m:Nat)(wv:Value)(ar:Bool)(lf:Int):
 DT 96 #[(.pointer (some ⟨d,0,none⟩))] T0 [ak d [(.map (some m)),wv,(.bool (ar)),(.int .i64 (lf)),(.bool true)] 140] (RI (.int .i64 4) [ak d [(.map (some m)),wv,(.bool (ar)),(.int .i64 (lf)),(.bool true)] 140]):=by
 refine BD 28 Tryz.func96 rfl rfl rfl λw0 F hF=>sr λ_ J1=>PS ?_
 refine nx J1 (aa λ_ J2=>sr λ_ J3=>P2 ?_);refine FA 4 ia lK ?_;refine LA 0 Y4 ?_;refine nx J3 (CY (sr λ_ J4=>PS ?_));exact nx J4 (aj (ag (WK [0] (aw rfl rfl ⟨rfl,rfl⟩))))
theorem yM(d m:Nat)(wv:Value)(s ws:fA)(ar:Bool)(lf:Int)(hw:Whole ws):
 DT 96 #[(.pointer (some ⟨d,0,none⟩))] T0 [ak d [(.map (some m)),wv,(.bool (ar)),(.int .i64 (lf)),(.bool false)] 140,kq m (sT s),own wv (ws.length) (dU ws) 175 65] (RI (.int .i64 0) [ak d [(.map (some m)),(.slice none 0 0),(.bool (ar)),(.int .i64 (lf)),(.bool false)] 140,kq m (sT (Ed s ws ws.length)),own (.slice none 0 0) 0 [] 175 65]):=by
 refine BD 28 Tryz.func96 rfl rfl rfl λw0 F hF=>sr λ_ J1=>iV 2 rfl rfl (λhwl _=>PS ?_)
 refine nx J1 (aa λ_ J2=>sr λ_ J3=>P2 ?_);refine FA 4 ia lK ?_;refine LA 0 Y4 ?_;refine nx J3 (CN (qx J2 (aa λ_ J4=>sr λ_ J5=>P2 ?_)));refine FA 1 ia hO ?_;refine LA 0 jz ?_;refine tp (dI rfl jz rfl hwl) ?_;refine PS ?_;refine nx J5 (av ?_)
 refine bz (α:=(Nat)×(fA)) (λ⟨k,s'⟩=>k≤ws.length∧s'=Ed s ws k) (λ⟨k,s'⟩=>[(0,(.pointer (some ⟨d,0,none⟩))),(2,(.int .i64 0)),(12,wv),(13,(.int .i64 (((ws.length:Nat):Int)))),(14,(.int .i64 (((k:Nat):Int))))]) (λ⟨k,s'⟩=>[ak d [(.map (some m)),wv,(.bool (ar)),(.int .i64 (lf)),(.bool false)] 140,kq m (sT s'),own wv (ws.length) (dU ws) 175 65]) (λ⟨k,s'⟩=>ws.length-k) (0,s)
  ⟨aO _,rfl⟩ SB
  (λ_ s=>s) (λ⟨k,s'⟩ hinv=>?_)
 obtain⟨hk,hs'⟩:=hinv;refine sr λ_ J6=>PS ?_
 refine aq ?_ ?_<;>intro h15;refine iI 2 rfl rfl (by omega) (λg cap hv hcap=>nx J6 (aa λ_ J7=>CY (qx J7 (aa λ_ J8=>av (sr λ_ J9=>tp (bO (r:=k*65) hv rfl jz mR rfl rfl (by omega) (by omega) (by omega)) ?_)))));refine tp (Fq (vs:=di (kM ws k)) rfl pW rfl mR rfl (fQ 2 rfl hv rfl) (cu (dY hw (by omega))) (rC hw (by omega))) ?_;refine XA HN λb4=>?_
 refine bT (vs:=di (kM ws k)) (i:=0) (ab rfl) rfl rfl rfl rfl rfl (by rw[cu (dY hw (by omega))];exact mR) (ji _) rfl rfl (by rw[cu (dY hw (by omega))];exact aH _) (gE (Eq.trans (rfl:_=65) (by rw[cu (dY hw (by omega))]:(di (kM ws k)).length=65).symm)) rfl (nx J9 (af (PS ?_)));refine FA 0 pW aR ?_;refine LA 0 Y3 ?_;refine FA 1 pW j7 ?_;refine tp (aP (vs:=dL (kM ws k).2) rfl qg rfl j7 rfl (RO 0) (by rw[aW];exact dY hw (by omega)) (xb (dY hw (by omega)))) ?_;refine CR Om (pN d m wv s' ar false lf ((kM ws k).1) (kM ws k).2 (by exact dY hw (by omega))) (SM [1,1]) λvR HR hR=>?_
 subst hR;refine ax (ai (ae J8 (af (AD ?_))));refine PS ?_;refine ax ?_
 exact aM ((k+1,oV s' (kM ws k).1 (kM ws k).2):(Nat)×(fA)) ⟨by omega,by rw[hs'];rfl⟩ (by show ws.length- (k+1)<ws.length-k;omega)
  SB
  (λ_ s=>an [0,0,1] rfl s)
 refine nx J6 (aa λ_ J10=>CN (aX (aC (aC (bq (ae J4 (sr λ_ J11=>P2 ?_)))))));refine FA 1 ia hO ?_;refine S0 0 hO ?_;refine nx J11 (sr λ_ J12=>PS ?_);refine nx J12 (aj (aF (H':=[ak d [(.map (some m)),(.slice none 0 0),(.bool (ar)),(.int .i64 (lf)),(.bool false)] 140,kq m (sT s'),own (.slice none 0 0) 0 [] 175 65]) (dH _) (λ_ s=>eA (List.Perm.trans (List.Perm.swap _ _ _) (List.Perm.cons _ (List.Perm.swap _ _ _))) (gI 175 65 (an [0,0] rfl s))) (aw rfl rfl ?_)));obtain rfl:k=ws.length:=by omega
 subst hs';exact⟨rfl,rfl⟩
theorem Cf(d m:Nat)(wv:Value)(s ws:fA)(ar dn:Bool)(lf at':Int)(hs2:Whole s)(hw:Whole ws)(hb:ws.length≤1000000000):
 DT 104 #[(.pointer (some ⟨d,0,none⟩)),(.int .i64 (at'))] T0 [ak d [(.map (some m)),wv,(.bool (ar)),(.int .i64 (lf)),(.bool (dn))] 140,kq m (sT s),own wv (ws.length) (dU ws) 175 65] (RI (DE (jb s ws at' ws.length)) [ak d [(.map (some m)),wv,(.bool (ar)),(.int .i64 (lf)),(.bool (dn))] 140,kq m (sT s),own wv (ws.length) (dU ws) 175 65]):=by
 refine BD 40 Tryz.func104 rfl rfl rfl λw0 F hF=>sr λ_ J1=>iV 2 rfl rfl (λhwl _=>XA z173 λb4=>?_)
 refine nx J1 (aa λ_ J2=>sr λ_ J3=>P2 ?_);refine FA 1 ia hO ?_;refine LA 1 jz ?_;refine tp (dI rfl jz rfl hwl) ?_;refine tp (jC rfl rfl rfl (bY (by omega) (by omega))) ?_;refine PS ?_;refine nx J3 (av ?_)
 refine bz (α:=(Int)) (λp=> -1≤p∧p<ws.length∧jb s ws at' (p+1).toNat=jb s ws at' ws.length) (λp=>[(0,(.pointer (some ⟨d,0,none⟩))),(1,(.int .i64 (at'))),(4,(.pointer (some ⟨b4,0,none⟩))),(5,(.int .i64 (p)))]) (λp=>[ak b4 [(.int .u8 0),(.int .u8 0),(.int .u8 0),(.int .u8 0),(.int .u8 0),(.int .u8 0),(.int .u8 0),(.int .u8 0),(.int .u8 0),(.int .u8 0),(.int .u8 0),(.int .u8 0),(.int .u8 0),(.int .u8 0),(.int .u8 0),(.int .u8 0),(.int .u8 0),(.int .u8 0),(.int .u8 0),(.int .u8 0),(.int .u8 0),(.int .u8 0),(.int .u8 0),(.int .u8 0),(.int .u8 0),(.int .u8 0),(.int .u8 0),(.int .u8 0),(.int .u8 0),(.int .u8 0),(.int .u8 0),(.int .u8 0),(.int .u8 0),(.int .u8 0),(.int .u8 0),(.int .u8 0),(.int .u8 0),(.int .u8 0),(.int .u8 0),(.int .u8 0),(.int .u8 0),(.int .u8 0),(.int .u8 0),(.int .u8 0),(.int .u8 0),(.int .u8 0),(.int .u8 0),(.int .u8 0),(.int .u8 0),(.int .u8 0),(.int .u8 0),(.int .u8 0),(.int .u8 0),(.int .u8 0),(.int .u8 0),(.int .u8 0),(.int .u8 0),(.int .u8 0),(.int .u8 0),(.int .u8 0),(.int .u8 0),(.int .u8 0),(.int .u8 0),(.int .u8 0)] 173,ak d [(.map (some m)),wv,(.bool (ar)),(.int .i64 (lf)),(.bool (dn))] 140,kq m (sT s),own wv (ws.length) (dU ws) 175 65]) (λp=>(p+1).toNat) (((ws.length:Nat):Int)-1)
  ⟨by omega,by omega,by congr 1;omega⟩ SB
  (λ_ s=>s) (λp hinv=>?_)
 obtain⟨hp1,hp2,hp3⟩:=hinv;refine aa λ_ J4=>sr λ_ J5=>P2 ?_
 refine aq ?_ ?_<;>intro h13;refine iI 3 rfl rfl (by omega) (λg cap hv hcap=>nx J5 (CY (qx J4 (aa λ_ J6=>av (sr λ_ J7=>P2 ?_)))));refine FA 1 ia hO ?_;refine LA 1 jz ?_;refine PS ?_;refine tp (bO (r:=p.toNat*65) hv rfl jz mR rfl rfl (by omega) (by omega) (by omega)) ?_;refine tp (bb (r:=p.toNat*65) rfl pW rfl aR rfl rfl) ?_;refine tp (de (v:=(.int .i64 ((kM ws p.toNat).1))) rfl Y3 rfl rfl (fQ 3 rfl hv rfl) (HU hw (by omega))) ?_;refine P2 ?_;refine aq ?_ ?_<;>intro h25;refine nx J7 (CY (sr λ_ J8=>P2 ?_));refine FA 1 ia hO ?_;refine LA 1 jz ?_;refine PS ?_;refine tp (bO (r:=p.toNat*65) hv rfl jz mR rfl rfl (by omega) (by omega) (by omega)) ?_;refine tp (bb (r:=p.toNat*65+1) rfl pW rfl j7 rfl rfl) ?_;refine tp (Fq (vs:=dL (kM ws p.toNat).2) rfl qg rfl j7 rfl (fQ 3 rfl hv rfl) (by rw[aW];exact dY hw (by omega)) (HT hw (by omega))) ?_;refine bT (vs:=dL (kM ws p.toNat).2) (i:=0) (ab rfl) rfl rfl rfl rfl rfl (by rw[aW,dY hw (by omega)];exact j7) (e6 _) rfl rfl (by rw[aW,dY hw (by omega)];exact aH _) (gE (Eq.trans (rfl:_=64) (by rw[aW,dY hw (by omega)]:(dL (kM ws p.toNat).2).length=64).symm)) rfl (nx J8 (aj (aK (ag (ag (aK (ag (zI (H':=[ak d [(.map (some m)),wv,(.bool (ar)),(.int .i64 (lf)),(.bool (dn))] 140,kq m (sT s),own wv (ws.length) (dU ws) 175 65]) rfl rfl qg rfl j7 (RO 0) (by rw[aW];exact dY hw (by omega)) (λ_ s=>an [1,1,1] rfl s) ?_))))))));have e:=Iy (s:=s) h25
 rw[show p.toNat+1=(p+1).toNat by omega,hp3]at e;exact⟨by rw[e];rfl,rfl⟩;refine nx J7 (CN (aV (ai (ae J6 (af (PS ?_))))));refine tp (jC rfl rfl rfl (bY (by omega) (by omega))) ?_;refine PS ?_;refine ax ?_
 exact aM ((p-1):(Int)) ⟨by omega,by omega,by rw[←hp3,show(p+1).toNat=p.toNat+1 by omega,FV h25];congr 1;omega⟩ (by show(p-1+1).toNat< (p+1).toNat;omega)
  SB
  (λ_ s=>s)
 refine nx J5 (CN (aX (aC (aC (bq (ae J2 (sr λ_ J9=>P2 ?_)))))));refine FA 0 ia Da ?_;refine LA 1 zF ?_;refine PS ?_;refine tp (PV.lookup rfl zF Y3 z173 rfl rfl (RdM.own 2 rfl rfl) (yv _ _)) ?_;refine bT (vs:=dL (fu s at')) (i:=0) (ab rfl) rfl rfl rfl rfl rfl (by rw[aW,cy hs2];exact j7) (e6 _) rfl rfl (by rw[aW,cy hs2];exact aH _) (gE (Eq.trans (rfl:_=64) (by rw[aW,cy hs2]:(dL (fu s at')).length=64).symm)) rfl (nx J9 (aj (zI (H':=[ak d [(.map (some m)),wv,(.bool (ar)),(.int .i64 (lf)),(.bool (dn))] 140,kq m (sT s),own wv (ws.length) (dU ws) 175 65]) rfl rfl qg rfl j7 (RO 0) (by rw[aW];exact cy hs2 _) (λ_ s=>an [1,1,1] rfl s) ?_)));rw[show(p+1).toNat=0 by omega]at hp3;exact⟨by rw[←hp3];rfl,rfl⟩
theorem zx(d m:Nat)(wv:Value)(s ws:fA)(ar dn:Bool)(lf mask torn n:Int)(hs1:Whole s)(hw:Whole ws):
 DT 49 #[(.pointer (some ⟨d,0,none⟩)),(.int .i64 (mask)),(.int .i64 (torn)),(.int .i64 (n))] T0 [ak d [(.map (some m)),wv,(.bool (ar)),(.int .i64 (lf)),(.bool (dn))] 140,kq m (sT s),own wv (ws.length) (dU ws) 175 65] (dA (λ_ H=>H=[ak d [(.map (some m)),(.slice none 0 0),(.bool false),(.int .i64 0),(.bool false)] 140,kq m (sT (gQ mask torn (ni n) s ws ws.length)),own (.slice none 0 0) 0 [] 175 65])):=by
 refine BD 70 Tryz.func49 rfl rfl rfl λw0 F hF=>sr λ_ J1=>iV 2 rfl rfl (λhwl _=>PS ?_)
 refine tp (zR rfl rfl rfl) ?_;refine tp (QK (v':=(.int .i64 (((ni n:Nat):Int)))) (PV.minI rfl rfl rfl) (congrArg (Value.int .i64) (M7 n))) ?_;refine PS ?_;refine nx J1 (aa λ_ J2=>sr λ_ J3=>P2 ?_);refine FA 1 ia hO ?_;refine LA 0 jz ?_;refine tp (dI rfl jz rfl hwl) ?_;refine PS ?_;refine nx J3 (av ?_)
 refine bz (α:=(Nat)×(fA)) (λ⟨k,s'⟩=>k≤ws.length∧s'=gQ mask torn (ni n) s ws k) (λ⟨k,s'⟩=>[(0,(.pointer (some ⟨d,0,none⟩))),(1,(.int .i64 (mask))),(2,(.int .i64 (torn))),(3,(.int .i64 (((ni n:Nat):Int)))),(17,wv),(18,(.int .i64 (((ws.length:Nat):Int)))),(19,(.int .i64 (((k:Nat):Int))))]) (λ⟨k,s'⟩=>[ak d [(.map (some m)),wv,(.bool (ar)),(.int .i64 (lf)),(.bool (dn))] 140,kq m (sT s'),own wv (ws.length) (dU ws) 175 65]) (λ⟨k,s'⟩=>ws.length-k) (0,s)
  ⟨aO _,rfl⟩ SB
  (λ_ s=>s) (λ⟨k,s'⟩ hinv=>?_)
 obtain⟨hk,hs'⟩:=hinv;have hs2:Whole s':=by rw[hs'];exact hs1.crash hw k hk
 have hcn:=nh n;refine sr λ_ J4=>PS ?_
 refine aq ?_ ?_<;>intro h20;refine iI 2 rfl rfl (by omega) (λg cap hv hcap=>nx J4 (aa λ_ J5=>CY (qx J5 (aa λ_ J6=>av (sr λ_ J7=>PS ?_)))));refine tp (bO (r:=k*65) hv rfl jz mR rfl rfl (by omega) (by omega) (by omega)) ?_;refine tp (Fq (vs:=di (kM ws k)) rfl pW rfl mR rfl (fQ 2 rfl hv rfl) (cu (dY hw (by omega))) (rC hw (by omega))) ?_;refine XA HN λb9=>?_
 refine PS ?_;refine bT (vs:=di (kM ws k)) (i:=0) (ab rfl) rfl rfl rfl rfl rfl (by rw[cu (dY hw (by omega))];exact mR) (ji _) rfl rfl (by rw[cu (dY hw (by omega))];exact aH _) (gE (Eq.trans (rfl:_=65) (by rw[cu (dY hw (by omega))]:(di (kM ws k)).length=65).symm)) rfl (nx J7 (sr λ_ J8=>P3 ?_));refine aq ?_ ?_<;>intro h26;refine nx J8 (CY (aa λ_ J9=>s8 (λw=>Frm F w∧w.heap[d]?=some (.cells ([(.map (some m)),wv,(.bool (ar)),(.int .i64 (lf)),(.bool (dn))]).toArray 140 (0,0))∧Hm m (sT s') w∧w.heap[b9]?=some (.cells (di (kM ws k)).toArray 175 (0,0))∧True) dx rfl (λ_ s=>⟨fm s,s.block 1 (lb rfl) rfl,s.map 2 rfl rfl,s.block 0 (lb rfl) rfl,trivial⟩) (PD 0 ?_)));refine PD 1 ?_;refine FD 2 0 ia Da ?_;refine LX 3 zF (.map (some m)) ?_ (hc:=by exact rfl);refine FD 4 0 pW aR ?_;refine LX 5 Y3 (.int .i64 ((kM ws k).1)) ?_ (hc:=by exact rfl);refine ta 6 rfl (PV.lookup rfl zF Y3 z173 rfl rfl (λ_ h=>h.2.2.1) (yv _ _)) ?_;refine AL 7 ?_;refine XA z173 λb10=>?_
 refine ax (wo (λ_ s=>⟨fm s,s.block 2 (lb rfl) rfl,s.map 3 rfl rfl,s.block 1 (lb rfl) rfl,trivial⟩) (AL 8 ?_));refine bT (vs:=dL (fu s' ((kM ws k).1))) (i:=0) (ab rfl) rfl rfl rfl rfl rfl (by rw[aW,cy hs2];exact j7) (e6 _) rfl rfl (by rw[aW,cy hs2];exact aH _) (gE (Eq.trans (rfl:_=64) (by rw[aW,cy hs2]:(dL (fu s' ((kM ws k).1))).length=64).symm)) rfl (ax (wo (λ_ s=>⟨fm s,s.block 2 (lb rfl) rfl,s.map 3 rfl rfl,s.block 1 (lb rfl) rfl,trivial⟩) (DN (ae J9 (aa λ_ J10=>D1 1 dx ?_)))));refine PD 0 ?_;refine ta 1 rfl (R7 (k:=ni n) rfl qg l5 rfl rfl (by omega) (by omega) rfl) ?_;refine FD 2 1 pW j7 ?_;refine PD 3 ?_;refine ta 4 rfl (R7 (k:=ni n) rfl qg l5 rfl rfl (by omega) (by omega) rfl) ?_;refine AL 5 ?_;refine O8 (i:=0) (m:=ni n) (news:=((dL (kM ws k).2).take (ni n))) (H':=[ak b10 (dL (lN (fu s' ((kM ws k).1)) (kM ws k).2 (ni n))) 173,ak b9 (di (kM ws k)) 175,ak d [(.map (some m)),wv,(.bool (ar)),(.int .i64 (lf)),(.bool (dn))] 140,kq m (sT s'),own wv (ws.length) (dU ws) 175 65]) (ab rfl) rfl rfl rfl gA l5 rfl rfl rfl rfl (λ_ _=>jB (by rw[aZ,aW,dY hw (by omega)];have:=nh n;omega) (RO 1) (by rw[aZ,aW,dY hw (by omega)];exact CS (dY hw (by omega)) (nh n))) (λu hu=>e6 _ u (gj hu)) (by rw[aW,cy hs2];have:=nh n;omega) (HZ (nh n) (cy hs2 _) (dY hw (by omega)) (by omega)) rfl (EN (DN (ae J10 (af (PS ?_)))));refine FA 0 pW aR ?_;refine LA 1 Y3 ?_
 refine tp (aP (vs:=dL (lN (fu s' ((kM ws k).1)) (kM ws k).2 (ni n))) rfl qg rfl j7 rfl (RO 0) (by rw[aW];exact oR (cy hs2 _) (dY hw (by omega))) (Kb (by rw[aW];exact oR (cy hs2 _) (dY hw (by omega))))) ?_;refine CR Om (pN d m wv s' ar (dn) lf ((kM ws k).1) (lN (fu s' ((kM ws k).1)) (kM ws k).2 (ni n)) (by exact oR (cy hs2 _) (dY hw (by omega)))) (SM [2,2]) λvR HR hR=>?_
 subst hR;refine ax (ai (ae J6 (af (AD ?_))));refine PS ?_;refine ax ?_
 exact aM ((k+1,oV s' (kM ws k).1 (lN (fu s' (kM ws k).1) (kM ws k).2 (ni n))):(Nat)×(fA)) ⟨by omega,by rw[hs',gQ,j0,if_pos h26]⟩ (by show ws.length- (k+1)<ws.length-k;omega)
  SB
  (λ_ s=>an [0,0,2] rfl s)
 refine nx J8 (CN (sr λ_ J11=>P2 ?_));refine tp (St (r:=((k%32:Nat):Int)) rfl rfl rfl (by omega) (by rw[show(32:Int)=((32:Nat):Int)from rfl,←Int.ofNat_tmod])) ?_;refine tp (mB (r:=mask.fdiv (2^ (k%32))) rfl rfl rfl (by omega) (by congr 2;show min ((k%32:Nat):Int).toNat 64=k%32;omega)) ?_;refine tp (wK (r:=mask.fdiv (2^ (k%32))%2) rfl rfl rfl (RZ _)) ?_;refine PS ?_;refine aq ?_ ?_<;>intro h50;refine nx J11 (CY (af (PS ?_)));refine FA 0 pW aR ?_;refine LA 0 Y3 ?_;refine FA 1 pW j7 ?_;refine tp (aP (vs:=dL (kM ws k).2) rfl qg rfl j7 rfl (RO 0) (by rw[aW];exact dY hw (by omega)) (xb (dY hw (by omega)))) ?_;refine CR Om (pN d m wv s' ar (dn) lf ((kM ws k).1) (kM ws k).2 (by exact dY hw (by omega))) (SM [1,1]) λvR HR hR=>?_
 subst hR;refine ax (ai (ae J6 (af (AD ?_))));refine PS ?_;refine ax ?_
 exact aM ((k+1,oV s' (kM ws k).1 (kM ws k).2):(Nat)×(fA)) ⟨by omega,by rw[hs',gQ,j0,if_neg h26,if_pos h50]⟩ (by show ws.length- (k+1)<ws.length-k;omega)
  SB
  (λ_ s=>an [0,0,1] rfl s)
 refine nx J11 (CN (aV (ai (ae J6 (af (AD ?_))))));refine PS ?_;refine ax ?_
 exact aM ((k+1,s'):(Nat)×(fA)) ⟨by omega,by rw[gQ,j0,if_neg h26,if_neg h50];exact hs'⟩ (by show ws.length- (k+1)<ws.length-k;omega)
  SB
  (λ_ s=>an [1,1,1] rfl s)
 refine nx J4 (aa λ_ J12=>CN (aX (aC (aC (bq (ae J2 (af ?_)))))))
 iterate 5 refine PS ?_
 refine FA 1 ia hO ?_;refine S0 0 hO ?_;refine PS ?_;refine FA 2 ia lK ?_;refine S0 0 lK ?_;refine PS ?_;refine FA 3 ia aR ?_;refine S0 0 aR ?_;refine PS ?_;refine FA 4 ia lK ?_;refine S0 0 lK ?_;refine ax (aF (H':=[ak d [(.map (some m)),(.slice none 0 0),(.bool false),(.int .i64 0),(.bool false)] 140,kq m (sT s'),own (.slice none 0 0) 0 [] 175 65]) (dH _) (λ_ s=>eA (List.Perm.trans (List.Perm.swap _ _ _) (List.Perm.cons _ (List.Perm.swap _ _ _))) (gI 175 65 (an [0,0] rfl s))) (bC rfl ?_));obtain rfl:k=ws.length:=by omega
 subst hs';exact rfl
theorem Nu:Tryz.prog.eqGuardType Tryz.prog.depth 173=false:=by kernel_rfl
theorem Nt:Tryz.prog.keyTypeAt 2 173=true:=by kernel_rfl
theorem Nv:lQ Tryz.prog 2 173=some (List.replicate 64 (some .u8)):=by kernel_rfl
theorem Nx:E9 Tryz.prog 173=true:=by kernel_rfl
theorem Nw:Tryz.prog.cellsOf 173=64:=by kernel_rfl
abbrev dk(d:Nat)(D:DS):HP:=QA 140 175 d D
theorem HC(d:Nat)(D:DS):DT 53 #[(.pointer (some ⟨d,0,none⟩))] T0 [dk d D] (RI (.bool D.dn) [dk d (D)]):=Leg.Does.pack (B:=[]) λ⟨m,wv⟩=>
 Leg.Does.withinR (Cg d m wv D.ar D.dn D.lf) (B:=[kq m (sT D.s),own wv D.ws.length (dU D.ws) 175 65]) (λ_ _ _ _=>trivial) (λ_ s=>s) (λv H h=>by
  obtain⟨rfl,rfl⟩:=h
  exact⟨_,λ_ s=>bv (H:=[]) (m,wv) (s),rfl,rfl⟩)
theorem OU(d:Nat)(D:DS)(n:Int):DT 48 #[(.pointer (some ⟨d,0,none⟩)), .int .i64 n] T0 [dk d D] (dA (λv H=>True∧H=[dk d (D.arm n)])):=Leg.Does.pack (B:=[]) λ⟨m,wv⟩=>
 Leg.Does.withinR (EE d m wv D.ar D.dn D.lf n) (B:=[kq m (sT D.s),own wv D.ws.length (dU D.ws) 175 65]) (λ_ _ _ _=>trivial) (λ_ s=>s) (λv H h=>by
  subst h
  exact⟨_,λ_ s=>bv (H:=[]) (m,wv) s,trivial,rfl⟩)
theorem M1(d:Nat)(D:DS)(at':Int)(hD:D.Ok):DT 94 #[(.pointer (some ⟨d,0,none⟩)), .int .i64 at'] T0 [dk d D] (RI (DE (fu D.s at')) [dk d (D)]):=Leg.Does.pack (B:=[]) λ⟨m,wv⟩=>
 Leg.Does.withinR (Ce d m wv D.s D.ar D.dn D.lf at' hD.s) (B:=[own wv D.ws.length (dU D.ws) 175 65]) (λ_ _ _ _=>trivial) (λ_ s=>s) (λv H h=>by
  obtain⟨rfl,rfl⟩:=h
  exact⟨_,λ_ s=>bv (H:=[]) (m,wv) (s),rfl,rfl⟩)
theorem Ci(d:Nat)(D:DS)(at':Int)(hD:D.Ok)(hb:D.ws.length≤1000000000):DT 104 #[(.pointer (some ⟨d,0,none⟩)), .int .i64 at'] T0 [dk d D] (RI (DE (D.read at')) [dk d (D)]):=Leg.Does.pack (B:=[]) λ⟨m,wv⟩=>
 Leg.Does.withinR (Cf d m wv D.s D.ws D.ar D.dn D.lf at' hD.s hD.ws hb) (B:=[]) (λ_ _ _ _=>trivial) (λ_ s=>s) (λv H h=>by
  obtain⟨rfl,rfl⟩:=h
  exact⟨_,λ_ s=>bv (H:=[]) (m,wv) (s),rfl,rfl⟩)
theorem EJ(d:Nat)(D:DS)(mask torn n:Int)(hD:D.Ok):DT 49 #[(.pointer (some ⟨d,0,none⟩)), .int .i64 mask, .int .i64 torn, .int .i64 n] T0 [dk d D] (dA (λv H=>True∧H=[dk d (D.crash mask torn n)])):=Leg.Does.pack (B:=[]) λ⟨m,wv⟩=>
 Leg.Does.withinR (zx d m wv D.s D.ws D.ar D.dn D.lf mask torn n hD.s hD.ws) (B:=[]) (λ_ _ _ _=>trivial) (λ_ s=>s) (λv H h=>by
  subst h
  exact⟨_,λ_ s=>bv (H:=[]) (m,(.slice none 0 0:Value)) s,trivial,rfl⟩)
theorem yN(d:Nat)(D:DS)(at':Int)(x:Value)(bs:List UInt8)(hD:D.Ok)(hb:D.ws.length≤1000000000):DT 95 #[(.pointer (some ⟨d,0,none⟩)), .int .i64 at',x] (IsW x bs) [dk d D] (RI (.int .i64 (D.write at' bs).1) [dk d ((D.write at' bs).2)]):=Leg.Does.pack (B:=[]) λ⟨m,wv⟩=>
 Leg.Does.withinR (zw d m wv D.ws D.ar D.dn D.lf at' x bs hD.lf hb) (B:=[kq m (sT D.s)]) (λ_ _ h d=>h.more d) (λ_ s=>aD [0,1] rfl s) (λv H h=>by
  unfold DS.write;replace h:(if at'<0∨2048≤at'∨64<bs.length then _ else _):=h;split at h<;>rename_i h1
  · rw[if_pos h1]
    obtain⟨rfl,rfl⟩:=h;exact⟨_,λ_ s=>bv (H:=[]) (m,wv) (aD [0,1] rfl s),rfl,rfl⟩
  · rw[if_neg h1]
    split at h<;>rename_i h2
    · rw[if_pos h2]
      obtain⟨rfl,rfl⟩:=h;exact⟨_,λ_ s=>bv (H:=[]) (m,wv) (aD [0,1] rfl s),rfl,rfl⟩
    · rw[if_neg h2]
      obtain⟨rfl,wv',rfl⟩:=h
      exact⟨_,λ_ s=>bv (H:=[]) (m,wv') (aD [0,1] rfl s),rfl,rfl⟩)
theorem Ch(d:Nat)(D:DS)(hD:D.Ok):DT 96 #[(.pointer (some ⟨d,0,none⟩))] T0 [dk d D] (RI (.int .i64 D.sync.1) [dk d D.sync.2]):=by
 obtain⟨s,ws,ar,lf,dn⟩:=D;cases dn
 · exact Leg.Does.pack (B:=[]) λ⟨m,wv⟩=>Leg.Does.withinR (yM d m wv s ws ar lf hD.ws) (B:=[]) (λ_ _ _ _=>trivial) (λ_ s=>s) (λv H h=>by
    obtain⟨rfl,rfl⟩:=h
    exact⟨_,λ_ s=>bv (H:=[]) (m,(.slice none 0 0:Value)) s,rfl,rfl⟩)
 · exact Leg.Does.pack (B:=[]) λ⟨m,wv⟩=>Leg.Does.withinR (vq d m wv ar lf) (B:=[kq m (sT s),own wv ws.length (dU ws) 175 65]) (λ_ _ _ _=>trivial) (λ_ s=>s) (λv H h=>by
    obtain⟨rfl,rfl⟩:=h
    exact⟨_,λ_ s=>bv (H:=[]) (m,wv) s,rfl,rfl⟩)
theorem Ls:DT 42 #[] T0 [] (dA (λv H=>∃d,v= .pointer (some ⟨d,0,none⟩)∧H=[dk d DS.new])):=
 Leg.Does.withinR ED (B:=[]) (λ_ _ _ _=>trivial) (λ_ s=>s) (λv H h=>by
  obtain⟨d,m,rfl,rfl⟩:=h
  exact⟨_,λ_ s=>bv (H:=[]) (m,(.slice none 0 0:Value)) (eA (List.Perm.trans (List.Perm.swap _ _ _) (List.Perm.cons _ (List.Perm.swap _ _ _))) (gI 175 65 s)),d,rfl,rfl⟩)
end Go.Proofs.YtfocodjhmkokpaaGreatDoor
end

section
namespace Wal
open Go Leg Codec Api Dsk
theorem ve{x y:Int}(k:Nat)(hx:0≤x)(hx2:x<2^k)(hy:0≤y)(h:x+y*2^k<4294967296):jp .u32 x (y*2^k)=x+y*2^k:=by
 obtain⟨a,rfl⟩:=Int.eq_ofNat_of_zero_le hx;obtain⟨b,rfl⟩:=Int.eq_ofNat_of_zero_le hy;have e2:((b:Nat):Int)*2^k=((b*2^k:Nat):Int):=by simp
 rw[e2]at h ⊢
 have ha:a<2^k:=by
  have:(((2:Nat)^k:Nat):Int)=(2:Int)^k:=by simp
  omega
 have hs:a+b*2^k<4294967296:=by omega
 have h1:(BitVec.ofInt 32 (a:Int)).toNat=a:=by rw[BitVec.toNat_ofInt];omega
 have h2:(BitVec.ofInt 32 ((b*2^k:Nat):Int)).toNat=b*2^k:=by
  rw[BitVec.toNat_ofInt];generalize b*2^k=q at*;omega
 have h3:a|||b*2^k=a+b*2^k:=by
  rw[Nat.or_comm,←Nat.shiftLeft_eq,←Nat.shiftLeft_add_eq_or_of_lt ha,mN]
 show IntKind.u32.wrap (((BitVec.ofInt 32 (a:Int))||| (BitVec.ofInt 32 ((b*2^k:Nat):Int))).toNat:Nat)=_;rw[BitVec.toNat_or,h1,h2,h3];generalize b*2^k=q at*;rw[kY (by omega) (by omega)];omega
theorem IP{x y:Int}(k:Nat)(hx:0≤x)(hx2:x<2^k)(hy:0≤y)(h:x+y*2^k<9223372036854775808):jp .i64 (y*2^k) x=x+y*2^k:=by
 obtain⟨a,rfl⟩:=Int.eq_ofNat_of_zero_le hx;obtain⟨b,rfl⟩:=Int.eq_ofNat_of_zero_le hy;have e2:((b:Nat):Int)*2^k=((b*2^k:Nat):Int):=by simp
 rw[e2]at h ⊢
 have ha:a<2^k:=by
  have:(((2:Nat)^k:Nat):Int)=(2:Int)^k:=by simp
  omega
 have h1:(BitVec.ofInt 64 (a:Int)).toNat=a:=by rw[BitVec.toNat_ofInt];omega
 have h2:(BitVec.ofInt 64 ((b*2^k:Nat):Int)).toNat=b*2^k:=by
  rw[BitVec.toNat_ofInt];generalize b*2^k=q at*;omega
 have h3:b*2^k|||a=a+b*2^k:=by
  rw[←Nat.shiftLeft_eq,←Nat.shiftLeft_add_eq_or_of_lt ha,mN]
 show IntKind.i64.wrap (((BitVec.ofInt 64 ((b*2^k:Nat):Int))||| (BitVec.ofInt 64 (a:Int))).toNat:Nat)=_;rw[BitVec.toNat_or,h1,h2,h3];generalize b*2^k=q at*;rw[bY (by omega) (by omega)];omega
theorem HW(x:Int):0≤IntKind.u32.wrap x∧IntKind.u32.wrap x<4294967296:=by
 simp only[IntKind.wrap,IntKind.signed,IntKind.bits];simp;omega
theorem CC(a b:Int):0≤qv .u32 a b∧qv .u32 a b<4294967296:=HW _
def r8(x:Int):UInt8:=UInt8.ofNat (x%256).toNat
theorem kb(x:Int):(((r8 x).toNat:Nat):Int)=x%256:=by
 have:(x%256).toNat<256:=by omega
 simp only[r8,UInt8.toNat_ofNat'];omega
theorem r8_wrap(x:Int):IntKind.u8.wrap x=(((r8 x).toNat:Nat):Int):=by
 rw[kb];simp only[IntKind.wrap,IntKind.signed,IntKind.bits];simp
def GF(r:Int):Int:=if uF .u32 r 1=1 then qv .u32 (r.fdiv 2) 3988292384 else r.fdiv 2
def nj(r:Int):Nat→Int
 |0=>r
 |k+1=>GF (nj r k)
def HE(r:Int)(c:UInt8):Int:=nj (qv .u32 r ((c.toNat:Nat):Int)) 8
def fG(r:Int)(bs:List UInt8):Int:=bs.foldl HE r
def gq(bs:List UInt8):Int:=qv .u32 4294967295 (fG 4294967295 bs)
theorem EP{r:Int}{bs:List UInt8}{k:Nat}(h:k<bs.length):fG r (bs.take (k+1))=HE (fG r (bs.take k)) (bs.getD k 0):=by
 rw[fG,fG,bU h,e5,List.getD_eq_getElem?_getD,List.getElem?_eq_getElem h];rfl
theorem zz(r:Int)(a b:List UInt8):fG r (a++b)=fG (fG r a) b:=by simp[fG]
theorem EQ{r:Int}{ps:List (List UInt8)}{k:Nat}(h:k<ps.length):fG r (ps.take (k+1)).flatten=fG (fG r (ps.take k).flatten) ps[k]:=by
 rw[bU h,List.flatten_append,zz];simp
theorem ER(bs:List UInt8):0≤gq bs∧gq bs<4294967296:=CC _ _
def RV(r:Int):List UInt8:=[r8 r,r8 (r.fdiv 256),r8 (r.fdiv 65536),r8 (r.fdiv 16777216)]
def Ld(a b c d:UInt8):Int:=
 jp .u32 (jp .u32 (jp .u32 ((a.toNat:Nat):Int) (IntKind.u32.wrap (((b.toNat:Nat):Int)*2^8))) (IntKind.u32.wrap (((c.toNat:Nat):Int)*2^16))) (IntKind.u32.wrap (((d.toNat:Nat):Int)*2^24))
theorem MU(a b c d:UInt8):Ld a b c d=((a.toNat:Nat):Int)+((b.toNat:Nat):Int)*256+((c.toNat:Nat):Int)*65536+((d.toNat:Nat):Int)*16777216:=by
 have ha:=a.toNat_lt;have hb:=b.toNat_lt;have hc:=c.toNat_lt;have hd:=d.toNat_lt;unfold Ld;generalize a.toNat=a at*;generalize b.toNat=b at*;generalize c.toNat=c at*;generalize d.toNat=d at*;rw[kY (x:=(b:Int)*2^8) (by omega) (by omega),kY (x:=(c:Int)*2^16) (by omega) (by omega),kY (x:=(d:Int)*2^24) (by omega) (by omega)];rw[ve 8 (by omega) (by omega) (by omega) (by omega),ve 16 (by omega) (by omega) (by omega) (by omega),ve 24 (by omega) (by omega) (by omega) (by omega)];omega
def qa(bs:List UInt8):List UInt8:=bs++RV (gq bs)
def mQ(bs:List UInt8):Option (List UInt8):=
 if bs.length<4 then none
 else if gq (bs.take (bs.length-4))=Ld ((bs.drop (bs.length-4)).getD 0 0) ((bs.drop (bs.length-4)).getD 1 0) ((bs.drop (bs.length-4)).getD 2 0) ((bs.drop (bs.length-4)).getD 3 0)then some (bs.take (bs.length-4))else none
theorem lr(bs:List UInt8):(qa bs).length=bs.length+4:=by simp[qa,RV]
theorem Lc{r:Int}(h:0≤r∧r<4294967296):Ld (r8 r) (r8 (r.fdiv 256)) (r8 (r.fdiv 65536)) (r8 (r.fdiv 16777216))=r:=by
 rw[MU,kb,kb,kb,kb,Int.fdiv_eq_ediv_of_nonneg _ (by decide),Int.fdiv_eq_ediv_of_nonneg _ (by decide),Int.fdiv_eq_ediv_of_nonneg _ (by decide)];omega
theorem sE(bs:List UInt8):mQ (qa bs)=some bs:=by
 have hl:=lr bs;have e1:(qa bs).take (bs.length+4-4)=bs:=by rw[JH,qa];exact mC
 have e2:(qa bs).drop (bs.length+4-4)=RV (gq bs):=by rw[JH,qa];exact Fl
 unfold mQ;rw[hl,if_neg (by omega),e1,e2];exact if_pos (Lc (ER bs)).symm
theorem Af{bs t:List UInt8}(h:mQ bs=some t):t.length+4=bs.length:=by
 unfold mQ at h;split at h
 · cases h
 · split at h
   · injection h with h;subst h;rw[aZ];omega
   · cases h
def bc(n:Nat):Nat:=if n=0 then 1 else(n-1) / 52+1
theorem ml(n:Nat):0<bc n:=by unfold bc;split<;>omega
theorem pD{n:Nat}(h:n≤3000):bc n≤58:=by unfold bc;split<;>omega
theorem zn(n:Nat):n≤bc n*52:=by unfold bc;split<;>omega
def LO(n:Int):List UInt8:=[r8 (n.fdiv 16777216),r8 (n.fdiv 65536),r8 (n.fdiv 256),r8 n]
def E8(bs:List UInt8):Int:=bs.foldl (λh c=>jp .i64 (IntKind.i64.wrap (h*2^8)) ((c.toNat:Nat):Int)) 0
theorem LN{bs:List UInt8}{k:Nat}(h:k<bs.length):E8 (bs.take (k+1))=jp .i64 (IntKind.i64.wrap (E8 (bs.take k)*2^8)) (((bs.getD k 0).toNat:Nat):Int):=by
 rw[E8,E8,bU h,e5,List.getD_eq_getElem?_getD,List.getElem?_eq_getElem h];rfl
theorem wZ{h:Int}(c:UInt8)(h0:0≤h)(h1:h<4294967296):jp .i64 (IntKind.i64.wrap (h*2^8)) ((c.toNat:Nat):Int)=h*256+((c.toNat:Nat):Int):=by
 have hc:=c.toNat_lt;generalize c.toNat=c at*;rw[bY (by omega) (by omega),IP 8 (by omega) (by omega) (by omega) (by omega)];omega
theorem yW(a b c d:UInt8):E8 [a,b,c,d]=((a.toNat:Nat):Int)*16777216+((b.toNat:Nat):Int)*65536+((c.toNat:Nat):Int)*256+((d.toNat:Nat):Int):=by
 have ha:=a.toNat_lt;have hb:=b.toNat_lt;have hc:=c.toNat_lt;have hd:=d.toNat_lt;simp only[E8,List.foldl_cons,List.foldl_nil];rw[wZ a (by omega) (by omega),wZ b (by omega) (by omega),wZ c (by omega) (by omega),wZ d (by omega) (by omega)];omega
theorem Nf{n:Int}(h0:0≤n)(h1:n<4294967296):E8 (LO n)=n:=by
 rw[LO,yW,kb,kb,kb,kb,Int.fdiv_eq_ediv_of_nonneg _ (by decide),Int.fdiv_eq_ediv_of_nonneg _ (by decide),Int.fdiv_eq_ediv_of_nonneg _ (by decide)];omega
def gW(b:List UInt8)(i:Nat):List UInt8:=(b.drop (i*52)).take 52
theorem rH(b:List UInt8)(i:Nat):(gW b i).length≤52:=by rw[gW,aZ];omega
theorem MA{n k:Nat}(h:k<bc n):k*52≤n:=by unfold bc at h;split at h<;>omega
theorem MB(b:List UInt8)(k:Nat):((b.take (min ((k+1)*52) b.length)).drop (k*52))=gW b k:=by
 rw[gW,mD,fC,Nat.one_mul]
 by_cases q:k*52+52≤b.length
 · rw[Nat.min_eq_left q,cx]
 · rw[Nat.min_eq_right (by omega),az (by rw[dP];omega),az (by rw[dP];omega)]
theorem IK(b:List UInt8): ∀k,b.length≤k*52→((List.range k).map (gW b)).flatten=b:=by
 have key: ∀k,((List.range k).map (gW b)).flatten=b.take (k*52):=by
  intro k
  induction k with
  |zero=>simp
  |succ k ih=>
   rw[dh,cJ,List.flatten_append,ih,fC,Nat.one_mul,List.take_add];simp[gW]
 intro k hk;rw[key,az hk]
def jG(number:Int)(place all:Nat)(p:List UInt8):List UInt8:=LO number++([r8 (place:Int),r8 (all:Int),r8 (p.length:Int)]++(p++List.replicate (52-p.length) 0))
theorem jW{number:Int}{place all:Nat}{p:List UInt8}(h:p.length≤52):(jG number place all p).length=59:=by simp[jG,LO];omega
def mS(number:Int)(place all:Nat)(p:List UInt8):il:=qa (jG number place all p)++[1]
theorem Ii{number:Int}{place all:Nat}{p:List UInt8}(h:p.length≤52):(mS number place all p).length=64:=by simp[mS,lr,jW h]
def bl(number:Int)(b:List UInt8):List il:=(List.range (bc b.length)).map λi=>mS number i (bc b.length) (gW b i)
def nH(number:Int)(b:List UInt8)(k:Nat):List il:=(List.range k).map λi=>mS number i (bc b.length) (gW b i)
theorem FQ(number:Int)(b:List UInt8)(k:Nat):nH number b (k+1)=nH number b k++[mS number k (bc b.length) (gW b k)]:=by simp[nH,dh]
theorem Ah(number:Int)(b:List UInt8)(k:Nat):(nH number b k).length=k:=by simp[nH]
theorem H0{number:Int}{place all:Nat}{p:List UInt8}(h:p.length≤52):
 wr (dL (LO number++([r8 (place:Int),r8 (all:Int),r8 (p.length:Int)]++List.replicate 52 0))) 7 ((dL p).take (min p.length 52))=dL (jG number place all p):=by
 have e:(dL p).take (min p.length 52)=dL p:=az (by rw[aW];omega);rw[e,wr,aW];have e2:(dL (LO number++([r8 (place:Int),r8 (all:Int),r8 (p.length:Int)]++List.replicate 52 0))).take 7=dL (LO number++[r8 (place:Int),r8 (all:Int),r8 (p.length:Int)]):=rfl
 have e3:(dL (LO number++([r8 (place:Int),r8 (all:Int),r8 (p.length:Int)]++List.replicate 52 0))).drop (7+p.length)=dL (List.replicate (52-p.length) 0):=by
  rw[←jg];have:(dL (LO number++([r8 (place:Int),r8 (all:Int),r8 (p.length:Int)]++List.replicate 52 0))).drop 7=dL (List.replicate 52 0):=rfl;rw[this,dL,dL,←lI,GV]
 rw[e2,e3,jG];simp[dL]
theorem cE(number:Int)(b:List UInt8):(bl number b).length=bc b.length:=by simp[bl]
def e9(s:il)(number place:Int):Option (List UInt8×Int):=
 match mQ (s.take 63)with
 |none=>none
 |some t=>if s.getD 63 0≠1 then none
  else if E8 (t.take 4)≠number∨(((t.getD 4 0).toNat:Nat):Int)≠place∨place≥(((t.getD 5 0).toNat:Nat):Int)∨(((t.getD 6 0).toNat:Nat):Int)>52 then none
  else some ((t.drop 7).take (t.getD 6 0).toNat,(((t.getD 5 0).toNat:Nat):Int))
theorem DU{number:Int}{place all:Nat}{p:List UInt8}(h:p.length≤52)(h0:0≤number)(h1:number<4294967296)(hp:place<all)(ha:all≤255):e9 (mS number place all p) number place=some (p,(all:Int)):=by
 have e1:(mS number place all p).take 63=qa (jG number place all p):=by
  rw[mS,co (by rw[lr,jW h];omega),az (by rw[lr,jW h];omega)]
 have e2:(mS number place all p).getD 63 0=1:=by
  rw[mS,List.getD_eq_getElem?_getD,List.getElem?_append_right (by rw[lr,jW h];omega),lr,jW h];rfl
 have n1:(((r8 (place:Int)).toNat:Nat):Int)=place:=by rw[kb];omega
 have n2:(((r8 (all:Int)).toNat:Nat):Int)=all:=by rw[kb];omega
 have n3:(((r8 (p.length:Int)).toNat:Nat):Int)=p.length:=by rw[kb];omega
 unfold e9;rw[e1,sE];simp only[e2,ne_eq,not_true_eq_false,if_false];have t4:(jG number place all p).take 4=LO number:=rfl;have g4:(jG number place all p).getD 4 0=r8 (place:Int):=rfl;have g5:(jG number place all p).getD 5 0=r8 (all:Int):=rfl;have g6:(jG number place all p).getD 6 0=r8 (p.length:Int):=rfl;have g7:(jG number place all p).drop 7=p++List.replicate (52-p.length) 0:=rfl;rw[t4,Nf h0 h1,g4,g5,g6,g7,n1,n2,n3];rw[if_neg (by omega)];have n3':(r8 (p.length:Int)).toNat=p.length:=by omega
 rw[n3'];simp
theorem nJ{s:il}{number place:Int}(h:s.getD 63 0≠1):e9 s number place=none:=by
 unfold e9;split
 · rfl
 · rw[if_pos h]
theorem pE{s b:il}{number place all:Int}(hs:s.length=64)(h:e9 s number place=some (b,all)):place<all∧all≤255∧b.length≤52:=by
 unfold e9 at h;split at h
 · cases h
 · rename_i t ht
   have hl:=Af ht;split at h
   · cases h
   · split at h
     · cases h
     · rename_i h2
       injection h with h
       simp only[Prod.mk.injEq]at h;obtain⟨rfl,rfl⟩:=h;have:=(t.getD 5 0).toNat_lt;rw[aZ];omega
theorem BS{s:il}{number place:Int}(h:mQ (s.take 63)=none):e9 s number place=none:=by simp only[e9,h]
theorem m8{s t:il}{number place:Int}(h:mQ (s.take 63)=some t)(h2:E8 (t.take 4)≠number∨(((t.getD 4 0).toNat:Nat):Int)≠place∨place≥(((t.getD 5 0).toNat:Nat):Int)∨(((t.getD 6 0).toNat:Nat):Int)>52):e9 s number place=none:=by
 simp only[e9,h];split
 · rfl
 · first|rfl|rw[if_pos h2]
theorem DR{s t:il}{number place:Int}(h:mQ (s.take 63)=some t)(h1:s.getD 63 0=1)(h2: ¬(E8 (t.take 4)≠number∨(((t.getD 4 0).toNat:Nat):Int)≠place∨place≥(((t.getD 5 0).toNat:Nat):Int)∨(((t.getD 6 0).toNat:Nat):Int)>52)):
 e9 s number place=some ((t.drop 7).take (t.getD 6 0).toNat,(((t.getD 5 0).toNat:Nat):Int)):=by
 simp only[e9,h,h1,ne_eq,not_true_eq_false,if_false];rw[if_neg h2]
def ly(rd:Int→il)(number at' all:Int):Nat→Option (List UInt8)
 |0=>some []
 |k+1=>match ly rd number at' all k with
  |none=>none
  |some b=>match e9 (rd (at'+k)) number k with
   |none=>none
   |some (m,same)=>if same=all then some (b++m)else none
def fH(rd:Int→il)(number at':Int):Option (List UInt8×Int):=
 match e9 (rd at') number 0 with
 |none=>none
 |some (_,all)=>(ly rd number at' all all.toNat).map λb=>(b,all)
theorem F7{rd:Int→il}{number at' all:Int}{k:Nat}(h:ly rd number at' all k=none): ∀m,k≤m→ly rd number at' all m=none:=by
 intro m hm
 induction hm with
 |refl=>exact h
 |step _ ih=>simp only[ly,ih]
theorem yl{rd:Int→il}{number at' all:Int}{k:Nat}(h:e9 (rd (at'+k)) number k=none∨∃m same,e9 (rd (at'+k)) number k=some (m,same)∧same≠all): ∀m,k<m→ly rd number at' all m=none:=by
 refine λm hm=>F7 (k:=k+1) ?_ m hm
 simp only[ly];cases ly rd number at' all k with
 |none=>rfl
 |some b=>
  rcases h with h| ⟨x,same,h,h2⟩
  · simp only[h]
  · simp only[h,if_neg h2]
theorem yn{rd:Int→il}{number at' all:Int}{k:Nat}{b x:List UInt8}(h:ly rd number at' all k=some b)(h2:e9 (rd (at'+k)) number k=some (x,all)):ly rd number at' all (k+1)=some (b++x):=by
 simp only[ly,h,h2,if_true]
theorem I1{rd:Int→il}{number at' all:Int}{b:List UInt8}(h:e9 (rd at') number 0=some (b,all)):ly rd number at' all 1=some b:=by
 have h0:ly rd number at' all 0=some []:=rfl;have:=yn (rd:=rd) (number:=number) (at':=at') (all:=all) (k:=0) h0 (x:=b) (by simpa using h)
 simpa using this
theorem sa{rd:Int→il}{number at':Int}(h:e9 (rd at') number 0=none):fH rd number at'=none:=by simp only[fH,h]
theorem r9{rd:Int→il}{number at' all:Int}{b:List UInt8}(h:e9 (rd at') number 0=some (b,all))(h2:ly rd number at' all all.toNat=none):fH rd number at'=none:=by simp only[fH,h,h2,Option.map_none]
theorem tJ{rd:Int→il}{number at' all:Int}{b c:List UInt8}(h:e9 (rd at') number 0=some (b,all))(h2:ly rd number at' all all.toNat=some c):fH rd number at'=some (c,all):=by simp only[fH,h,h2,Option.map_some]
def fX(rd:Int→il):Nat→Int→Int→List (List UInt8)×Int
 |0,_,used=>([],used)
 |f+1,cnt,used=>match fH rd (cnt+1) used with
  |none=>([],used)
  |some (b,all)=>let r:=fX rd f (cnt+1) (used+all);(b::r.1,r.2)
def gF:Nat→Int→DS→Int×DS
 |0,_,D=>(0,D)
 |n+1,at',D=>if D.read at'=zs then gF n (at'+1) D else if(D.write at' []).1=0 then gF n (at'+1) (D.write at' []).2 else D.write at' []
structure OpenR where
 err:Int
 recs:List (List UInt8)
 used:Int
 D:DS
def iG:Nat:=2049
theorem q9:iG=2049:=rfl
def bI(D:DS):OpenR:=
 let r:=fX D.read iG 0 0;let w:=gF (2048-r.2).toNat r.2 D
 if w.1≠0 then⟨w.1,[],0,w.2⟩else if w.2.sync.1≠0 then⟨w.2.sync.1,[],0,w.2.sync.2⟩else⟨0,r.1,r.2,w.2.sync.2⟩
def In(s:fA):Prop:=∀p∈s,0≤p.1∧p.1<2048
def DS.In(D:DS):Prop:=Wal.In D.s∧Wal.In D.ws
end Wal
end

section
namespace Go.Proofs.YtfocodjhmkokpaaGreatDoor
open Go Leg Codec Api Dsk Wal
theorem Hb(x:Value)(ps:List (List UInt8)):
 DT 180 #[x] (QS x ps) [] (RI (.int .u32 (gq ps.flatten)) []):=by
 refine BD 39 Tryz.func180 rfl rfl rfl λw0 F hF=>sr λ_ J1=>PS ?_
 refine nx J1 (sr λ_ J2=>PS ?_);refine nx J2 (aa λ_ J3=>sr λ_ J4=>PS ?_);refine tp (dI rfl wG rfl hF.len) ?_;refine PS ?_;refine nx J4 (av ?_)
 refine bz (α:=(Nat)) (λk=>k≤ps.length) (λk=>[(2,(.int .u32 0)),(3,(.int .u32 (fG 4294967295 (ps.take k).flatten))),(8,x),(9,(.int .i64 (((ps.length:Nat):Int)))),(10,(.int .i64 (((k:Nat):Int))))]) (λk=>[]) (λk=>ps.length-k) 0
  (aO _) SB
  (λ_ s=>s) (λk hinv=>?_)
 obtain hk:=hinv;refine sr λ_ J5=>PS ?_
 refine aq ?_ ?_<;>intro h11;obtain⟨b_a,off_a,cap_a,cs_a,T_a,z_a,us_a,hv_a,hc_a,hb_a,hl_a,hs_a,hE_a⟩:=IsL.at hF (j:=k) (by omega);obtain⟨u_a,rfl,hu_a⟩:=hE_a;refine nx J5 (aa λ_ J6=>CY (qx J6 (aa λ_ J7=>av (sr λ_ J8=>tp (bO (r:=off_a+k) hv_a rfl wG ld rfl rfl (by omega) (by omega) (by omega)) ?_))));refine tp (de (v:=u_a) rfl gA rfl rfl (zO hb_a (λ_ h=>fm h)) (by have:=De (j:=0) hs_a rfl;simpa using this)) ?_;refine PS ?_;refine nx J8 (sr λ_ J9=>PS ?_);refine tp (dI rfl gA rfl hu_a.len) ?_;refine PS ?_;refine nx J9 (av ?_)
 refine bz (α:=(Nat)) (λj=>j≤ps[k].length) (λj=>[(2,(.int .u32 0)),(3,(.int .u32 (fG (fG 4294967295 (ps.take k).flatten) (ps[k].take j)))),(8,x),(9,(.int .i64 (((ps.length:Nat):Int)))),(10,(.int .i64 (((k:Nat):Int)))),(14,u_a),(15,(.int .i64 (((ps[k].length:Nat):Int)))),(16,(.int .i64 (((j:Nat):Int))))]) (λj=>[]) (λj=>ps[k].length-j) 0
  (aO _) SB
  (λ_ s=>s) (λj hinv=>?_)
 obtain hj:=hinv;refine sr λ_ J10=>PS ?_
 refine aq ?_ ?_<;>intro h17;obtain⟨b_b,off_b,cap_b,cs_b,T_b,z_b,hv_b,hb_b,hcs_b,hcp_b⟩:=IsW.at hu_a (j:=j) (by omega);have hlt_b:=IsW.lt hu_a;refine nx J10 (aa λ_ J11=>CY (qx J11 (aa λ_ J12=>av (sr λ_ J13=>tp (bO (r:=off_b+j) hv_b rfl gA l5 rfl rfl (by omega) (by omega) (by omega)) ?_))));refine tp (de (v:=(.int .u8 (((((ps[k]).getD j 0).toNat:Nat):Int)))) rfl Y5 rfl rfl (zO hb_b (λ_ h=>fm h)) (hcs_b j (by omega))) ?_;refine PS ?_;refine nx J13 (sr λ_ J14=>P2 ?_);refine tp (eh (r:=((((ps[k]).getD j 0).toNat:Nat):Int)) rfl Y5 Cx rfl (kY (by omega) (by have:=(ps[k].getD j 0).toNat_lt;omega))) ?_;refine tp (PV.xor (r:=qv .u32 (fG (fG 4294967295 (ps.take k).flatten) (ps[k].take j)) (((((ps[k]).getD j 0).toNat:Nat):Int))) rfl rfl rfl rfl) ?_;refine PS ?_;refine nx J14 (sr λ_ J15=>PS ?_);refine nx J15 (av ?_)
 refine bz (α:=(Nat)) (λi=>i≤8) (λi=>[(2,(.int .u32 0)),(3,(.int .u32 (nj (qv .u32 (fG (fG 4294967295 (ps.take k).flatten) (ps[k].take j)) ((((ps[k]).getD j 0).toNat:Nat):Int)) i))),(8,x),(9,(.int .i64 (((ps.length:Nat):Int)))),(10,(.int .i64 (((k:Nat):Int)))),(14,u_a),(15,(.int .i64 (((ps[k].length:Nat):Int)))),(16,(.int .i64 (((j:Nat):Int)))),(24,(.int .i64 (((i:Nat):Int))))]) (λi=>[]) (λi=>8-i) 0
  (aO _) SB
  (λ_ s=>s) (λi hinv=>?_)
 obtain hi:=hinv;refine sr λ_ J16=>PS ?_
 refine aq ?_ ?_<;>intro h25;refine nx J16 (aa λ_ J17=>CY (qx J17 (aa λ_ J18=>av (sr λ_ J19=>PS ?_))));refine tp (wK (r:=uF .u32 (nj (qv .u32 (fG (fG 4294967295 (ps.take k).flatten) (ps[k].take j)) ((((ps[k]).getD j 0).toNat:Nat):Int)) i) 1) rfl rfl rfl rfl) ?_;refine PS ?_;refine aq ?_ ?_<;>intro h28;refine nx J19 (CY (af (PS ?_)));refine tp (mB (r:=(nj (qv .u32 (fG (fG 4294967295 (ps.take k).flatten) (ps[k].take j)) ((((ps[k]).getD j 0).toNat:Nat):Int)) i).fdiv 2) rfl rfl rfl (by omega) rfl) ?_;refine tp (PV.xor (r:=qv .u32 ((nj (qv .u32 (fG (fG 4294967295 (ps.take k).flatten) (ps[k].take j)) ((((ps[k]).getD j 0).toNat:Nat):Int)) i).fdiv 2) 3988292384) rfl rfl rfl rfl) ?_;refine PS ?_;refine ax (ai (ae J18 (af (AD ?_))));refine PS ?_;refine ax ?_
 exact aM ((i+1):(Nat)) (by omega) (by show 8- (i+1)<8-i;omega)
  (aS (bJ rfl (congrArg (Value.int .u32) (by rw[nj,GF,if_pos h28])) SB))
  (λ_ s=>s)
 refine nx J19 (CN (af (PS ?_)));refine tp (mB (r:=(nj (qv .u32 (fG (fG 4294967295 (ps.take k).flatten) (ps[k].take j)) ((((ps[k]).getD j 0).toNat:Nat):Int)) i).fdiv 2) rfl rfl rfl (by omega) rfl) ?_;refine PS ?_;refine ax (ai (ae J18 (af (AD ?_))));refine PS ?_;refine ax ?_
 exact aM ((i+1):(Nat)) (by omega) (by show 8- (i+1)<8-i;omega)
  (aS (bJ rfl (congrArg (Value.int .u32) (by rw[nj,GF,if_neg h28])) SB))
  (λ_ s=>s)
 refine nx J16 (aa λ_ J20=>CN (aX (aC (aC (bq (ai (ae J12 (af (AD ?_)))))))));refine PS ?_;refine ax ?_
 exact aM ((j+1):(Nat)) (by omega) (by show ps[k].length- (j+1)<ps[k].length-j;omega)
  (aS (bJ rfl (congrArg (Value.int .u32) (by obtain rfl:i=8:=(by omega);rw[EP (by omega)];rfl)) SB))
  (λ_ s=>s)
 refine nx J10 (aa λ_ J21=>CN (aX (aC (aC (bq (ai (ae J7 (af (AD ?_)))))))));refine PS ?_;refine ax ?_
 exact aM ((k+1):(Nat)) (by omega) (by show ps.length- (k+1)<ps.length-k;omega)
  (aS (bJ rfl (congrArg (Value.int .u32) (by rw[show j=ps[k].length by omega,iX,EQ (by omega)])) SB))
  (λ_ s=>s)
 refine nx J5 (aa λ_ J22=>CN (aX (aC (aC (bq (ae J3 (sr λ_ J23=>PS ?_)))))));refine tp (PV.com (r:=qv .u32 4294967295 (fG 4294967295 (ps.take k).flatten)) rfl rfl rfl) ?_;refine PS ?_;refine nx J23 (aj (WK [] (aw rfl rfl ?_)));obtain rfl:k=ps.length:=by omega
 rw[iX];exact⟨rfl,rfl⟩
theorem vH(x:Value)(bs:List UInt8)(hb:bs.length≤1000000000):
 DT 190 #[x] (IsW x bs) [] (dA (λv H=>H=[cw v (qa bs) 5])):=by
 refine BD 29 Tryz.func190 rfl rfl rfl λw0 F hF=>sr λ_ J1=>PS ?_
 refine nx J1 (sr λ_ J2=>PS ?_);refine aT (cells:=#[x]) (ab rfl) rfl rfl rfl wG Jd rfl rfl rfl (ux hF.one (by simp)) (λb6=>CF ND (Hb (.slice (some ⟨b6,0,none⟩) (1) (1)) [bs]) ID (Ei hF 0 rfl rfl) ?_);rw[show [bs].flatten=bs by simp];refine PS ?_;refine nx J2 (sr λ_ J3=>PS ?_);refine tp (dI rfl gA rfl hF.len) ?_;refine AD ?_;refine TL.makeB (0) (bs.length+4) (ab rfl) rfl rfl rfl gA yA rfl rfl rfl (by omega) (by omega) (by omega) (λb11=>cz (H':=[cw (.slice (some ⟨b11,0,none⟩) 0 (bs.length+4)) ([]) 5,ak b6 [x] 53]) (λ_ s=>pz 0 rfl rfl (by omega) (by simp only[maxLen];omega) (by simp[dL]) rfl s) (PS ?_));refine nx J3 (sr λ_ J4=>P2 ?_);refine cF (k:=0) (news:=dL (bs)) (nn':=(bs:List UInt8).length) (xs':=dL (bs)) (ab rfl) rfl rfl rfl gA yA rfl rfl rfl rfl rfl rfl (λ_ _=>hF.src (λ_ h=>fm h)) (e6 _) (by simp only[maxLen,ao];omega) (by simp only[ao];omega) (by simp) (bG _) (λv14 ov14=>PS ?_);refine nx J4 (sr λ_ J5=>P2 ?_);refine tp (eh (r:=(((r8 (gq bs)).toNat:Nat):Int)) rfl Cx Y5 rfl (r8_wrap _)) ?_;refine PS ?_;refine tp (mB (r:=(gq bs).fdiv 256) rfl rfl rfl (by omega) rfl) ?_;refine tp (eh (r:=(((r8 ((gq bs).fdiv 256)).toNat:Nat):Int)) rfl Cx Y5 rfl (r8_wrap _)) ?_;refine PS ?_;refine tp (mB (r:=(gq bs).fdiv 65536) rfl rfl rfl (by omega) rfl) ?_;refine tp (eh (r:=(((r8 ((gq bs).fdiv 65536)).toNat:Nat):Int)) rfl Cx Y5 rfl (r8_wrap _)) ?_;refine PS ?_
 refine tp (mB (r:=(gq bs).fdiv 16777216) rfl rfl rfl (by omega) rfl) ?_;refine tp (eh (r:=(((r8 ((gq bs).fdiv 16777216)).toNat:Nat):Int)) rfl Cx Y5 rfl (r8_wrap _)) ?_;refine aT (cells:=#[(.int .u8 ((((r8 (gq bs)).toNat:Nat):Int))),(.int .u8 ((((r8 ((gq bs).fdiv 256)).toNat:Nat):Int))),(.int .u8 ((((r8 ((gq bs).fdiv 65536)).toNat:Nat):Int))),(.int .u8 ((((r8 ((gq bs).fdiv 16777216)).toNat:Nat):Int)))]) (ab rfl) rfl rfl rfl gA yA rfl rfl rfl (by as_aux_lemma=>kernel_rfl) (λb27=>cF (k:=1) (news:=dL ([(r8 (gq bs)),(r8 ((gq bs).fdiv 256)),(r8 ((gq bs).fdiv 65536)),(r8 ((gq bs).fdiv 16777216))])) (nn':=(bs++[(r8 (gq bs)),(r8 ((gq bs).fdiv 256)),(r8 ((gq bs).fdiv 65536)),(r8 ((gq bs).fdiv 16777216))]:List UInt8).length) (xs':=dL (bs++[(r8 (gq bs)),(r8 ((gq bs).fdiv 256)),(r8 ((gq bs).fdiv 65536)),(r8 ((gq bs).fdiv 16777216))])) (ab rfl) rfl rfl rfl gA yA rfl rfl rfl rfl rfl rfl (λ_ _=>jB rfl (RO 0) rfl) (e6 [(r8 (gq bs)),(r8 ((gq bs).fdiv 256)),(r8 ((gq bs).fdiv 65536)),(r8 ((gq bs).fdiv 16777216))]) (by simp only[maxLen];omega) (by omega) (by simp) (iO _ _).symm (λv28 ov28=>PS ?_));exact nx J5 (aj (WK [1] (aw rfl rfl rfl)))
theorem H5(a:Option Addr)(c:Nat)(bs:List UInt8)(hc:bs.length≤c)(hb:bs.length≤1000000000):
 DT 157 #[(.slice a bs.length c)] (IsW (.slice a bs.length c) bs) [] (dA (λv H=>(mQ bs=none∧v= .tuple #[.slice none 0 0, .bool false]∧H=[])∨∃t u,mQ bs=some t∧v= .tuple #[u, .bool true]∧H=[cw u t 5])):=by
 refine BD 50 Tryz.func157 rfl rfl rfl λw0 F hF=>sr λ_ J1=>P2 ?_
 refine nx J1 (aa λ_ J2=>sr λ_ J3=>PS ?_);refine tp (dI rfl gA rfl ⟨_,_,rfl⟩) ?_;refine PS ?_;refine aq ?_ ?_<;>intro h9;refine nx J3 (CY (sr λ_ J4=>P2 ?_));refine nx J4 (aj (ag (WK [] (iu rfl rfl rfl ?_))));exact .inl ⟨by rw[mQ,if_pos (by omega)],rfl,rfl⟩;have hT:IsW (ku (.slice a bs.length c) 0 (bs.length-4)) (bs.take (bs.length-4)) F:=by have:=hF.cut (lo:=0) (hi:=bs.length-4) (by omega) (by omega);simpa using this
 have hU:IsW (ku (.slice a bs.length c) (bs.length-4) bs.length) (bs.drop (bs.length-4)) F:=by have:=hF.cut (lo:=bs.length-4) (hi:=bs.length) (by omega) (by omega);rwa [iX]at this
 have hq:(bs.drop (bs.length-4)).length=4:=by rw[dP];omega
 obtain⟨b_b,off_b,cap_b,cs_b,T_b,z_b,hv_b,hb_b,hcs_b,hcp_b⟩:=IsW.at hU (j:=0) (by omega);have hlt_b:=IsW.lt hU;refine nx J3 (CN (qx J2 (aa λ_ J5=>D0 dx ?_)));refine PD 0 ?_;refine PD 1 ?_;refine ta 2 rfl (dI rfl gA rfl ⟨_,_,rfl⟩) ?_;refine ta 3 rfl (jC (r:=(((bs.length-4:Nat):Nat):Int)) rfl rfl rfl (by rw[show(((bs.length:Nat):Int)-4)=((bs.length-4:Nat):Int)by omega];exact bY (by omega) (by omega))) ?_;refine ta 4 rfl (PV.sliceH (hi:=bs.length-4) rfl gA l5 rfl rfl rfl (by omega)) ?_;refine PD 5 ?_;refine PD 6 ?_;refine ta 7 rfl (dI rfl gA rfl ⟨_,_,rfl⟩) ?_;refine ta 8 rfl (jC (r:=(((bs.length-4:Nat):Nat):Int)) rfl rfl rfl (by rw[show(((bs.length:Nat):Int)-4)=((bs.length-4:Nat):Int)by omega];exact bY (by omega) (by omega))) ?_;refine ta 9 rfl (PV.sliceL (lo:=bs.length-4) rfl gA l5 rfl rfl rfl (by omega)) ?_;refine PD 10 ?_;refine PD 11 ?_;refine DN (ae J5 (aa λ_ J6=>D0 dx ?_));refine PD 0 ?_;refine ta 1 rfl (bO (r:=off_b) hv_b rfl gA l5 rfl rfl (by omega) (by omega) (by omega)) ?_;refine ta 2 rfl (de (v:=(.int .u8 ((((((bs.drop (bs.length-4))).getD 0 0).toNat:Nat):Int)))) rfl Y5 rfl rfl (zO hb_b (λ_ h=>h.1)) (hcs_b 0 (by omega))) ?_;refine ta 3 rfl (eh (r:=(((((bs.drop (bs.length-4))).getD 0 0).toNat:Nat):Int)) rfl Y5 Cx rfl (kY (by omega) (by have:=UInt8.toNat_lt (n:=(bs.drop (bs.length-4)).getD 0 0);omega))) ?_;refine PD 4 ?_
 refine ta 5 rfl (bO (r:=off_b+1) hv_b rfl gA l5 rfl rfl (by omega) (by omega) (by omega)) ?_;refine ta 6 rfl (de (v:=(.int .u8 ((((((bs.drop (bs.length-4))).getD 1 0).toNat:Nat):Int)))) rfl Y5 rfl rfl (zO hb_b (λ_ h=>h.1)) (hcs_b 1 (by omega))) ?_;refine ta 7 rfl (eh (r:=(((((bs.drop (bs.length-4))).getD 1 0).toNat:Nat):Int)) rfl Y5 Cx rfl (kY (by omega) (by have:=UInt8.toNat_lt (n:=(bs.drop (bs.length-4)).getD 1 0);omega))) ?_;refine ta 8 rfl (zP (r:=IntKind.u32.wrap ((((((bs.drop (bs.length-4))).getD 1 0).toNat:Nat):Int)*2^8)) rfl rfl rfl (by omega) rfl) ?_;refine ta 9 rfl (L2 (r:=jp .u32 (((((bs.drop (bs.length-4))).getD 0 0).toNat:Nat):Int) (IntKind.u32.wrap ((((((bs.drop (bs.length-4))).getD 1 0).toNat:Nat):Int)*2^8))) rfl rfl rfl rfl) ?_;refine PD 10 ?_;refine ta 11 rfl (bO (r:=off_b+2) hv_b rfl gA l5 rfl rfl (by omega) (by omega) (by omega)) ?_;refine ta 12 rfl (de (v:=(.int .u8 ((((((bs.drop (bs.length-4))).getD 2 0).toNat:Nat):Int)))) rfl Y5 rfl rfl (zO hb_b (λ_ h=>h.1)) (hcs_b 2 (by omega))) ?_;refine ta 13 rfl (eh (r:=(((((bs.drop (bs.length-4))).getD 2 0).toNat:Nat):Int)) rfl Y5 Cx rfl (kY (by omega) (by have:=UInt8.toNat_lt (n:=(bs.drop (bs.length-4)).getD 2 0);omega))) ?_;refine ta 14 rfl (zP (r:=IntKind.u32.wrap ((((((bs.drop (bs.length-4))).getD 2 0).toNat:Nat):Int)*2^16)) rfl rfl rfl (by omega) rfl) ?_
 refine ta 15 rfl (L2 (r:=jp .u32 (jp .u32 (((((bs.drop (bs.length-4))).getD 0 0).toNat:Nat):Int) (IntKind.u32.wrap ((((((bs.drop (bs.length-4))).getD 1 0).toNat:Nat):Int)*2^8))) (IntKind.u32.wrap ((((((bs.drop (bs.length-4))).getD 2 0).toNat:Nat):Int)*2^16))) rfl rfl rfl rfl) ?_;refine PD 16 ?_;refine ta 17 rfl (bO (r:=off_b+3) hv_b rfl gA l5 rfl rfl (by omega) (by omega) (by omega)) ?_;refine ta 18 rfl (de (v:=(.int .u8 ((((((bs.drop (bs.length-4))).getD 3 0).toNat:Nat):Int)))) rfl Y5 rfl rfl (zO hb_b (λ_ h=>h.1)) (hcs_b 3 (by omega))) ?_;refine ta 19 rfl (eh (r:=(((((bs.drop (bs.length-4))).getD 3 0).toNat:Nat):Int)) rfl Y5 Cx rfl (kY (by omega) (by have:=UInt8.toNat_lt (n:=(bs.drop (bs.length-4)).getD 3 0);omega))) ?_;refine ta 20 rfl (zP (r:=IntKind.u32.wrap ((((((bs.drop (bs.length-4))).getD 3 0).toNat:Nat):Int)*2^24)) rfl rfl rfl (by omega) rfl) ?_;refine ta 21 rfl (L2 (r:=Ld ((bs.drop (bs.length-4)).getD 0 0) ((bs.drop (bs.length-4)).getD 1 0) ((bs.drop (bs.length-4)).getD 2 0) ((bs.drop (bs.length-4)).getD 3 0)) rfl rfl rfl rfl) ?_;refine PD 22 ?_;refine DN (ae J6 (aa λ_ J7=>sr λ_ J8=>PS ?_));refine aT (cells:=#[(ku (.slice a bs.length c) 0 (bs.length-4))]) (ab rfl) rfl rfl rfl wG Jd rfl rfl rfl (ux hT.one (by simp)) (λb43=>CF ND (Hb (.slice (some ⟨b43,0,none⟩) (1) (1)) [(bs.take (bs.length-4))]) ID (Ei hT 0 rfl rfl) ?_)
 rw[show [(bs.take (bs.length-4))].flatten=(bs.take (bs.length-4))by simp];refine P2 ?_;refine aq ?_ ?_<;>intro h46;refine nx J8 (CY (sr λ_ J9=>P2 ?_));refine nx J9 (aj (ag (WK [] (iu rfl rfl rfl ?_))));exact .inl ⟨by rw[mQ,if_neg (by omega),if_neg h46],rfl,rfl⟩;refine nx J8 (CN (qx J7 (sr λ_ J10=>Fg (ab rfl) rfl rfl rfl gA l5 (λv47=>PS ?_))));refine cF (k:=0) (news:=dL ((bs.take (bs.length-4)))) (nn':=((bs.take (bs.length-4)):List UInt8).length) (xs':=dL ((bs.take (bs.length-4)))) (ab rfl) rfl rfl rfl gA yA rfl rfl rfl rfl rfl rfl (λ_ _=>hT.src (λ_ h=>fm h)) (e6 _) (by simp only[maxLen,ao,aZ];omega) (by simp only[ao,aZ];omega) (by simp) (bG _) (λv49 ov49=>P2 ?_);refine nx J10 (aj (WK [0] (iu rfl rfl rfl ?_)));exact .inr ⟨_,_,by rw[mQ,if_neg (by omega),if_pos (by simpa using h46)],rfl,rfl⟩
theorem Ae(x:Value)(bs:List UInt8)(hb:bs.length≤1000000000):DT 157 #[x] (IsW x bs) [] (dA (λv H=>(mQ bs=none∧v= .tuple #[.slice none 0 0, .bool false]∧H=[])∨∃t u,mQ bs=some t∧v= .tuple #[u, .bool true]∧H=[cw u t 5])):=λw G h m=>by
 obtain⟨a,c,rfl,hc,_⟩:=h.form;exact H5 a c bs hc hb w G h m
theorem vV(n:Nat)(hn:n≤1000000000000):
 DT 171 #[(.int .i64 (((n:Nat):Int)))] T0 [] (RI (.int .i64 ((bc n:Nat):Int)) []):=by
 refine BD 9 Tryz.func171 rfl rfl rfl λw0 F hF=>sr λ_ J1=>PS ?_
 refine nx J1 (aa λ_ J2=>sr λ_ J3=>P2 ?_);refine aq ?_ ?_<;>intro h4;refine nx J3 (CY (sr λ_ J4=>PS ?_));refine nx J4 (aj (ag (WK [] (aw rfl rfl ?_))));obtain rfl:n=0:=by omega
 exact⟨rfl,rfl⟩;refine nx J3 (CN (qx J2 (sr λ_ J5=>PS ?_)));refine tp (jC rfl rfl rfl (bY (by omega) (by omega))) ?_;refine tp (PV.quo (r:=(((n-1) / 52:Nat):Int)) rfl rfl rfl (by omega) (by rw[show(((n:Nat):Int)-1)=((n-1:Nat):Int)by omega];exact Ku (n-1) 52 (by omega))) ?_;refine AD ?_;refine PS ?_;refine nx J5 (aj (WK [] (aw rfl rfl ?_)));rw[bc,if_neg (by omega)];exact⟨by simp,rfl⟩
theorem FR{number:Int}{bs:List UInt8}{k:Nat}:nH number bs (k+1)=nH number bs k++[qa (jG number k (bc bs.length) (gW bs k))++[1]]:=FQ number bs k
theorem BA(a:Option Addr)(c number:Nat)(bs:List UInt8)(hc:bs.length≤c)(hb:bs.length≤3000):
 DT 173 #[(.int .i64 (((number:Nat):Int))),(.slice a bs.length c)] (IsW (.slice a bs.length c) bs) [] (dA (λv H=>H=[mT 53 5 v (bl ((number:Nat):Int) bs)])):=by
 refine BD 68 Tryz.func173 rfl rfl rfl λw0 F hF=>sr λ_ J1=>PS ?_
 refine nx J1 (sr λ_ J2=>PS ?_);refine tp (dI rfl gA rfl ⟨_,_,rfl⟩) ?_;refine CE NE (vV bs.length (by omega)) ID ?_;refine PS ?_;refine nx J2 (sr λ_ J3=>PS ?_);refine nx J3 (aa λ_ J4=>sr λ_ J5=>P2 ?_);refine nx J5 (av ?_)
 refine bz (α:=(Nat)×(Value)) (λ⟨k,vr⟩=>k≤bc bs.length∧vr.oneCell'=true) (λ⟨k,vr⟩=>[(0,(.int .i64 (((number:Nat):Int)))),(1,(.slice a bs.length c)),(4,(.slice none 0 0)),(5,(.int .i64 (((bc bs.length:Nat):Int)))),(6,vr),(14,(.int .i64 (((bc bs.length:Nat):Int)))),(15,(.int .i64 (((k:Nat):Int))))]) (λ⟨k,vr⟩=>[mT 53 5 vr (nH ((number:Nat):Int) bs k)]) (λ⟨k,vr⟩=>bc bs.length-k) (0,(.slice none 0 0))
  ⟨aO _,rfl⟩ SB
  (λ_ s=>vK 53 5 s) (λ⟨k,vr⟩ hinv=>?_)
 obtain⟨hk,hvr⟩:=hinv;refine sr λ_ J6=>PS ?_
 refine aq ?_ ?_<;>intro h16;have hkn:=MA (n:=bs.length) (k:=k) (by omega);have hpe:=MB bs k;have hP:IsW (ku (.slice a bs.length c) (k*52) (min ((k+1)*52) bs.length)) (gW bs k) F:=by rw[←hpe];exact hF.cut (by omega) (by omega)
 have hpl:=rH bs k;have hpk:=pD hb;have hP2:=hP.len;refine nx J6 (aa λ_ J7=>CY (qx J7 (aa λ_ J8=>av (sr λ_ J9=>P2 ?_))));refine nx J9 (sr λ_ J10=>P2 ?_);refine tp (Np (r:=((k*52:Nat):Int)) rfl rfl rfl (by rw[show((k:Nat):Int)*52=((k*52:Nat):Int)by omega];exact bY (by omega) (by omega))) ?_;refine PS ?_;refine AD ?_;refine tp (Np (r:=(((k+1)*52:Nat):Int)) rfl rfl rfl (by rw[show(((k:Nat):Int)+1)*52=(((k+1)*52:Nat):Int)by omega];exact bY (by omega) (by omega))) ?_;refine PS ?_;refine tp (dI rfl gA rfl ⟨_,_,rfl⟩) ?_;refine tp (PV.minI rfl rfl rfl) ?_;refine tp (PV.sliceLH (lo:=k*52) (hi:=min ((k+1)*52) bs.length) rfl gA l5 rfl rfl rfl rfl (by omega) (by omega) (by omega)) ?_;refine PS ?_;refine nx J10 (sr λ_ J11=>TL.makeB (59) (59) (ab rfl) rfl rfl rfl gA yA rfl rfl rfl rfl (by omega) (by omega) (λb28=>PS ?_));refine nx J11 (aa λ_ J12=>sr λ_ J13=>PS ?_);refine nx J13 (av (ou 5 (sr λ_ J14=>PS ?_)));refine nx J14 (aa λ_ J15=>CY (qx J15 (aa λ_ J16=>av (sr λ_ J17=>P2 ?_))));refine nx J17 (af (P4 ?_));refine tp (jC (r:=3) rfl rfl rfl (by decide)) ?_;refine tp (Np (r:=24) rfl rfl rfl (by decide)) ?_;refine tp (mB (r:=((number:Nat):Int).fdiv 16777216) rfl rfl rfl (by omega) rfl) ?_;refine tp (eh (r:=(((r8 (((number:Nat):Int).fdiv 16777216)).toNat:Nat):Int)) rfl Y3 Y5 rfl (r8_wrap _)) ?_
 refine tp (j6 (r:=0) rfl gA l5 rfl rfl (by first|omega|decide) (by first|omega|decide) rfl) ?_;refine S0 0 l5 ?_;refine ax (ai (ae J16 (af (tp (cN (r:=1) rfl rfl rfl (by decide)) ?_))));refine PS ?_;refine ax (eD (sr λ_ J18=>PS ?_));refine nx J18 (aa λ_ J19=>CY (qx J19 (aa λ_ J20=>av (sr λ_ J21=>P2 ?_))));refine nx J21 (af (P4 ?_));refine tp (jC (r:=2) rfl rfl rfl (by decide)) ?_;refine tp (Np (r:=16) rfl rfl rfl (by decide)) ?_;refine tp (mB (r:=((number:Nat):Int).fdiv 65536) rfl rfl rfl (by omega) rfl) ?_;refine tp (eh (r:=(((r8 (((number:Nat):Int).fdiv 65536)).toNat:Nat):Int)) rfl Y3 Y5 rfl (r8_wrap _)) ?_;refine tp (j6 (r:=1) rfl gA l5 rfl rfl (by first|omega|decide) (by first|omega|decide) rfl) ?_;refine S0 0 l5 ?_;refine ax (ai (ae J20 (af (tp (cN (r:=2) rfl rfl rfl (by decide)) ?_))));refine PS ?_;refine ax (eD (sr λ_ J22=>PS ?_));refine nx J22 (aa λ_ J23=>CY (qx J23 (aa λ_ J24=>av (sr λ_ J25=>P2 ?_))));refine nx J25 (af (P4 ?_));refine tp (jC (r:=1) rfl rfl rfl (by decide)) ?_;refine tp (Np (r:=8) rfl rfl rfl (by decide)) ?_;refine tp (mB (r:=((number:Nat):Int).fdiv 256) rfl rfl rfl (by omega) rfl) ?_;refine tp (eh (r:=(((r8 (((number:Nat):Int).fdiv 256)).toNat:Nat):Int)) rfl Y3 Y5 rfl (r8_wrap _)) ?_;refine tp (j6 (r:=2) rfl gA l5 rfl rfl (by first|omega|decide) (by first|omega|decide) rfl) ?_;refine S0 0 l5 ?_
 refine ax (ai (ae J24 (af (tp (cN (r:=3) rfl rfl rfl (by decide)) ?_))));refine PS ?_;refine ax (eD (sr λ_ J26=>PS ?_));refine nx J26 (aa λ_ J27=>CY (qx J27 (aa λ_ J28=>av (sr λ_ J29=>P2 ?_))));refine nx J29 (af (P4 ?_));refine tp (jC (r:=0) rfl rfl rfl (by decide)) ?_;refine tp (Np (r:=0) rfl rfl rfl (by decide)) ?_;refine tp (mB (r:=((number:Nat):Int)) rfl rfl rfl (by omega) (Int.fdiv_one _)) ?_;refine tp (eh (r:=(((r8 (((number:Nat):Int))).toNat:Nat):Int)) rfl Y3 Y5 rfl (r8_wrap _)) ?_;refine tp (j6 (r:=3) rfl gA l5 rfl rfl (by first|omega|decide) (by first|omega|decide) rfl) ?_;refine S0 0 l5 ?_;refine ax (ai (ae J28 (af (tp (cN (r:=4) rfl rfl rfl (by decide)) ?_))));refine PS ?_;refine ax (eD (sr λ_ J30=>PS ?_));refine nx J30 (aa λ_ J31=>CN (aX (aC (aC (bq (ae J12 (sr λ_ J32=>P4 ?_)))))));refine tp (eh (r:=(((r8 (((k:Nat):Int))).toNat:Nat):Int)) rfl Y3 Y5 rfl (r8_wrap _)) ?_;refine PS ?_;refine tp (eh (r:=(((r8 (((bc bs.length:Nat):Int))).toNat:Nat):Int)) rfl Y3 Y5 rfl (r8_wrap _)) ?_;refine PS ?_;refine tp (dI rfl gA rfl hP2) ?_;refine tp (eh (r:=(((r8 ((((gW bs k).length:Nat):Int))).toNat:Nat):Int)) rfl Y3 Y5 rfl (r8_wrap _)) ?_;refine tp (j6 (r:=4) rfl gA l5 rfl rfl (by first|omega|decide) (by first|omega|decide) rfl) ?_;refine S0 0 l5 ?_;refine tp (j6 (r:=5) rfl gA l5 rfl rfl (by first|omega|decide) (by first|omega|decide) rfl) ?_;refine S0 0 l5 ?_
 refine tp (j6 (r:=6) rfl gA l5 rfl rfl (by first|omega|decide) (by first|omega|decide) rfl) ?_;refine S0 0 l5 ?_;refine nx J32 (sr λ_ J33=>PS ?_);refine tp (PV.sliceLo (k:=7) (v:=(.slice (some ⟨b28,7,none⟩) (52) (52))) rfl gA l5 rfl rfl rfl (by decide) rfl) ?_;refine PS ?_;refine O8 (i:=0) (m:=(gW bs k).length) (news:=(dL (gW bs k))) (H':=[ak b28 (dL (jG ((number:Nat):Int) k (bc bs.length) (gW bs k))) 5,mT 53 5 vr (nH ((number:Nat):Int) bs k)]) (ab rfl) rfl rfl rfl gA l5 rfl rfl rfl rfl (λ_ _=>hP.src (λ_ h=>fm h)) (e6 _) (by show 7+min (gW bs k).length 52≤59;omega) (H0 (number:=((number:Nat):Int)) (place:=k) (all:=bc bs.length) hpl) rfl (nx J33 (af (P2 ?_)));refine CQ NA (vH (.slice (some ⟨b28,0,none⟩) (59) (59)) (jG ((number:Nat):Int) k (bc bs.length) (gW bs k)) (by rw[jW hpl];decide)) ID (λg d s=>L6 (Eh 0 59 (jW hpl) (by decide) rfl rfl g d s)) λvR HR hR=>?_
 subst hR;refine aT (cells:=#[(.int .u8 1)]) (ab rfl) rfl rfl rfl gA yA rfl rfl rfl (by as_aux_lemma=>kernel_rfl) (λb62=>cF (k:=1) (news:=dL ([1])) (nn':=(qa (jG ((number:Nat):Int) k (bc bs.length) (gW bs k))++[1]:List UInt8).length) (xs':=dL (qa (jG ((number:Nat):Int) k (bc bs.length) (gW bs k))++[1])) (ab rfl) rfl rfl rfl gA yA rfl rfl rfl rfl rfl rfl (λ_ _=>jB rfl (RO 0) rfl) (e6 [1]) (by rw[lr,jW hpl];simp only[maxLen];omega) (by rw[lr,jW hpl];omega) (by simp) (iO _ _).symm (λv63 ov63=>aT (cells:=#[v63]) (ab rfl) rfl rfl rfl wG Jd rfl rfl rfl (ux ov63 (by simp)) (λb64=>?_)));change TL _ _ _ _ _ _ _ _ _ [ak b64 [v63] 53,ak b62 [(.int .u8 1)] 5,cw v63 (qa (jG ((number:Nat):Int) k (bc bs.length) (gW bs k))++[1]) 5,ak b28 (dL (jG ((number:Nat):Int) k (bc bs.length) (gW bs k))) 5,mT 53 5 vr (nH ((number:Nat):Int) bs k)];refine cz (λ_ s=>aD [4] rfl s) (N3 (λus65=>cF (k:=0) (m:=1) (news:=[v63]) (nn':=(nH ((number:Nat):Int) bs k).length+1) (xs':=us65++[v63]) (ab rfl) rfl rfl rfl wG Jd rfl rfl rfl rfl rfl rfl (λ_ _=>jB rfl (RO 2) rfl) (List.forall_mem_cons.2 ⟨ov63,λ_ h=>by cases h⟩) (by rw[Ah];simp only[maxLen];omega) (by rw[Ah];omega) rfl rfl (λv65 ov65=>?_)))
 change TL _ _ _ _ _ _ _ _ _ [own v65 ((nH ((number:Nat):Int) bs k).length+1) (us65++[v63]) 53 1,eJ us65 (nH ((number:Nat):Int) bs k) 5,ak b64 [v63] 53,ak b62 [(.int .u8 1)] 5,cw v63 (qa (jG ((number:Nat):Int) k (bc bs.length) (gW bs k))++[1]) 5,ak b28 (dL (jG ((number:Nat):Int) k (bc bs.length) (gW bs k))) 5];refine cz (λ_ s=>By 4 rfl rfl s) (cz (H':=[own v65 ((nH ((number:Nat):Int) bs k).length+1) (us65++[v63]) 53 1,eJ us65 (nH ((number:Nat):Int) bs k) 5,hX v63 (qa (jG ((number:Nat):Int) k (bc bs.length) (gW bs k))++[1]) 5,ak b64 [v63] 53,ak b62 [(.int .u8 1)] 5,ak b28 (dL (jG ((number:Nat):Int) k (bc bs.length) (gW bs k))) 5]) (λ_ s=>aD [0,0,2] rfl s) (cz (λ_ s=>vM s) ?_));rw[←FR];refine PS ?_;refine ax (ai (ae J8 (af (AD ?_))));refine PS ?_;refine ax ?_
 exact aM ((k+1,v65):(Nat)×(Value)) ⟨by omega,ov65⟩ (by show bc bs.length- (k+1)<bc bs.length-k;omega)
  SB
  (λ_ s=>an [0] rfl s)
 refine nx J6 (aa λ_ J34=>CN (aX (aC (aC (bq (ae J4 (sr λ_ J35=>P2 ?_)))))));refine nx J35 (aj (WK [0] (aw rfl rfl ?_)));obtain rfl:k=bc bs.length:=by omega
 exact rfl
theorem BB(x:Value)(number:Nat)(bs:List UInt8)(hb:bs.length≤3000):DT 173 #[.int .i64 ((number:Nat):Int),x] (IsW x bs) [] (dA (λv H=>H=[mT 53 5 v (bl ((number:Nat):Int) bs)])):=λw G h m=>by
 obtain⟨a,c,rfl,hc,_⟩:=h.form;exact BA a c number bs hc hb w G h m
theorem ya(s:il)(number place:Int)(hs:s.length=64):
 DT 139 #[(.agg (dL s).toArray),(.int .i64 (number)),(.int .i64 (place))] T0 [] (dA (λv H=>(e9 s number place=none∧v= .tuple #[.slice none 0 0, .int .i64 0, .bool false]∧H=[])∨∃b all u,e9 s number place=some (b,all)∧v= .tuple #[u, .int .i64 all, .bool true]∧H=[hX u b 5])):=by
 refine Leg.Does.body (n:=74) Tryz.func139 rfl rfl rfl (λw0 F hF=>sr λ_ J1=>XB λb3=>?_);change TL _ _ _ _ _ _ _ _ _ [ak b3 (dL s) 173]
 iterate 3 refine PS ?_
 refine nx J1 (sr λ_ J2=>tp (R7 (k:=63) rfl qg l5 rfl rfl (by omega) (by omega) rfl) ?_);refine CQ NI (Ae (.slice (some ⟨b3,0,none⟩) (63) (64)) (s.take 63) (by rw[aZ];omega)) (λ_ s=>s) (λg d s'=>L6 (Jb 0 63 (by omega) (by omega) (by decide) (by rw[az (by rw[aW];omega)]) hs.symm rfl rfl g d s')) λvR HR hR=>?_
 rcases hR with⟨ht,rfl,rfl⟩| ⟨t,u,ht,rfl,rfl⟩
 refine PS ?_;refine tp (ix (vs:=[(.slice none 0 0),(.bool false)]) rfl rfl rfl) ?_;refine tp (ix (vs:=[(.slice none 0 0),(.bool false)]) rfl rfl rfl) ?_;refine PS ?_;refine PS ?_;refine nx J2 (aa λ_ J3=>sr λ_ J4=>PS ?_);refine tp (nq (r:=true) rfl rfl rfl) ?_;refine PS ?_
 iterate 3 refine UT ?_
 refine PS ?_;refine nx J4 (CY (sr λ_ J5=>?_))
 iterate 3 refine PS ?_
 exact nx J5 (aj (ag (WK [] (n6 rfl rfl rfl rfl (.inl ⟨BS ht,rfl,rfl⟩)))));have htl:=Af ht;rw[aZ]at htl;have ht59:t.length=59:=by omega
 refine iI 0 rfl rfl (by omega) (λg cap hv hcap=>PS ?_);refine tp (ix (vs:=[u,(.bool true)]) rfl rfl rfl) ?_;refine tp (ix (vs:=[u,(.bool true)]) rfl rfl rfl) ?_;refine PS ?_;refine PS ?_;refine nx J2 (aa λ_ J6=>sr λ_ J7=>PS ?_);refine tp (nq (r:=false) rfl rfl rfl) ?_;refine PS ?_;refine tq (ox (r:=63) rfl qg l5 rfl rfl (lz rfl) (lz rfl) rfl) ?_;refine tq (ic (v:=(.int .u8 ((((s.getD 63 0).toNat:Nat):Int)))) rfl Y5 rfl rfl (RO 1) (sB (by omega))) ?_;refine PS ?_;refine aq (λh26=>?_) (λh26=>?_);refine PS ?_;refine nx J7 (CY (sr λ_ J8=>?_))
 iterate 3 refine PS ?_
 refine nx J8 (aj (ag (WK [] (n6 rfl rfl rfl rfl ?_))));exact .inl ⟨nJ (λh=>h26 (by rw[h];rfl)),rfl,rfl⟩;refine PS ?_;refine nx J7 (CN (qx J6 (sr λ_ J9=>PS ?_)));refine nx J9 (aa λ_ J10=>sr λ_ J11=>PS ?_);refine tp (QK (PV.sliceH (a:=some ⟨g,0,none⟩) (len:=t.length) (cap:=cap) (hi:=4) rfl gA l5 (by rw[←hv];rfl) rfl rfl (by omega)) (M8 (by omega))) ?_;refine tp (n4 rfl gA rfl) ?_;refine PS ?_;refine nx J11 (av ?_)
 refine bz (α:=(Nat)) (λk=>k≤4) (λk=>[(1,(.int .i64 (number))),(2,(.int .i64 (place))),(6,(.slice none 0 0)),(7,(.int .i64 0)),(8,(.bool false)),(9,u),(11,(.int .i64 (E8 (t.take k)))),(29,(.slice (some ⟨g,0,none⟩) (4) (cap))),(30,(.int .i64 4)),(31,(.int .i64 (((k:Nat):Int))))]) (λk=>[cw u (t) 5,ak b3 (dL s) 173]) (λk=>4-k) 0
  (aO _) SB
  (λ_ s=>s) (λk hinv=>?_)
 obtain hk:=hinv;refine sr λ_ J12=>PS ?_
 refine aq (λh32=>?_) (λh32=>?_);refine nx J12 (aa λ_ J13=>CY (qx J13 (aa λ_ J14=>av (sr λ_ J15=>tp (j6 (r:=k) rfl gA l5 rfl rfl (by first|omega|decide) (by first|omega|decide) (by omega)) ?_))));refine tp (de (v:=(.int .u8 ((((t.getD k 0).toNat:Nat):Int)))) rfl Y5 rfl rfl (fQ 0 rfl hv rfl) (sB (by omega))) ?_;refine PS ?_;refine nx J15 (af (PS ?_));refine tp (zP (r:=IntKind.i64.wrap ((E8 (t.take k))*2^8)) rfl rfl rfl (by omega) rfl) ?_;refine PS ?_;refine tp (eh (r:=(((t.getD k 0).toNat:Nat):Int)) rfl Y5 Y3 rfl (bY (by omega) (by have:=UInt8.toNat_lt (n:=t.getD k 0);omega))) ?_;refine tp (L2 (r:=jp .i64 (IntKind.i64.wrap ((E8 (t.take k))*2^8)) (((t.getD k 0).toNat:Nat):Int)) rfl rfl rfl rfl) ?_;refine PS ?_;refine ax (ai (ae J14 (af (AD ?_))));refine PS ?_;refine ax ?_
 exact aM ((k+1):(Nat)) (by omega) (by show 4- (k+1)<4-k;omega)
  (aS (aS (aS (aS (aS (aS (bJ rfl (congrArg (Value.int .i64) (LN (by omega)).symm) SB)))))))
  (λ_ s=>s)
 refine nx J12 (aa λ_ J16=>CN (aX (aC (aC (bq (ae J10 (aa λ_ J17=>s8 (λw=>Frm F w∧Hx g (dL (t)) w∧True) dx rfl (λ_ s=>⟨fm s,fQ 0 rfl hv rfl _ s,trivial⟩) (PD 0 ?_))))))));refine ta 1 rfl (bO (r:=5) hv rfl gA l5 rfl rfl (by omega) (by omega) rfl) ?_;refine ta 2 rfl (de (v:=(.int .u8 ((((t.getD 5 0).toNat:Nat):Int)))) rfl Y5 rfl rfl (λ_ h=>h.2.1) (sB (by omega))) ?_;refine ta 3 rfl (eh (r:=(((t.getD 5 0).toNat:Nat):Int)) rfl Y5 Y3 rfl (bY (by omega) (by have:=UInt8.toNat_lt (n:=t.getD 5 0);omega))) ?_;refine PD 4 ?_;refine ta 5 rfl (bO (r:=6) hv rfl gA l5 rfl rfl (by omega) (by omega) rfl) ?_;refine ta 6 rfl (de (v:=(.int .u8 ((((t.getD 6 0).toNat:Nat):Int)))) rfl Y5 rfl rfl (λ_ h=>h.2.1) (sB (by omega))) ?_;refine ta 7 rfl (eh (r:=(((t.getD 6 0).toNat:Nat):Int)) rfl Y5 Y3 rfl (bY (by omega) (by have:=UInt8.toNat_lt (n:=t.getD 6 0);omega))) ?_;refine PD 8 ?_;refine PD 9 ?_;refine DN (ae J17 (aa λ_ J18=>sr λ_ J19=>?_))
 iterate 3 refine PS ?_
 refine aq (λh51=>?_) (λh51=>?_);refine PS ?_
 iterate 6 refine UT ?_
 refine PS ?_;refine PS ?_
 iterate 3 refine UT ?_
 refine PS ?_;refine PS ?_;refine UT ?_;refine UT ?_;refine PS ?_;refine nx J19 (CY (sr λ_ J20=>?_))
 iterate 3 refine PS ?_
 refine nx J20 (aj (ag (WK [] (n6 rfl rfl rfl rfl ?_))));exact .inl ⟨m8 ht (.inl (by have:k=4:=(by omega);subst this;exact h51)),rfl,rfl⟩;refine PS ?_;refine PS ?_;refine tq (bO (r:=4) hv rfl gA l5 rfl rfl (by omega) (by omega) rfl) ?_;refine tq (de (v:=(.int .u8 ((((t.getD 4 0).toNat:Nat):Int)))) rfl Y5 rfl rfl (fQ 0 rfl hv rfl) (sB (by omega))) ?_;refine tq (eh (r:=(((t.getD 4 0).toNat:Nat):Int)) rfl Y5 Y3 rfl (bY (by omega) (by have:=UInt8.toNat_lt (n:=t.getD 4 0);omega))) ?_;refine PS ?_;refine PS ?_;refine aq (λh58=>?_) (λh58=>?_);refine PS ?_;refine PS ?_
 iterate 3 refine UT ?_
 refine PS ?_;refine PS ?_;refine UT ?_;refine UT ?_;refine PS ?_;refine nx J19 (CY (sr λ_ J21=>?_))
 iterate 3 refine PS ?_
 exact nx J21 (aj (ag (WK [] (n6 rfl rfl rfl rfl (.inl ⟨m8 ht (.inr (.inl h58)),rfl,rfl⟩)))))
 iterate 5 refine PS ?_
 refine aq (λh63=>?_) (λh63=>?_);refine PS ?_;refine PS ?_;refine UT ?_;refine UT ?_;refine PS ?_;refine nx J19 (CY (sr λ_ J22=>?_))
 iterate 3 refine PS ?_
 exact nx J22 (aj (ag (WK [] (n6 rfl rfl rfl rfl (.inl ⟨m8 ht (.inr (.inr (.inl h63))),rfl,rfl⟩)))))
 iterate 4 refine PS ?_
 refine aq (λh67=>?_) (λh67=>?_);refine PS ?_;refine nx J19 (CY (sr λ_ J23=>?_))
 iterate 3 refine PS ?_
 exact nx J23 (aj (ag (WK [] (n6 rfl rfl rfl rfl (.inl ⟨m8 ht (.inr (.inr (.inr h67))),rfl,rfl⟩)))));refine PS ?_;refine nx J19 (CN (qx J18 (sr λ_ J24=>PS ?_)));refine PS ?_;refine tp (cN (r:=((7+(t.getD 6 0).toNat:Nat):Int)) rfl rfl rfl (by rw[show(7:Int)+(((t.getD 6 0).toNat:Nat):Int)=((7+(t.getD 6 0).toNat:Nat):Int)by omega];have:=UInt8.toNat_lt (n:=t.getD 6 0);exact bY (by omega) (by omega))) ?_;refine tp (QK (PV.sliceLH (a:=some ⟨g,0,none⟩) (len:=t.length) (cap:=cap) (lo:=7) (hi:=7+(t.getD 6 0).toNat) rfl gA l5 (by rw[←hv];rfl) rfl rfl rfl rfl (by omega) (by omega)) (congrArg (λq=>ku q 7 (7+(t.getD 6 0).toNat)) hv.symm)) ?_
 iterate 4 refine PS ?_
 refine nx J24 (aj (aF (H':=[hX (ku u 7 (7+(t.getD 6 0).toNat)) ((t.drop 7).take (t.getD 6 0).toNat) 5]) (dH _) (λ_ s'=>an [0] rfl (xA 0 rfl rfl hv (by omega) (by omega) (by omega) (by rw[mD,cx]) s')) (n6 rfl rfl rfl rfl ?_)));obtain rfl:k=4:=by omega
 have h1:s.getD 63 0=1:=UInt8.toNat_inj.1 (by have h1':(1:UInt8).toNat=1:=rfl;omega);exact .inr ⟨_,_,_,DR ht h1 (by omega),rfl,rfl⟩
theorem NW:NM 102:=nk Tryz.func102
theorem Ox:NM 64:=nk Tryz.func64
theorem RH:NM 40:=nk Tryz.func40
theorem Pw:NM 63:=nk Tryz.func63
theorem wC(t c:Nat)(v:Value):
 DT 102 #[(.pointer (some ⟨t,1,none⟩))] T0 [ak t [(.pointer (some ⟨c,0,none⟩)),(.pointer none),v] 102] (dA (λ_ H=>H=[ak t [(.pointer (some ⟨c,0,none⟩)),(.pointer (some ⟨t,1,none⟩)),v] 102])):=by
 refine BD 20 Tryz.func102 rfl rfl rfl λw0 F hF=>sr λ_ J1=>P2 ?_
 refine FA 1 zG Ke ?_;refine LA 0 N1 ?_;refine tp (pk rfl N1 rfl rfl) ?_;refine nx J1 (CY (af (P2 ?_)));refine tp (PV.toUnsafe rfl N1 Tryz.underlying215 xq rfl (RO 0) (lb rfl)) ?_;refine tp (PV.noEscape rfl Tryz.func138 rfl rfl rfl rfl rfl) ?_;refine tp (PV.ofUnsafe rfl Tryz.underlying215 N1 xq rfl (RO 0) (by kernel_rfl)) ?_;refine PS ?_;refine FA 1 zG Ke ?_;refine S0 0 Ke ?_;exact ax (WK [0] (bC rfl rfl))
theorem wB(t c:Nat)(v:Value):
 DT 102 #[(.pointer (some ⟨t,1,none⟩))] T0 [ak t [(.pointer (some ⟨c,0,none⟩)),(.pointer (some ⟨t,1,none⟩)),v] 102] (dA (λ_ H=>H=[ak t [(.pointer (some ⟨c,0,none⟩)),(.pointer (some ⟨t,1,none⟩)),v] 102])):=by
 refine BD 20 Tryz.func102 rfl rfl rfl λw0 F hF=>sr λ_ J1=>P2 ?_
 refine FA 1 zG Ke ?_;refine LA 0 N1 ?_;refine tp (iW rfl N1 rfl rfl) ?_;refine nx J1 (CN (sr λ_ J2=>P2 ?_));refine FA 1 zG Ke ?_;refine LA 0 N1 ?_;refine PS ?_;refine tp (PV.ptrNeqSame rfl N1 xq rfl rfl) ?_;exact nx J2 (CN (aV (WK [0] (bC rfl rfl))))
theorem CJ(t c:Nat)(v:Value)(bs ys:List UInt8)(hv:v.oneCell'=true)(hb:bs.length+ys.length≤1000000):
 DT 64 #[(.pointer (some ⟨t,1,none⟩)),(iZ (ys))] T0 [ak t [(.pointer (some ⟨c,0,none⟩)),(.pointer none),v] 102,cw v (bs) 5] (dA (λ_ H=>∃v',v'.oneCell'=true∧H=[ak t [(.pointer (some ⟨c,0,none⟩)),(.pointer (some ⟨t,1,none⟩)),v'] 102,cw v' (bs++ys) 5])):=by
 refine BD 19 Tryz.func64 rfl rfl rfl λw0 F hF=>sr λ_ J1=>P2 ?_
 refine nx J1 (sr λ_ J2=>PS ?_);refine CZ NW (wC t c v) ID λvR=>?_
 refine nx J2 (sr λ_ J3=>P3 ?_);refine FA 2 zG ld ?_;refine LA 0 gA ?_;refine PS ?_;refine TL.appendT (k:=1) (bs:=bs) (ys:=ys) (ab rfl) rfl rfl rfl gA Y9 yA rfl rfl rfl rfl (by simp only[maxLen];omega) (by omega) (λv14 ov14=>PS ?_);refine FA 2 zG ld ?_;refine bF (i:=0) (ab rfl) rfl rfl rfl rfl ov14 ld rfl rfl (lb rfl) rfl rfl (nx J3 (sr λ_ J4=>PS ?_));refine tp (PV.strLen rfl Y9 rfl) ?_;refine P2 ?_;exact nx J4 (aj (WK [0,0] (iu rfl rfl rfl ⟨_,ov14,rfl⟩)))
theorem CI(t c:Nat)(v:Value)(bs ys:List UInt8)(hv:v.oneCell'=true)(hb:bs.length+ys.length≤1000000):
 DT 64 #[(.pointer (some ⟨t,1,none⟩)),(iZ (ys))] T0 [ak t [(.pointer (some ⟨c,0,none⟩)),(.pointer (some ⟨t,1,none⟩)),v] 102,cw v (bs) 5] (dA (λ_ H=>∃v',v'.oneCell'=true∧H=[ak t [(.pointer (some ⟨c,0,none⟩)),(.pointer (some ⟨t,1,none⟩)),v'] 102,cw v' (bs++ys) 5])):=by
 refine BD 19 Tryz.func64 rfl rfl rfl λw0 F hF=>sr λ_ J1=>P2 ?_
 refine nx J1 (sr λ_ J2=>PS ?_);refine CZ NW (wB t c v) ID λvR=>?_
 refine nx J2 (sr λ_ J3=>P3 ?_);refine FA 2 zG ld ?_;refine LA 0 gA ?_;refine PS ?_;refine TL.appendT (k:=1) (bs:=bs) (ys:=ys) (ab rfl) rfl rfl rfl gA Y9 yA rfl rfl rfl rfl (by simp only[maxLen];omega) (by omega) (λv14 ov14=>PS ?_);refine FA 2 zG ld ?_;refine bF (i:=0) (ab rfl) rfl rfl rfl rfl ov14 ld rfl rfl (lb rfl) rfl rfl (nx J3 (sr λ_ J4=>PS ?_));refine tp (PV.strLen rfl Y9 rfl) ?_;refine P2 ?_;exact nx J4 (aj (WK [0,0] (iu rfl rfl rfl ⟨_,ov14,rfl⟩)))
theorem Bw(t c g cap:Nat)(bs:List UInt8)(hpos:0<bs.length)(hb:bs.length≤1000000)(hcap:0<cap):
 DT 40 #[(.pointer (some ⟨t,1,none⟩))] T0 [ak t [(.pointer (some ⟨c,0,none⟩)),(.pointer (some ⟨t,1,none⟩)),(.slice (some ⟨g,0,none⟩) (bs.length) (cap))] 102,cw (.slice (some ⟨g,0,none⟩) (bs.length) (cap)) (bs) 5] (RI (iZ bs) [ak t [(.pointer (some ⟨c,0,none⟩)),(.pointer (some ⟨t,1,none⟩)),(.slice (some ⟨g,0,none⟩) (bs.length) (cap))] 102]):=by
 refine BD 14 Tryz.func40 rfl rfl rfl λw0 F hF=>sr λ_ J1=>PS ?_
 refine nx J1 (aa λ_ J2=>D1 0 dx ?_);refine PD 0 ?_;refine PD 1 ?_;refine FD 2 2 zG ld ?_;refine LX 3 gA (.slice (some ⟨g,0,none⟩) (bs.length) (cap)) ?_ (hc:=by exact rfl);refine ta 4 rfl (PV.sliceData rfl rfl hcap) ?_;refine PD 5 ?_;refine PD 6 ?_;refine FD 7 2 zG ld ?_;refine LX 8 gA (.slice (some ⟨g,0,none⟩) (bs.length) (cap)) ?_ (hc:=by exact rfl);refine ta 9 rfl (n4 rfl gA rfl) ?_;refine AL 10 ?_;refine TL.unsafeStr (k:=1) (bs:=bs) (ab rfl) rfl rfl rfl Tryz.underlying130 (by kernel_rfl) rfl rfl rfl rfl hpos (by omega) (EN (PD 11 ?_));exact DN (ae J2 (aj (WK [0] (aw rfl rfl ⟨rfl,rfl⟩))))
theorem Dd(t c:Nat)(v:Value)(bs:List UInt8)(hpos:0<bs.length)(hb:bs.length≤1000000):DT 40 #[.pointer (some ⟨t,1,none⟩)] T0 [ak t [(.pointer (some ⟨c,0,none⟩)),(.pointer (some ⟨t,1,none⟩)),v] 102,cw v bs 5] (RI (iZ bs) [ak t [(.pointer (some ⟨c,0,none⟩)),(.pointer (some ⟨t,1,none⟩)),v] 102]):=
 Leg.Does.ex (A':=λx: {x:Nat×Nat // 0<x.2∧v= .slice (some ⟨x.1,0,none⟩) bs.length x.2}=>[ak t [(.pointer (some ⟨c,0,none⟩)),(.pointer (some ⟨t,1,none⟩)),v] 102,cw v bs 5]) (λh s=>by
  obtain⟨h1,h2,_,_,a,_⟩:=eU 1 (lb rfl) s;obtain⟨_,⟨_,h0,_⟩| ⟨g,cap,cur,hv,_,hle,_⟩⟩:=a
  · omega
  · exact⟨⟨(g,cap),by show 0<cap;omega,hv⟩,s⟩) λ⟨x,hx,hv⟩=>by
  subst hv;exact Bw t c x.1 x.2 bs hpos hb hx
def Jp(n:Nat):List UInt8:=[UInt8.ofNat (48+n)]
end Go.Proofs.YtfocodjhmkokpaaGreatDoor
end

section
namespace Leg
open Go Codec Api
theorem Lp(vs:List Value): ∀(o j:Nat) (pre zeros post:List Value),pre.length=o+j→zeros.length=vs.length→
 ((vs.zipIdx j).foldl (λ(cs:Array Value) (c,i)=>cs.setIfInBounds (o+i) c) (pre++(zeros++post)).toArray)=(pre++(vs++post)).toArray:=by
 induction vs with
 |nil=>intro o j pre zeros post _ h;rw[List.eq_nil_of_length_eq_zero h];rfl
 |cons v vs ih=>
  intro o j pre zeros post hp hz
  match zeros,hz with
  |z::zeros,hz=>
   rw[List.zipIdx_cons,List.foldl_cons]
   have e:(pre++(z::zeros++post)).toArray.setIfInBounds (o+j) v=((pre++[v])++(zeros++post)).toArray:=by
    rw[List.setIfInBounds_toArray,gT _ _ (by omega),hp,zU,ql,ck,aI];rfl
   simp only[e];rw[ih o (j+1) (pre++[v]) zeros post (by simp;omega) (by simpa using hz),aI];rfl
def wA:List (List Value)→Nat→List (Nat×Nat)
 | [],_=>[]
 |s::ss,o=>(o,s.length)::wA ss (o+s.length)
def lq(segs:List (List Value)):List (Nat×List Value)→Option (List (List Value))
 | []=>some segs
 | (i,v)::ps=>match segs[i]?with
  |some s=>if v.length=s.length then lq (segs.set i v) ps else none
  |none=>none
theorem DW: ∀(segs:List (List Value)) (o i:Nat) (s v:List Value),segs[i]?=some s→v.length=s.length→wA (segs.set i v) o=wA segs o
 | [],_,_,_,_,h,_=>by simp at h
 |s::ss,o,0,t,v,h,hl=>by
  simp only[List.getElem?_cons_zero,Option.some.injEq]at h;subst h;simp[wA,hl]
 |s::ss,o,i+1,t,v,h,hl=>by
  simp only[List.getElem?_cons_succ]at h;simp[wA,DW ss _ i t v h hl]
theorem xF: ∀(segs:List (List Value)) (o i:Nat) (s:List Value),segs[i]?=some s→∃A B,segs.flatten=A++(s++B)∧(wA segs o)[i]?=some (o+A.length,s.length)∧∀v,(segs.set i v).flatten=A++(v++B)
 | [],_,_,_,h=>by simp at h
 |s::ss,o,0,t,h=>by
  simp only[List.getElem?_cons_zero,Option.some.injEq]at h;subst h;exact⟨[],ss.flatten,by simp,by simp[wA],λv=>by simp⟩
 |s::ss,o,i+1,t,h=>by
  simp only[List.getElem?_cons_succ]at h;obtain⟨A,B,h1,h2,h3⟩:=xF ss (o+s.length) i t h;refine⟨s++A,B,by simp[h1],?_,λv=>by simp[h3 v]⟩;simp only[wA,List.getElem?_cons_succ,h2,ac,HM]
theorem AP: ∀(parts:List (Nat×List Value)) (vals:List (Nat×Value)) (segs res:List (List Value)) (place:Nat→Option (Nat×Nat)),(∀i,i<segs.length→place i=(wA segs 0)[i]?)→vals.map (λp=>(p.1,p.2.cells))=parts.map (λp=>(p.1,p.2.toArray))→lq segs parts=some res→
 Instr.fill place segs.flatten.toArray vals=some res.flatten.toArray
 | [],[],segs,res,place,_,_,h=>by
  simp only[lq,Option.some.injEq]at h;subst h;rfl
 | [],_::_,_,_,_,_,h,_=>by simp at h
 |_::_,[],_,_,_,_,h,_=>by simp at h
 | (i,v)::ps,(i',u)::us,segs,res,place,hp,hv,h=>by
  simp only[el,List.cons.injEq,Prod.mk.injEq]at hv;obtain⟨⟨rfl,hu⟩,hv⟩:=hv;simp only[lq]at h;split at h
  · rename_i s hs
    split at h
    · rename_i hl
      have hi:i'<segs.length:=(List.getElem?_eq_some_iff.1 hs).1;obtain⟨A,B,h1,h2,h3⟩:=xF segs 0 i' s hs;simp only[bi]at h2;have e:=Lp v A.length 0 A s B (by simp) (by omega);have ih:=AP ps us (segs.set i' v) res place (λj hj=>by rw[DW segs 0 i' s v hs hl];exact hp j (by simpa using hj)) hv h;rw[h3]at ih;simp only[Instr.fill,hp i' hi,h2,hu,List.size_toArray,h1];rw[if_neg (by simp[hl])];rw[←ih,←e];congr 1;rw[←Array.foldl_toList,Array.toList_zipIdx]
    · cases h
  · cases h
theorem GL{P:Program}{t:TypeId}{fs:Array Field}{segs res:List (List Value)}{parts:List (Nat×List Value)}{vals:List (Nat×Value)}(ht:P.underlying t=some (.struct fs))(hz:(P.info? t).map (·.zero)=some (some (.agg segs.flatten.toArray)))
 (hp:fs.toList.mapM (λf=>(P.info? f.type).map λi=>(f.offset,i.size))=some (wA segs 0)) (hv:vals.map (λp=>(p.1,p.2.cells))=parts.map (λp=>(p.1,p.2.toArray))) (h:lq segs parts=some res):P.built t vals=some res.flatten.toArray:=by
 obtain⟨i,hi,hz'⟩:=Option.map_eq_some_iff.1 hz;unfold Program.built;simp only[hi,ht,hz',hp];exact AP parts vals segs res _ (λj _=>by simp) hv h
section
variable {P:Program} {n:Nat} {D:List Deferred} {L:List (Nat×Value)} {S:World→Prop} {o:Oper}
theorem PV.buildSegs{t:TypeId}{ps:Array (Nat×Operand)}{fs:Array Field}{segs res:List (List Value)}{parts:List (Nat×List Value)}{vals:List (Nat×Value)}{cs:List Value}(ho:o.op= .build t ps)(hx:Mb L ps.toList=some vals)(ht:P.underlying t=some (.struct fs))
 (hz:(P.info? t).map (·.zero)=some (some (.agg segs.flatten.toArray))) (hp:fs.toList.mapM (λf=>(P.info? f.type).map λi=>(f.offset,i.size))=some (wA segs 0)) (hv:vals.map (λp=>(p.1,p.2.cells))=parts.map (λp=>(p.1,p.2.toArray))) (h:lq segs parts=some res) (hc:res.flatten=cs):PV P n D L S o (.agg cs.toArray):=by
 subst hc;exact kA ho hx (GL ht hz hp hv h)
abbrev zS:= @PV.buildSegs
end
inductive SL:List (List Value)→List Nat→Prop
 |nil:SL [] []
 |cons {s:List Value} {n:Nat} {L:List (List Value)} {ns:List Nat} (h:s.length=n) (r:SL L ns):SL (s::L) (n::ns)
theorem SL.split{L:List (List Value)}{ns:List Nat}(h:SL L ns)(i:Nat){n:Nat}(hn:ns[i]?=some n): ∃s A B,L[i]?=some s∧s.length=n∧L.flatten=A++(s++B)∧A.length=(ns.take i).sum∧∀v,(L.set i v).flatten=A++(v++B):=by
 induction h generalizing i with
 |nil=>simp at hn
 | @cons s m L ns hs r ih=>
  cases i with
  |zero=>
   simp only[List.getElem?_cons_zero,Option.some.injEq]at hn;exact⟨s,[],L.flatten,rfl,by omega,by simp,rfl,λv=>by simp⟩
  |succ i=>
   obtain⟨t,A,B,h1,h2,h3,h4,h5⟩:=ih i (by simpa using hn);exact⟨t,s++A,B,by simpa using h1,h2,by simp[h3],by simp[h4,hs],λv=>by simp[h5 v]⟩
theorem SL.len{L:List (List Value)}{ns:List Nat}(h:SL L ns):L.flatten.length=ns.sum:=by
 induction h with
 |nil=>rfl
 |cons hs r ih=>simp[ih,hs]
theorem SL.sub{L:List (List Value)}{ns:List Nat}(h:SL L ns)(i:Nat){s:List Value}{n off:Nat}(j m:Nat)(hn:ns[i]?=some n)(hs:L[i]?=some s)(ho:(ns.take i).sum=off)(hj:j+m≤n):(L.flatten.drop (off+j)).take m=(s.drop j).take m:=by
 obtain⟨t,A,B,h1,h2,h3,h4,_⟩:=h.split i hn;obtain rfl:t=s:=by rw[h1]at hs;exact bK hs
 rw[h3,←ho,←h4,←jg,Fl,ii (by omega),co (by simp;omega)]
theorem SL.at{L:List (List Value)}{ns:List Nat}(h:SL L ns)(i:Nat){s:List Value}{n off:Nat}(j:Nat)(hn:ns[i]?=some n)(hs:L[i]?=some s)(ho:(ns.take i).sum=off)(hj:j<n):L.flatten[off+j]?=s[j]?:=by
 obtain⟨t,A,B,h1,h2,h3,h4,_⟩:=h.split i hn;obtain rfl:t=s:=by rw[h1]at hs;exact bK hs
 rw[h3,←ho,←h4,List.getElem?_append_right (by omega),cx,List.getElem?_append_left (by omega)]
theorem SL.putIn{L:List (List Value)}{ns:List Nat}(h:SL L ns)(i:Nat){s s':List Value}{n off:Nat}(j:Nat)(vs:List Value)(hn:ns[i]?=some n)(hs:L[i]?=some s)(ho:(ns.take i).sum=off)(hj:j+vs.length≤n)(hw:wr s j vs=s'):wr L.flatten (off+j) vs=(L.set i s').flatten:=by
 obtain⟨t,A,B,h1,h2,h3,h4,h5⟩:=h.split i hn;obtain rfl:t=s:=by rw[h1]at hs;exact bK hs
 rw[h5,h3,←ho,←h4,eE (by omega),cx,iB (by omega),hw]
theorem SL.set{L:List (List Value)}{ns:List Nat}(h:SL L ns)(i:Nat){s:List Value}{n off:Nat}(j:Nat)(v:Value)(hn:ns[i]?=some n)(hs:L[i]?=some s)(ho:(ns.take i).sum=off)(hj:j<n):L.flatten.set (off+j) v=(L.set i (s.set j v)).flatten:=by
 obtain⟨t,A,B,h1,h2,h3,h4,h5⟩:=h.split i hn;obtain rfl:t=s:=by rw[h1]at hs;exact bK hs
 rw[h5,h3,←ho,←h4,gT _ _ (by omega),cx,ry _ _ (by omega)]
theorem SL.around{L:List (List Value)}{ns:List Nat}(h:SL L ns)(i:Nat){s:List Value}{n off:Nat}(hn:ns[i]?=some n)(hs:L[i]?=some s)(ho:(ns.take i).sum=off): ∃A B,L.flatten=A++(s++B)∧A.length=off∧∀v,(L.set i v).flatten=A++(v++B):=by
 obtain⟨t,A,B,h1,h2,h3,h4,h5⟩:=h.split i hn;obtain rfl:t=s:=by rw[h1]at hs;exact bK hs
 exact⟨A,B,h3,by omega,h5⟩
section
variable {P:Program} {w0:World} {F:Hl} {n:Nat} {ops:Array Oper} {Q:QQ} {D:List Deferred} {L:List (Nat×Value)} {H:List HP} {S:World→Prop}
theorem TD.takeNotU{i d fuel j e:Nat}{b:Bool}{listed:Array Bool}{o:Oper}(hi:ops[i]?=some o)(hs:Region.noSelect ops=true)(hf:Region.free .any ops listed i=true)(hr:(Region.ready .any ops listed).contains i=true)
 (hQ: ∀c a v w,Q (.panic c) (a.put o.dst v) w→Q (.panic c) a w) (hg:o.guard=some (j,b)) (hj:(ops[j]?).bind (·.dst)=some e) (he:lk L e=some undef) (hd:o.dst=some d) (hn:Nat.blt d n=true)
 (h:TD P w0 F n ops Q S fuel (listed.setIfInBounds i true) D ((d,undef)::L) H):TD P w0 F n ops Q S (fuel+1) listed D L H:=λa w f s t hS=>by
 refine wpAnyH_take (v:=undef) hi hs hf hr (λc a w=>hQ c a undef w) (.inr ⟨?_,rfl⟩) hS ?_
 · simp[Region.wanted,hg,yielded,hj,f.2.2 e _ he,undef]
 rw[hd];exact h _ w (f.put (lb hn) _) s t hS
abbrev wq:= @TD.takeNotU
end
end Leg
end

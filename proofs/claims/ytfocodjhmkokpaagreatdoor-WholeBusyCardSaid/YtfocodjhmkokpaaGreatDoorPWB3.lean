/-
  Joined texts:what a statement's proof reaches.
-/
import Derived.Laws.MakeOwn
import Derived.OwnWalk
import Derived.WalkSpells
import Derived.Test.YtfocodjhmkokpaaGreatDoorPWB2
set_option maxHeartbeats 8000000
set_option maxRecDepth 100000
set_option linter.unusedSimpArgs false
set_option linter.unusedVariables false
section
namespace Leg
open Go Codec Api
theorem xz(v:Value)(n:Nat):madeCells #[v] n=(List.replicate n v).toArray:=by
 unfold madeCells;apply Array.ext
 · simp
 · intro i h1 h2
   simp at h1;simp[Nat.mod_one]
theorem I7(n:Nat):dw (List.replicate n 0)=List.replicate n (.int .u8 0):=by simp[dw]
section
variable {P:Program} {w0:World} {F:Hl} {n:Nat} {ops:Array Oper} {Q:QQ} {D:List Deferred} {L:List (Nat×Value)} {H:List HP} {o:Oper} {l:List Oper} {d:Nat} {S:World→Prop}
theorem TL.mono{H':List HP}(m: ∀h,bK H h→bK H' h)(h:TL P w0 F n ops Q l D L H'):TL P w0 F n ops Q l D L H:=TL.weak (cZ _) m h
abbrev ce:= @TL.mono
theorem TL.makeB{t e:TypeId}{x y:Operand}{k k':IntKind}{a b:Int}(m c:Nat)(hw:Want n D ops o L)(ho:o.op= .makeSlice t x y)(hd:o.dst=some d)(hn:Nat.blt d n=true)(ht:P.underlying t=some (.slice e))
 (hi:(P.info? e).map (λi=>(i.zero,i.size,i.bytes))=some (some (.int .u8 0),1,1)) (hx:cE L x=some (.int k a)) (hy:cE L y=some (.int k' b)) (ha:a=(m:Int)) (hb:b=(c:Int)) (h1:m≤c) (h2:c≤281474976710656)
 (h: ∀b,TL P w0 F n ops Q l D ((d, .slice (some ⟨b,0,none⟩) m c)::L) (aj b (dw (List.replicate c 0)) e::H)):TL P w0 F n ops Q (o::l) D L H:=
 j9 hw λa w f sm q=>by
  subst ha;subst hb;obtain⟨i,hie,hz0,hs,hb⟩:=info_parts hi;have hr:=run_make (P:=P) w t e i (.int .u8 0) ht hie hz0 k k' (m:Int) (c:Int) (by omega) (by omega) (by rw[hb];omega) (by omega)
  have e1:madeCells (Value.cells (.int .u8 0)) ((c:Int).toNat*i.size)=(dw (List.replicate c 0)).toArray:=by
   rw[hs,fH,IT,I7];exact xz _ _
  rw[e1]at hr;simp only[IT]at hr
  have r:(execOp a.eval o).run P w= .ok (.value (.slice (some ⟨w.heap.size,0,none⟩) m c)) (w.alloc (.cells (dw (List.replicate c 0)).toArray e)):=by
   simp only[execOp,ho,f.eval hx,f.eval hy,Sem.run_bind,hr,Result.andThen_ok,Sem.run_pure]
  unfold Oper.wp;rw[r,Oper.upon_value,hd];exact h _ _ _ (f.put (lb hn) _) (sm.trans ⟨rfl,rfl,rfl,by simp⟩) (q.alloc _)
def jz:Value→Nat→Nat→Value
 | .slice a m c,lo,hi=> .slice (if c=lo then a else a.map (·.add lo)) (hi-lo) (c-lo)
 |v,_,_=>v
theorem PV.sliceLH{t e:TypeId}{x y z:Operand}{a:Option Addr}{len cap lo hi:Nat}{k k':IntKind}{i j:Int}(ho:o.op= .slice t x (some y) (some z) none)(ht:P.underlying t=some (.slice e))(hs:(P.info? e).map (·.size)=some 1)
 (hx:cE L x=some (.slice a len cap)) (hy:cE L y=some (.int k i)) (hz:cE L z=some (.int k' j)) (hi':i=(lo:Int)) (hj:j=(hi:Int)) (h1:lo≤hi) (h2:hi≤cap):PV P n D L S o (jz (.slice a len cap) lo hi):=
 λb w g _=>by
  subst hi';subst hj;simp only[execOp,ho,g.eval hx,Option.map_some,Option.map_none,g.eval hy,g.eval hz,jz]
  by_cases q:cap=lo
  · have e2:hi=lo:=by omega
    subst e2;simp[Instr.sliceAt,Instr.slice,run_underlying ht,Instr.sliceBounds,Instr.sliceBound,asIntOf,dQ hs,q]
  · simp[Instr.sliceAt,Instr.slice,run_underlying ht,Instr.sliceBounds,Instr.sliceBound,asIntOf,h1,h2,dQ hs,q]
theorem PV.sliceH{t e:TypeId}{x z:Operand}{a:Option Addr}{len cap hi:Nat}{k':IntKind}{j:Int}(ho:o.op= .slice t x none (some z) none)(ht:P.underlying t=some (.slice e))(hs:(P.info? e).map (·.size)=some 1)
 (hx:cE L x=some (.slice a len cap)) (hz:cE L z=some (.int k' j)) (hj:j=(hi:Int)) (h2:hi≤cap):PV P n D L S o (jz (.slice a len cap) 0 hi):=
 λb w g _=>by
  subst hj;simp only[execOp,ho,g.eval hx,Option.map_some,Option.map_none,g.eval hz,jz]
  by_cases q:cap=0
  · have e2:hi=0:=by omega
    subst e2;simp[Instr.sliceAt,Instr.slice,run_underlying ht,Instr.sliceBounds,Instr.sliceBound,asIntOf,dQ hs,q]
  · simp[Instr.sliceAt,Instr.slice,run_underlying ht,Instr.sliceBounds,Instr.sliceBound,asIntOf,h2,dQ hs,q]
theorem PV.sliceL{t e:TypeId}{x y:Operand}{a:Option Addr}{len cap lo:Nat}{k:IntKind}{i:Int}(ho:o.op= .slice t x (some y) none none)(ht:P.underlying t=some (.slice e))(hs:(P.info? e).map (·.size)=some 1)
 (hx:cE L x=some (.slice a len cap)) (hy:cE L y=some (.int k i)) (hi:i=(lo:Int)) (h1:lo≤len):PV P n D L S o (jz (.slice a len cap) lo len):=
 λb w g _=>by
  subst hi;simp only[execOp,ho,g.eval hx,Option.map_some,Option.map_none,g.eval hy,jz]
  by_cases q:cap=lo
  · simp[Instr.sliceAt,Instr.slice,run_underlying ht,Instr.sliceBounds,Instr.sliceBound,asIntOf,h1,dQ hs,q]
  · simp[Instr.sliceAt,Instr.slice,run_underlying ht,Instr.sliceBounds,Instr.sliceBound,asIntOf,h1,dQ hs,q]
end
theorem IsW.form{v:Value}{bs:List UInt8}{F:Hl}(h:IsW v bs F): ∃a c,v= .slice a bs.length c∧bs.length≤c∧(bs.length=0∨c≤9223372036854775807):=by
 rcases h with(⟨rfl,rfl⟩| ⟨b,off,cap,cs,T,z,rfl,h1,h2,_⟩)| ⟨a,c,rfl,rfl⟩
 · exact⟨_,_,rfl,aQ _, .inl rfl⟩
 · exact⟨_,_,rfl,h1, .inr h2⟩
 · exact⟨_,_,rfl,aN _, .inl rfl⟩
theorem IsW.lt{v:Value}{bs:List UInt8}{F:Hl}(h:IsW v bs F):bs.length≤9223372036854775807:=by
 obtain⟨a,c,_,h1,h2⟩:=h.form;omega
theorem IsW.cut{v:Value}{bs:List UInt8}{F:Hl}(h:IsW v bs F){lo hi:Nat}(h1:lo≤hi)(h2:hi≤bs.length):IsW (jz v lo hi) ((bs.take hi).drop lo) F:=by
 have hl:((bs.take hi).drop lo).length=hi-lo:=by simp;omega
 by_cases e:hi-lo=0
 · obtain⟨a,c,rfl,hc,_⟩:=h.form
   have e0:(bs.take hi).drop lo=[]:=List.eq_nil_of_length_eq_zero (by omega);rw[e0];simp only[jz,e];split
   · cases a with
     |some a=>exact .inr ⟨_,_,rfl,rfl⟩
     |none=>
      rcases h with(⟨h,rfl⟩| ⟨b,off,cap,cs,T,z,h,_⟩)| ⟨a,c,h,_⟩
      · injection h with _ _ h;subst h;exact .inl (.inl ⟨by simp,rfl⟩)
      · simp at h
      · simp at h
   · cases a with
     |some a=>exact .inr ⟨_,_,rfl,rfl⟩
     |none=>
      rcases h with(⟨h,rfl⟩| ⟨b,off,cap,cs,T,z,h,_⟩)| ⟨a,c,h,_⟩
      · injection h with _ _ h;subst h;exact .inl (.inl ⟨by simp,rfl⟩)
      · simp at h
      · simp at h
 · obtain⟨b,off,cap,cs,T,z,rfl,hb,hcs,hc⟩:=h.at (j:=0) (by omega)
   rcases h.form with⟨a,c,hv,_,hm⟩
   injection hv with _ _ hv
   subst hv;refine .inl (.inr ⟨b,off+lo,cap-lo,cs,T,z,?_,by omega,by omega,hb,λj hj=>?_⟩)
   · simp only[jz,hl,if_neg (show ¬cap=lo by omega),Option.map_some,pO]
   · rw[hl]at hj
     rw[oY,hcs (lo+j) (by omega)];congr 2;simp[List.getD_eq_getElem?_getD,List.getElem?_take,show lo+j<hi by omega]
def gz(v:Value)(bs:List UInt8)(e:Nat):HP:=λh=>
 (v= .slice none 0 0∧bs=[]∧h=em)∨∃g off cap cur,v= .slice (some ⟨g,off,none⟩) bs.length cap∧h=sg g (.cells cur e (0,0))∧bs.length≤cap∧cap≤maxLen∧off+cap≤cur.size∧(cur.toList.drop off).take bs.length=dw bs
theorem pk{v:Value}{bs:List UInt8}{e:Nat}{h:Hl}(x:cu v bs e h):gz v bs e h:=by
 rcases x with⟨_,⟨h1,h2,h3⟩| ⟨g,cap,cur,h1,h2,h3,h4,h5,h6⟩⟩
 · exact .inl ⟨h1,List.eq_nil_of_length_eq_zero h2,h3⟩
 · exact .inr ⟨g,0,cap,cur,h1,h2,h3,h4,by omega,by simpa using h6⟩
section
variable {H:List HP} {F:Hl} {v:Value} {bs:List UInt8} {e:Nat}
theorem zm(i:Nat)(hi:Nat.blt i H.length=true)(hH:H.getD i (λ_=>True)=cu v bs e){h:Hl}(s:bK H h):bK (H.set i (gz v bs e)) h:=
 jL i (lb hi) (cD (dV i (lb hi) s) (λ_ x=>pk (by rwa [hH]at x)) λ_ x=>x)
theorem vC{lo hi nn:Nat}{bs':List UInt8}(i:Nat)(hi':Nat.blt i H.length=true)(hH:H.getD i (λ_=>True)=cu v bs e){g cap:Nat}(hv:v= .slice (some ⟨g,0,none⟩) nn cap)(h1:lo≤hi)(h2:hi≤bs.length)(h3:lo<bs.length)(hb:(bs.take hi).drop lo=bs'){h:Hl}(s:bK H h):
 bK (H.set i (gz (jz v lo hi) bs' e)) h:=by
 subst hb;have hl:((bs.take hi).drop lo).length=hi-lo:=by simp;omega
 refine jL i (lb hi') (cD (dV i (lb hi') s) (λ_ x=>?_) λ_ x=>x);rw[hH]at x;rcases x with⟨_,⟨h1,h2,_⟩| ⟨g',cap',cur,h4,h5,h6,h7,h8,h9⟩⟩
 · rw[hv]at h1;simp at h1
 · rw[hv]at h4 ⊢
   simp only[Value.slice.injEq,Option.some.injEq,Addr.mk.injEq,and_true,true_and]at h4;obtain⟨rfl,rfl,rfl⟩:=h4;refine .inr ⟨g,lo,cap-lo,cur,?_,h5,by omega,by omega,by omega,?_⟩
   · simp only[jz,hl,if_neg (show ¬cap=lo by omega),Option.map_some,pO,bi]
   · rw[hl]
     rw[fH]at h9;have e1:=congrArg (λl:List Value=>(l.take hi).drop lo) h9;simp only[Nx,Nat.min_eq_left h2]at e1;rw[←jH,e1];simp[dw,oZ,kD]
theorem Sat.sub_form{w:World}(i:Nat)(s:Sat H F w)(hi:Nat.blt i H.length=true)(hH:H.getD i (λ_=>True)=gz v bs e):(v= .slice none 0 0∧bs=[])∨∃g off cap cur,v= .slice (some ⟨g,off,none⟩) bs.length cap∧w.heap[g]?=some (.cells cur e (0,0))∧bs.length≤cap∧cap≤maxLen∧off+cap≤cur.size∧(cur.toList.drop off).take bs.length=dw bs:=by
 obtain⟨h,d,e',x⟩:=s;obtain⟨h1,h2,d',rfl,a,_⟩:=dV i (lb hi) x;rw[hH]at a;rcases a with⟨x1,x2,_⟩| ⟨g,off,cap,cur,x1,x2,x3⟩
 · exact .inl ⟨x1,x2⟩
 · refine .inr ⟨g,off,cap,cur,x1,?_,x3⟩
   have:hp w g=some (.cells cur e (0,0)):=by
    rw[e',iO];exact gi (by rw[x2];simp[sg])
   exact this
theorem Sat.sub_len{w:World}(i:Nat)(s:Sat H F w)(hi:Nat.blt i H.length=true)(hH:H.getD i (λ_=>True)=gz v bs e):oG v bs.length∧v.oneCell'=true:=by
 rcases s.sub_form i hi hH with⟨rfl,rfl⟩| ⟨g,off,cap,cur,rfl,_⟩
 · exact⟨⟨_,_,rfl⟩,rfl⟩
 · exact⟨⟨_,_,rfl⟩,rfl⟩
theorem Src.sub(i:Nat)(hi:Nat.blt i H.length=true)(hH:H.getD i (λ_=>True)=gz v bs e){w:World}(s:Sat H F w):Src (Sat H F) v bs.length (dw bs) 1:=by
 refine⟨by simp[dw],?_⟩;rcases s.sub_form i hi hH with⟨rfl,rfl⟩| ⟨g,off,cap,cur,rfl,_⟩
 · exact .inl ⟨rfl,rfl⟩
 · refine .inr ⟨⟨g,off,none⟩,cap,rfl,λw s j u hj=>?_⟩
   rcases s.sub_form i hi hH with⟨h1,_⟩| ⟨g',off',cap',cur',h1,h2,h3,h4,h5,h6⟩
   · simp at h1
   · simp only[Value.slice.injEq,Option.some.injEq,Addr.mk.injEq,and_true,true_and]at h1
     obtain⟨⟨rfl,rfl⟩,rfl⟩:=h1;rw[pO];rw[←h6,List.getElem?_take]at hj;split at hj
     · simp only[World.cell?,h2,Option.isSome_none,Bool.false_eq_true,if_false]
       simpa using hj
     · cases hj
theorem zR(i:Nat){B:List HP}(hi:Nat.blt i B.length=true)(hH:B.getD i (λ_=>True)=gz v bs e): ∀g,Dj g F→bK B g→IsB v bs (jn g F):=λg _ s=>by
 obtain⟨h1,h2,d',rfl,a,_⟩:=dV i (lb hi) s;rw[hH]at a;rcases a with⟨x1,x2,_⟩| ⟨g,off,cap,cur,x1,x2,x3,x4,x5,x6⟩
 · exact .inl ⟨x1,x2⟩
 · refine .inr ⟨g,off,cap,cur.toList,e,(0,0),x1,x3,by simpa [maxLen]using x4,gi (gi (by rw[x2];simp[sg])),λj hj=>?_⟩
   have e1:=congrArg (λl:List Value=>l[j]?) x6;simp only[List.getElem?_take,if_pos hj,List.getElem?_drop]at e1;rw[e1];simp[dw,List.getD_eq_getElem?_getD,hj]
end
theorem sY{P:Program}(w:World)(t ty e:TypeId)(i:TypeInfo)(ht:P.underlying t=some (.slice e))(hi:P.info? e=some i)(g off sLen sCap:Nat)(cur:Array Value)(hg:w.heap[g]?=some (.cells cur e (0,0)))
 (a:Addr) (m c:Nat) (news:List Value) (hl:news.length=m*i.size) (hnews: ∀j u,news[j]?=some u→w.cell? (a.add j)=some u) (h1: ∀u∈news,u.oneCell'=true)
 (hroom:sLen+m≤sCap) (hfit:off+sLen*i.size+news.length≤cur.size):
 (Builtin.append_ #[t,t] ty #[.slice (some ⟨g,off,none⟩) sLen sCap, .slice (some a) m c]).run P w=
  .ok (.slice (some ⟨g,off,none⟩) (sLen+m) sCap) (w.setRow g (cur.toList.take (off+sLen*i.size)++news++cur.toList.drop (off+sLen*i.size+news.length)).toArray):=by
 have hf:=run_firstCells_some (P:=P) w i.size m a m c news hl hnews;have hst:=run_storeCells_at P g (off+sLen*i.size) e news 0 cur w hg (by simpa using hfit) h1;simp only[xY]at hst;simp[Builtin.append_,run_underlying ht,Go.sizeOf,typeInfo,hi,Builtin.lenOf,hroom,hf,Addr.add_lit,hst]
section
variable {P:Program} {w0:World} {F:Hl} {n:Nat} {ops:Array Oper} {Q:QQ} {D:List Deferred} {L:List (Nat×Value)} {H:List HP} {o:Oper} {l:List Oper} {d:Nat} {S:World→Prop}
theorem Sat.sub_open{w:World}{k:Nat}{v:Value}{bs:List UInt8}{e:TypeId}(s:Sat H F w)(hk:Nat.blt k H.length=true)(hH:H.getD k (λ_=>True)=gz v bs e):
 (v= .slice none 0 0∧bs=[]∧Sat (H.set k (cu (.slice none 0 0) [] e)) F w)∨∃g off cap cur,v= .slice (some ⟨g,off,none⟩) bs.length cap∧Sat (H.set k (xf g (.cells cur e (0,0)))) F w∧bs.length≤cap∧cap≤maxLen∧off+cap≤cur.size∧(cur.toList.drop off).take bs.length=dw bs:=by
 obtain⟨h,d,e',x⟩:=s;obtain⟨h1,h2,d',rfl,a,y⟩:=dV k (lb hk) x;rw[hH]at a;rcases a with⟨x1,x2,x3⟩| ⟨g,off,cap,cur,x1,x2,x3⟩
 · exact .inl ⟨x1,x2,_,d,e',jL k (lb hk) ⟨h1,h2,d',rfl,⟨rfl, .inl ⟨rfl,rfl,x3⟩⟩,y⟩⟩
 · exact .inr ⟨g,off,cap,cur,x1,⟨_,d,e',jL k (lb hk) ⟨h1,h2,d',rfl,x2,y⟩⟩,x3⟩
theorem Src.of_eq{S':World→Prop}{x:Value}{m size:Nat}{news:List Value}(h:Src S x m news size)(hS: ∀w,S' w→S w):Src S' x m news size:=⟨h.1,h.2.imp id λ⟨a,c,q3,q4⟩=>⟨a,c,q3,λw' s'=>q4 w' (hS w' s')⟩⟩
theorem A1{k:Nat}{q:HP}(hk:Nat.blt k H.length=true)(hH:H.getD k (λ_=>True)=q):H.set k q=H:=by
 rw[←hH,List.getD_eq_getElem?_getD,List.getElem?_eq_getElem (lb hk)];exact List.set_getElem_self _
theorem A8{w:World}{k:Nat}{v x:Value}{bs news:List UInt8}{t ty e:TypeId}(s:Sat H F w)(ht:P.underlying t=some (.slice e))(hi:(P.info? e).map (λi=>(i.zero,i.size,i.bytes))=some (some (.int .u8 0),1,1))
 (hk:Nat.blt k H.length=true) (hH:H.getD k (λ_=>True)=gz v bs e) (hx:Src (Sat H F) x news.length (dw news) 1) (hb:bs.length+news.length≤140737488355328):
 ∃v' w',(Builtin.append_ #[t,t] ty #[v,x]).run P w= .ok v' w'∧Same w w'∧Sat (H.set k (gz v' (bs++news) e)) F w':=by
 rcases s.sub_open hk hH with⟨rfl,rfl,s1⟩| ⟨g,off,cap,cur,rfl,s1,h3,h4,h5,h6⟩
 · have hx':Src (Sat (H.set k (cu (.slice none 0 0) [] e)) F) x news.length (dw news) 1:=hx.of_eq λw' s'=>by
    have:=s'.turn (q:=gz (.slice none 0 0) [] e) k (by simpa using lb hk) λh hh=>by
     rw[fl (lb hk)]at hh;exact pk hh
    rwa [gv,A1 hk hH]at this
   obtain⟨v',w',r1,r2,r3⟩:=tK (k:=k) (nn:=0) (m:=news.length) (v:= .slice none 0 0) (xs:=dw []) (news:=dw news) (ty:=ty) s1 ht hi rfl (by decide) (by simpa using lb hk) (fl (lb hk) _) hx' (eB _) (by simp only[maxLen];simp at hb;omega) (by simp at hb;omega);refine⟨v',w',r1,r2,?_⟩;rw[gv]at r3
   have:=r3.turn (q:=gz v' ([]++news) e) k (by simpa using lb hk) λh hh=>by
    rw[fl (lb hk)]at hh;refine pk ?_;rw[←fL,bi,ca]at hh;exact hh
   rwa [gv]at this
 · obtain⟨i,hie,hz0,hsz,hby⟩:=info_parts hi
   obtain⟨hxl,hxx⟩:=hx;have hg:w.heap[g]?=some (.cells cur e (0,0)):=s1.block k (by simpa using lb hk) (fl (lb hk) _)
   by_cases hroom:bs.length+news.length≤cap
   · rcases hxx with⟨rfl,hm⟩| ⟨a0,c,rfl,hc⟩
     · have hn:news=[]:=List.eq_nil_of_length_eq_zero hm
       subst hn;refine⟨_,w,?_,oP w,by rw[a8,A1 hk hH];exact s⟩;simp[Builtin.append_,run_underlying ht,Go.sizeOf,typeInfo,hie,Builtin.lenOf,Builtin.firstCells,loadCells,loadCellsFrom,storeCells,h3]
     · have hfit:off+bs.length*i.size+(dw news).length≤cur.size:=by rw[hsz,fH,bj];omega
       refine⟨_,_,sY (P:=P) w t ty e i ht hie g off bs.length cap cur hg a0 news.length c (dw news) (by rw[hsz,bj,fH]) (λj v hj=>hc w s j v hj) (eB _) hroom hfit,⟨rfl,rfl,rfl,by simp⟩,?_⟩;have h2:=s1.write k (by simpa using lb hk) (fl (lb hk) _) (setRow_heap w g cur (cur.toList.take (off+bs.length*i.size)++dw news++cur.toList.drop (off+bs.length*i.size+(dw news).length)).toArray e _ hg) (λj hj=>setRow_other w g j _ hj);rw[gv]at h2
       have h7:=h2.turn (q:=gz (.slice (some ⟨g,off,none⟩) (bs.length+news.length) cap) (bs++news) e) k (by simpa using lb hk) (λh hh=>by
        rw[fl (lb hk)]at hh;rw[hsz,fH,bj]at hh;refine .inr ⟨g,off,cap,_,by rw[ag],hh,by rw[ag];exact hroom,h4,?_,?_⟩
        · simp only[List.size_toArray,ag,bq,bN,Array.length_toList,bj]
          rw[hsz,fH,bj]at hfit;omega
        · simp only[aZ]
          rw[j8 (by simp only[bq,Array.length_toList];rw[hsz,fH,bj]at hfit;omega),jH,cq,h6,←aZ,←fL]
          rw[ct (by rw[bj];exact aQ _),aC (by rw[bj];exact aQ _)])
       rwa [gv]at h7
   · rcases hxx with⟨rfl,hm⟩| ⟨a0,c,rfl,hc⟩
     · omega
     · have holds: ∀j u,(dw bs)[j]?=some u→w.cell? ((⟨g,off,none⟩:Addr).add j)=some u:=λj u hj=>by
        rw[pO];rw[←h6,List.getElem?_take]at hj;split at hj
        · simpa [World.cell?,hg]using hj
        · cases hj
       have hr:=run_append_grow (P:=P) w t ty e i _ ht hie hz0 ⟨g,off,none⟩ bs.length cap (dw bs) (by rw[hsz,bj,fH]) holds a0 news.length c (dw news) (by rw[hsz,bj,fH]) (λj v hj=>hc w s j v hj) (by omega) (by omega) (growslice_fits (by omega) (by rw[hby];omega));refine⟨_,_,hr,⟨rfl,rfl,rfl,by simp⟩,Ns k (lb hk) (s.drew.alloc _) λh hh=>?_⟩;have hge:=grownCap_ge w (bs.length+news.length) cap e;refine .inr ⟨w.heap.size,0,_,_,by rw[ag],hh,by rw[ag];exact hge,grownCap_le_maxLen w (bs.length+news.length) cap e (by simp only[maxLen];omega),?_,?_⟩
       · simp only[Array.size_append,List.size_toArray,size_zeroCells,bj,bi]
         have:(Value.cells (.int .u8 0)).size=1:=rfl;rw[this,fH];omega
       · simp only[Array.toList_append,aZ,bb]
         rw[←aZ,←fL,←bj (bs++news)];exact lD
theorem TL.appendS{s x:Operand}{k:Nat}{v vx:Value}{bs news bs':List UInt8}{t e:TypeId}(hw:Want n D ops o L)
 (ho:o.op= .call {callee:= .builtin .append,args:=#[s,x],argTypes:=#[t,t]}) (hd:o.dst=some d) (hn:Nat.blt d n=true) (ht:P.underlying t=some (.slice e))
 (hi:(P.info? e).map (λi=>(i.zero,i.size,i.bytes))=some (some (.int .u8 0),1,1)) (hs:cE L s=some v) (hx:cE L x=some vx)
 (hk:Nat.blt k H.length=true) (hH:H.getD k (λ_=>True)=gz v bs e) (hsrc: ∀w,Sat H F w→Src (Sat H F) vx news.length (dw news) 1) (hb:bs.length+news.length≤140737488355328)
 (hxs:bs++news=bs') (h: ∀v',v'.oneCell'=true→TL P w0 F n ops Q l D ((d,v')::L) (H.set k (gz v' bs' e))):TL P w0 F n ops Q (o::l) D L H:=
 j9 hw λa w f sm q=>by
  obtain⟨v',w',hr,s',q'⟩:=A8 (ty:=o.type) q ht hi hk hH (hsrc w q) hb;unfold Oper.wp execOp;simp only[ho,resolve,invoke,builtin,Sem.run_bind,Sem.run_pure,Result.andThen_ok,oS,eA,lQ,f.eval hs,f.eval hx,hr];rw[Oper.upon_value,hd];subst hxs;have one:v'.oneCell'=true:=(q'.sub_len k (by simpa using hk) (fl (lb hk) _)).2;exact h v' one _ w' (f.put (lb hn) v') (sm.trans s') q'
theorem TL.subLen{v:Value}{bs:List UInt8}{e:Nat}(k:Nat)(hk:Nat.blt k H.length=true)(hH:H.getD k (λ_=>True)=gz v bs e)
 (h:oG v bs.length→v.oneCell'=true→TL P w0 F n ops Q l D L H):TL P w0 F n ops Q l D L H:=xM (λw m=>m.sub_len k hk hH) λ⟨h1,h2⟩=>h h1 h2
end
theorem st{v:Value}{z:Array Value}(h:v.oneCell'=true)(hz:z.size=1):Instr.fill (λi=>some (i*1,1)) z [(0,v)]=some #[v]:=by
 rw[Instr.fill,yR h];simp only[gr,List.size_toArray,aw,az,bi,hz,ne_eq,not_true_eq_false,decide_false,Bool.false_or];rw[if_neg (by simp)]
 have:(#[v].zipIdx.foldl (λcs (c,j)=>cs.setIfInBounds (0+j) c) z)=#[v]:=by
  match z,hz with
  | ⟨[x]⟩,_=>rfl
 simp only[bi]at this;simp only[Instr.fill];rw[this]
theorem BI{x:Value}{bs:List UInt8}{F:Hl}(hx:IsW x bs F)(i:Nat){g T:Nat}{B:List HP}(hi:Nat.blt i B.length=true)(e:B.getD i (λ_=>True)=aj g [x] T): ∀h,Dj h F→bK B h→Nz (.slice (some ⟨g,0,none⟩) 1 1) [bs] (jn h F):=λh d s=>
 .inr (.inr ⟨g,0,1,[x],T,(0,0),rfl,aQ _,by decide,rP i hi e h d s,λj hj=>by
  obtain rfl:j=0:=by simpa using hj
  exact⟨[x],rfl,rfl,x,rfl,hx.more d⟩⟩)
theorem If(i n:Nat){g T:Nat}{bs:List UInt8}{B:List HP}{F:Hl}(hn:bs.length=n)(hl:n≤9223372036854775807)(hi:Nat.blt i B.length=true)(e:B.getD i (λ_=>True)=aj g (dw bs) T): ∀h,Dj h F→bK B h→IsB (.slice (some ⟨g,0,none⟩) n n) bs (jn h F):=by
 subst hn;exact JF i hl hi e
def ei(us:List Value)(ls:List (List UInt8))(e:Nat):HP:=λh=>us.length=ls.length∧bK (List.zipWith (λu l=>gz u l e) us ls) h
abbrev lT(te e:Nat)(v:Value)(ls:List (List UInt8)):HP:=pack λus:List Value=>[own v ls.length us te 1,ei us ls e]
theorem uU{α β γ:Type}(f:α→β→γ): ∀(us:List α) (ls:List β) (u:α) (l:β),us.length=ls.length→List.zipWith f (us++[u]) (ls++[l])=List.zipWith f us ls++[f u l]
 | [],[],_,_,_=>rfl
 | [],_::_,_,_,h=>by simp at h
 |_::_,[],_,_,h=>by simp at h
 |x::us,y::ls,u,l,h=>by simp[uU f us ls u l (by simpa using h)]
theorem tv{us:List Value}{ls:List (List UInt8)}{e:Nat}{u:Value}{l:List UInt8}{H:List HP}{h:Hl}(s:bK (ei us ls e::gz u l e::H) h):bK (ei (us++[u]) (ls++[l]) e::H) h:=by
 have t:=mz.2 s;refine cD t (λh' x=>?_) λ_ x=>x
 obtain⟨h1,h2,d,rfl,⟨hl,a⟩,b⟩:=x;refine⟨by simp[hl],?_⟩;rw[uU _ _ _ _ _ hl];exact(bY _ _).2 ⟨h1,h2,d,rfl,a,qI b⟩
theorem yU{e:Nat}{H:List HP}{h:Hl}(s:bK H h):bK (ei [] [] e::H) h:=⟨em,h,Cu h,(qn h).symm,⟨rfl,trivial⟩,s⟩
theorem wU: ∀(us:List Value) (ls:List (List UInt8)) (e:Nat) (h:Hl),us.length=ls.length→bK (List.zipWith (λu l=>gz u l e) us ls) h→∀(j:Nat) (hj:j<ls.length),∃u,us[j]?=some u∧∃h1 h2,Dj h1 h2∧h=jn h1 h2∧gz u ls[j] e h1
 | [],[],_,_,_,_,j,hj=>by simp at hj
 | [],_::_,_,_,h,_,_,_=>by simp at h
 |_::_,[],_,_,h,_,_,_=>by simp at h
 |u::us,l::ls,e,h,hl,s,0,_=>by
  obtain⟨h1,h2,d,rfl,a,_⟩:=s;exact⟨u,rfl,h1,h2,d,rfl,a⟩
 |u::us,l::ls,e,h,hl,s,j+1,hj=>by
  obtain⟨h1,h2,d,rfl,_,b⟩:=s;obtain⟨u',e1,g1,g2,d',rfl,a⟩:=wU us ls e h2 (by simpa using hl) b j (by simpa using hj);refine⟨u',by simpa using e1,g1,jn h1 g2,?_,?_,a⟩
  · obtain⟨q1,q2⟩:=na.1 d
    exact na.2 ⟨q1.symm,d'⟩
  · rw[m5 d,iO,m5 (na.1 d).2]
theorem AM{v:Value}{bs:List UInt8}{e:Nat}{h1 G:Hl}(a:gz v bs e h1)(hG:Le h1 G):IsB v bs G:=by
 rcases a with⟨x1,x2,_⟩| ⟨g,off,cap,cur,x1,x2,x3,x4,x5,x6⟩
 · exact .inl ⟨x1,x2⟩
 · refine .inr ⟨g,off,cap,cur.toList,e,(0,0),x1,x3,by simpa [maxLen]using x4,hG _ _ (by rw[x2];simp[sg]),λj hj=>?_⟩
   have e1:=congrArg (λl:List Value=>l[j]?) x6;simp only[List.getElem?_take,if_pos hj,List.getElem?_drop]at e1;rw[e1];simp[dw,List.getD_eq_getElem?_getD,hj]
theorem tG(te e:Nat){H:List HP}{h:Hl}(s:bK H h):bK (lT te e (.slice none 0 0) []::H) h:=bo (p:=λus:List Value=>[own (.slice none 0 0) 0 us te 1,ei us [] e]) [] (fq te 1 (yU s))
theorem tI{te e:Nat}{v' u:Value}{us:List Value}{ls:List (List UInt8)}{l:List UInt8}{H:List HP}{h:Hl}(s:bK (own v' (ls.length+1) (us++[u]) te 1::ei us ls e::gz u l e::H) h):bK (lT te e v' (ls++[l])::H) h:=
 bo (p:=λus:List Value=>[own v' (ls++[l]).length us te 1,ei us (ls++[l]) e]) (us++[u]) (cD s (λ_ x=>by simpa using x) λ_ x=>tv x)
section
variable {P:Program} {w0:World} {F:Hl} {n:Nat} {ops:Array Oper} {Q:QQ} {D:List Deferred} {L:List (Nat×Value)} {H:List HP} {l:List Oper}
theorem TL.recsOpen{te e:Nat}{v:Value}{ls:List (List UInt8)}(h: ∀us,TL P w0 F n ops Q l D L (own v ls.length us te 1::ei us ls e::H)):TL P w0 F n ops Q l D L (lT te e v ls::H):=
 Nr (λ_ s=>e5 s) h
abbrev KF:= @TL.recsOpen
theorem tH{te e:Nat}{v:Value}{ls:List (List UInt8)}{h:Hl}(s:lT te e v ls h):oG v ls.length∧v.oneCell'=true:=by
 obtain⟨us,g1,g2,d2,rfl,a1,_⟩:=s;rcases a1 with⟨q0,⟨q1,q2,_⟩| ⟨g,cap,cur,q1,_⟩⟩
 · subst q1
   have:ls=[]:=List.eq_nil_of_length_eq_zero q2;subst this;exact⟨⟨_,_,rfl⟩,rfl⟩
 · subst q1;exact⟨⟨_,_,rfl⟩,rfl⟩
theorem TL.recsLen{te e:Nat}{v:Value}{ls:List (List UInt8)}(k:Nat)(hk:Nat.blt k H.length=true)(hH:H.getD k (λ_=>True)=lT te e v ls)(h:oG v ls.length→v.oneCell'=true→TL P w0 F n ops Q l D L H):TL P w0 F n ops Q l D L H:=
 xM (p:=oG v ls.length∧v.oneCell'=true) (λw ⟨h,d,e',x⟩=>by
  obtain⟨h1,h2,d',rfl,a,_⟩:=dV k (lb hk) x;rw[hH]at a
  exact tH a) λ⟨h1,h2⟩=>h h1 h2
end
end Leg
namespace Leg
open Go Codec Api
section
variable {P:Program} {w0:World} {F:Hl} {n:Nat} {L:List (Nat×Value)} {H:List HP}
theorem TE.ret3{fn:Func}{post:Ending→List HP→Prop}{t t' t'':Nat}{v v' v'':Value}(hr:fn.results=#[.tmp t, .tmp t', .tmp t''])(e:lk L t=some v)(e':lk L t'=some v')(e'':lk L t''=some v'')(h:post (.returned (.tuple #[v,v',v''])) H):
 TE w0 F n (bodyPost P fn (jp post w0 F)) .ret [] L H:=λa w f s m=>by
 refine bodyPost_ret (results_tmp3 hr _ _ _) f.2.1 ⟨s,H,m,?_⟩;have h1:=f.eval (x:= .tmp t) e;have h2:=f.eval (x:= .tmp t') e';have h3:=f.eval (x:= .tmp t'') e'';rw[show a.tmps.getD t undef=v from h1,show a.tmps.getD t' undef=v' from h2,show a.tmps.getD t'' undef=v'' from h3];exact h
abbrev mQ:= @TE.ret3
end
theorem qv{l:List UInt8}{j:Nat}(h:j<l.length):(dw l)[j]?=some (.int .u8 (((l.getD j 0).toNat:Nat):Int)):=by simp[dw,List.getD_eq_getElem?_getD,h]
theorem JM{a:Addr}{m c k:Nat}(hc:0<c):jz (.slice (some a) m c) 0 k= .slice (some a) k c:=by
 simp only[jz,if_neg (show ¬c=0 by omega),Option.map_some,O9];rfl
end Leg
namespace Leg
open Go Codec Api
section
variable {P:Program} {w0:World} {F:Hl} {n:Nat} {ops:Array Oper} {Q:QQ} {D:List Deferred} {L:List (Nat×Value)} {H:List HP} {o:Oper} {l:List Oper} {d:Nat} {S:World→Prop}
end
end Leg
end

section
namespace Go.Proofs.YtfocodjhmkokpaaGreatDoor
open Go Leg Codec Api
theorem sU:(Tryz.prog.info? 75).map (·.size)=some 870:=by kernel_rfl
theorem sT:(Tryz.prog.info? 78).map (·.size)=some 875:=by kernel_rfl
theorem AG:(Tryz.prog.info? 85).map (·.size)=some 870:=by kernel_rfl
theorem Ki:NM 158:=nk Tryz.func158
theorem MB:NM 181:=nk Tryz.func181
theorem jM(w:Int):
 DT 99 #[(.int .i64 (w))] T0 [] (RI (.bool (cy w)) []):=by
 refine BD 9 Tryz.func99 rfl rfl rfl λw0 F hF=>sr λ_ J1=>PS ?_
 refine nx J1 (sr λ_ J2=>P2 ?_);refine ao ?_ ?_<;>intro h4
 iterate 5 refine PS ?_
 refine nx J2 (ah (av rfl rfl ?_));exact⟨congrArg Value.bool (by unfold cy;first| (rw[decide_eq_decide];omega)| (symm;rw[decide_eq_false_iff_not];omega)| (symm;rw[decide_eq_true_iff];omega)),rfl⟩;refine PS ?_;refine UF ?_;refine UF ?_;refine P2 ?_;refine nx J2 (ah (av rfl rfl ?_));exact⟨congrArg Value.bool (by unfold cy;first| (rw[decide_eq_decide];omega)| (symm;rw[decide_eq_false_iff_not];omega)| (symm;rw[decide_eq_true_iff];omega)),rfl⟩
theorem kQ(w:Int):
 DT 58 #[(.int .i64 (w))] T0 [] (RI (.bool (cy w)) []):=by
 refine BD 9 Tryz.func58 rfl rfl rfl λw0 F hF=>sr λ_ J1=>PS ?_
 refine nx J1 (sr λ_ J2=>P2 ?_);refine ao ?_ ?_<;>intro h4
 iterate 5 refine PS ?_
 refine nx J2 (ah (av rfl rfl ?_));exact⟨congrArg Value.bool (by unfold cy;first| (rw[decide_eq_decide];omega)| (symm;rw[decide_eq_false_iff_not];omega)| (symm;rw[decide_eq_true_iff];omega)),rfl⟩;refine PS ?_;refine UF ?_;refine UF ?_;refine P2 ?_;refine nx J2 (ah (av rfl rfl ?_));exact⟨congrArg Value.bool (by unfold cy;first| (rw[decide_eq_decide];omega)| (symm;rw[decide_eq_false_iff_not];omega)| (symm;rw[decide_eq_true_iff];omega)),rfl⟩
theorem hJ(w:Int):
 DT 97 #[(.int .i64 (w))] T0 [] (RI (.bool (cy w)) []):=by
 refine BD 9 Tryz.func97 rfl rfl rfl λw0 F hF=>sr λ_ J1=>PS ?_
 refine nx J1 (sr λ_ J2=>P2 ?_);refine ao ?_ ?_<;>intro h4
 iterate 5 refine PS ?_
 refine nx J2 (ah (av rfl rfl ?_));exact⟨congrArg Value.bool (by unfold cy;first| (rw[decide_eq_decide];omega)| (symm;rw[decide_eq_false_iff_not];omega)| (symm;rw[decide_eq_true_iff];omega)),rfl⟩;refine PS ?_;refine UF ?_;refine UF ?_;refine P2 ?_;refine nx J2 (ah (av rfl rfl ?_));exact⟨congrArg Value.bool (by unfold cy;first| (rw[decide_eq_decide];omega)| (symm;rw[decide_eq_false_iff_not];omega)| (symm;rw[decide_eq_true_iff];omega)),rfl⟩
theorem q6(key n:Int):
 DT 149 #[(.int .i64 (key)),(.int .i64 (n))] T0 [] (RI (.bool (w5 key n)) []):=by
 refine BD 19 Tryz.func149 rfl rfl rfl λw0 F hF=>sr λ_ J1=>PS ?_
 refine nx J1 (sr λ_ J2=>P2 ?_);refine ao ?_ ?_<;>intro h6;refine P3 ?_;refine ao ?_ ?_<;>intro h9;refine P4 ?_;refine ao ?_ ?_<;>intro h13;refine P3 ?_;refine CE Jy (kU n) ID ?_;refine P2 ?_;refine nx J2 (ah (WK [] (av rfl rfl ?_)));exact⟨congrArg Value.bool (by simp[w5,mK, *]),rfl⟩;refine P2 ?_;refine UF ?_;refine UF ?_;refine P2 ?_;refine nx J2 (ah (WK [] (av rfl rfl ?_)));exact⟨congrArg Value.bool (by simp[w5,mK, *]),rfl⟩;refine P2 ?_;refine UF ?_;refine UF ?_;refine P2 ?_;refine UF ?_;refine UF ?_;refine P2 ?_;refine nx J2 (ah (WK [] (av rfl rfl ?_)));exact⟨congrArg Value.bool (by simp[w5,mK, *]),rfl⟩;refine PS ?_;refine UF ?_;refine UF ?_;refine P2 ?_;refine UF ?_;refine UF ?_;refine P2 ?_;refine UF ?_;refine UF ?_;refine P2 ?_;refine nx J2 (ah (WK [] (av rfl rfl ?_)));exact⟨congrArg Value.bool (by simp[w5,mK, *]),rfl⟩
theorem Gu(b off T:Nat)(cs:List Value)(n:Int)(h:cs[off]?=some (.int .i64 n)):
 DT 151 #[(.pointer (some ⟨b,off,none⟩))] T0 [aj b (cs) T] (RI (.tuple #[.int .i64 n, .pointer (some ⟨b,off,none⟩)]) [aj b cs T]):=by
 refine BD 11 Tryz.func151 rfl rfl rfl λw0 F hF=>sr λ_ J1=>P2 ?_
 refine nx J1 (aa λ_ J2=>D1 0 bf ?_);refine PD 0 ?_;refine PD 1 ?_;refine ta 2 rfl (aW (r:=off) rfl mn rfl aO rfl rfl) ?_;refine LX 3 Y3 (.int .i64 (n)) ?_ (hc:=by exact h);refine PD 4 ?_;refine PD 5 ?_;refine ta 6 rfl (aW (r:=off) rfl mn rfl aO rfl rfl) ?_;refine PD 7 ?_;refine PD 8 ?_;exact DN (ac J2 (ah (WK [0] (gJ rfl rfl rfl ⟨rfl,rfl⟩))))
theorem GG(b off T:Nat)(cs:List Value)(n:Int)(h:cs[off+1]?=some (.int .i64 n)):
 DT 152 #[(.pointer (some ⟨b,off,none⟩))] T0 [aj b (cs) T] (RI (.tuple #[.int .i64 n, .pointer (some ⟨b,off+1,none⟩)]) [aj b cs T]):=by
 refine BD 11 Tryz.func152 rfl rfl rfl λw0 F hF=>sr λ_ J1=>P2 ?_
 refine nx J1 (aa λ_ J2=>D1 0 bf ?_);refine PD 0 ?_;refine PD 1 ?_;refine ta 2 rfl (aW (r:=off+1) rfl mn rfl aO rfl rfl) ?_;refine LX 3 Y3 (.int .i64 (n)) ?_ (hc:=by exact h);refine PD 4 ?_;refine PD 5 ?_;refine ta 6 rfl (aW (r:=off+1) rfl mn rfl aO rfl rfl) ?_;refine PD 7 ?_;refine PD 8 ?_;exact DN (ac J2 (ah (WK [0] (gJ rfl rfl rfl ⟨rfl,rfl⟩))))
theorem DO(b off T tb:Nat)(cs:List Value)(g:Vector Int 5)(to':Int)(ht:0≤to'∧to'<5)(h:(cs.drop (off+2)).take 5=ints g.toList):
 DT 153 #[(.pointer (some ⟨b,off,none⟩)),(.pointer (some ⟨tb,0,none⟩))] T0 [aj b (cs) T,aj tb [(.int .i64 (to'))] 3] (RI (.tuple #[.int .i64 (g.toList.foldl (λs g=>gm (s+g)) 0), .pointer (some ⟨b,off+2+to'.toNat,none⟩)]) [aj b cs T,aj tb [.int .i64 to'] 3]):=by
 refine BD 25 Tryz.func153 rfl rfl rfl λw0 F hF=>sr λ_ J1=>P2 ?_
 refine nx J1 (sr λ_ J2=>PS ?_);refine nx J2 (aa λ_ J3=>sr λ_ J4=>P2 ?_);refine tp (aW (r:=off+2) rfl mn rfl fb rfl rfl) ?_;refine tp (aK (vs:=ints g.toList) rfl jA rfl fb rfl (RO 0) (cI g) h) ?_;refine PS ?_;refine nx J4 (am ?_)
 refine bu (α:=(Nat)×(Int)) (λ⟨k,s⟩=>k≤5∧s=(g.toList.take k).foldl (λs g=>gm (s+g)) 0) (λ⟨k,s⟩=>[(0,(.pointer (some ⟨b,off,none⟩))),(1,(.pointer (some ⟨tb,0,none⟩))),(3,(.int .i64 0)),(4,(.pointer none)),(5,(.int .i64 (s))),(11,(.agg (ints g.toList).toArray)),(12,(.int .i64 (((k:Nat):Int))))]) (λ⟨k,s⟩=>[aj b (cs) T,aj tb [(.int .i64 (to'))] 3]) (λ⟨k,s⟩=>5-k) (0,0)
  ⟨aN _,rfl⟩ SB
  (λ_ s=>s) (λ⟨k,s⟩ hinv=>?_)
 obtain⟨hk,hs⟩:=hinv;refine sr λ_ J5=>PS ?_
 refine ao ?_ ?_<;>intro h13;refine nx J5 (aa λ_ J6=>CY (qx J6 (aa λ_ J7=>am (sr λ_ J8=>tp (ia (cs:=ints g.toList) (v:=Value.int .i64 (g[k]'(by omega))) (r:=k) rfl jA Y3 rfl aO rfl rfl (by omega) (by omega) (by omega) (jZ g (by omega))) ?_))));refine PS ?_;refine nx J8 (ad (P2 ?_));refine tp (bv (r:=(gm (s+(g[k]'(by omega))))) rfl rfl rfl rfl) ?_;refine PS ?_;refine ap (af (ac J7 (ad (AD ?_))));refine PS ?_;refine ap ?_
 exact aJ ((k+1,(gm (s+(g[k]'(by omega))))):(Nat)×(Int)) ⟨by omega,by rw[bF (by simp;omega),eN,←hs];simp⟩ (by show 5- (k+1)<5-k;omega)
  SB
  (λ_ s=>s)
 refine nx J5 (aa λ_ J9=>CN (aV (ay (ay (bh (ac J3 (aa λ_ J10=>D1 1 bf ?_)))))));refine PD 0 ?_;refine PD 1 ?_;refine LX 2 Y3 (.int .i64 (to')) ?_ (hc:=by exact rfl);refine PD 3 ?_;refine ta 4 rfl (aW (r:=off+2) rfl mn rfl fb rfl rfl) ?_;refine IY 5 (off+2+(to').toNat) jA aO ?_;refine PD 6 ?_;refine PD 7 ?_;refine DN (ac J10 (ah (WK [0,0] (gJ rfl rfl rfl ?_))));exact⟨by rw[hs,aC (by simp;omega)],rfl⟩
theorem zM(x:RowT)(key n:Int)(hk:0≤key∧key<4)(hn:1≤n∧n≤1099511627776):
 DT 150 #[(.agg (ints x.flat).toArray),(.int .i64 (key)),(.int .i64 (n)),(.func (.func 151) #[] #[])] T0 [] (RI (.tuple #[.agg (ints (lm x key n (dC x key).inn {dC x key with inn:=gm ((dC x key).inn+n)}).1.flat).toArray, .int .i64 (lm x key n (dC x key).inn {dC x key with inn:=gm ((dC x key).inn+n)}).2]) []):=by
 refine BD 36 Tryz.func150 rfl rfl rfl λw0 F hF=>?_
 have hkb:mK key=true:=decide_eq_true hk;have hcell:dC x key=x.cells[key.toNat]'(by omega):=by rw[dC,dif_pos hkb]
 refine sr λ_ J1=>XY (ints x.flat) λb4=>?_
 refine XZ tx (ints RowT.zero.flat) λb8=>?_
 refine PS ?_;refine nx J1 (sr λ_ J2=>P2 ?_);refine FA 1 dI la ?_;refine IX (1+key.toNat*7) An eO ?_;refine TL.callRv (ab rfl) rfl rfl rfl rfl MR rfl (Gu b4 (1+key.toNat*7) 39 (ints x.flat) x.cells[key.toNat].inn (uG x (key.toNat*7) (by omega) (by omega) (oz bn x.cells (i:=key.toNat) 0 (by omega) (by omega) (by decide) (x8 _ rfl)))) (λ_ s=>aA [1] rfl s) (λ_ _ _=>trivial) (λvR HR hR=>?_);obtain⟨rfl,rfl⟩:=hR;refine P4 ?_;refine PS ?_;refine nx J2 (aa λ_ J3=>sr λ_ J4=>P2 ?_);refine tp (ik (r:=(1099511627776-n)) rfl rfl rfl (bG (by omega) (by omega))) ?_;refine PS ?_;refine ao ?_ ?_<;>intro h23;refine nx J4 (CY (sr λ_ J5=>BV ((ints RowT.zero.flat).toArray) ?_));refine SW 1 ba ai ?_;refine PS ?_;refine nx J5 (ah (ae (RT 1 [] dI ba (ai _) ?_)));exact⟨by rw[lm,hcell,if_pos h23],rfl⟩;refine nx J4 (CN (qx J3 (sr λ_ J6=>P2 ?_)));refine LT 0 Y3 (.int .i64 ((x.cells[key.toNat]'(by omega)).inn)) ?_ (hc:=by exact uG x (key.toNat*7) (by omega) (by omega) (oz bn x.cells (i:=key.toNat) 0 (by omega) (by omega) (by decide) (x8 (x.cells[key.toNat]'(by omega)) rfl)));refine PS ?_;refine tp (bv (r:=(gm (((x.cells[key.toNat]'(by omega)).inn)+n))) rfl rfl rfl rfl) ?_;refine PS ?_
 refine bB (i:=0) (ab rfl) rfl rfl rfl rfl rfl aO rfl rfl (LB (ai _)) (OI x (key.toNat*7) (by omega) (by omega) (G8 bn x.cells (i:=key.toNat) 0 (by omega) (by omega) (by decide) (CellT.set_inn _ rfl _))) rfl (nx J6 (sr λ_ J7=>FA 0 dI aO ?_));refine LT 0 Y3 (.int .i64 (x.version)) ?_ (hc:=by exact cA _ rfl);refine tp (bv (r:=(gm (x.version+1))) rfl rfl rfl rfl) ?_;refine FA 0 dI aO ?_;refine bB (i:=0) (ab rfl) rfl rfl rfl rfl rfl aO rfl rfl (LB (ai _)) (xa _ rfl _) rfl (nx J7 (sr λ_ J8=>LW 0 dI ba ai ?_));refine SW 1 ba ai ?_;refine PS ?_;refine nx J8 (ah (RT 1 [] dI ba (ai _) ?_));refine⟨?_,rfl⟩;rw[lm,hcell,if_neg h23,kT,dif_pos hkb]
theorem zN(x:RowT)(key n:Int)(hk:0≤key∧key<4)(hn:1≤n∧n≤1099511627776):
 DT 150 #[(.agg (ints x.flat).toArray),(.int .i64 (key)),(.int .i64 (n)),(.func (.func 152) #[] #[])] T0 [] (RI (.tuple #[.agg (ints (lm x key n (dC x key).out {dC x key with out:=gm ((dC x key).out+n)}).1.flat).toArray, .int .i64 (lm x key n (dC x key).out {dC x key with out:=gm ((dC x key).out+n)}).2]) []):=by
 refine BD 36 Tryz.func150 rfl rfl rfl λw0 F hF=>?_
 have hkb:mK key=true:=decide_eq_true hk;have hcell:dC x key=x.cells[key.toNat]'(by omega):=by rw[dC,dif_pos hkb]
 refine sr λ_ J1=>XY (ints x.flat) λb4=>?_
 refine XZ tx (ints RowT.zero.flat) λb8=>?_
 refine PS ?_;refine nx J1 (sr λ_ J2=>P2 ?_);refine FA 1 dI la ?_;refine IX (1+key.toNat*7) An eO ?_;refine TL.callRv (ab rfl) rfl rfl rfl rfl MP rfl (GG b4 (1+key.toNat*7) 39 (ints x.flat) x.cells[key.toNat].out (uG x (key.toNat*7+1) (by omega) (by omega) (oz bn x.cells (i:=key.toNat) 1 (by omega) (by omega) (by decide) (x7 _ rfl)))) (λ_ s=>aA [1] rfl s) (λ_ _ _=>trivial) (λvR HR hR=>?_);obtain⟨rfl,rfl⟩:=hR;refine P4 ?_;refine PS ?_;refine nx J2 (aa λ_ J3=>sr λ_ J4=>P2 ?_);refine tp (ik (r:=(1099511627776-n)) rfl rfl rfl (bG (by omega) (by omega))) ?_;refine PS ?_;refine ao ?_ ?_<;>intro h23;refine nx J4 (CY (sr λ_ J5=>BV ((ints RowT.zero.flat).toArray) ?_));refine SW 1 ba ai ?_;refine PS ?_;refine nx J5 (ah (ae (RT 1 [] dI ba (ai _) ?_)));exact⟨by rw[lm,hcell,if_pos h23],rfl⟩;refine nx J4 (CN (qx J3 (sr λ_ J6=>P2 ?_)));refine LT 0 Y3 (.int .i64 ((x.cells[key.toNat]'(by omega)).out)) ?_ (hc:=by exact uG x (key.toNat*7+1) (by omega) (by omega) (oz bn x.cells (i:=key.toNat) 1 (by omega) (by omega) (by decide) (x7 (x.cells[key.toNat]'(by omega)) rfl)));refine PS ?_;refine tp (bv (r:=(gm (((x.cells[key.toNat]'(by omega)).out)+n))) rfl rfl rfl rfl) ?_;refine PS ?_
 refine bB (i:=0) (ab rfl) rfl rfl rfl rfl rfl aO rfl rfl (LB (ai _)) (OI x (key.toNat*7+1) (by omega) (by omega) (G8 bn x.cells (i:=key.toNat) 1 (by omega) (by omega) (by decide) (CellT.set_out _ rfl _))) rfl (nx J6 (sr λ_ J7=>FA 0 dI aO ?_));refine LT 0 Y3 (.int .i64 (x.version)) ?_ (hc:=by exact cA _ rfl);refine tp (bv (r:=(gm (x.version+1))) rfl rfl rfl rfl) ?_;refine FA 0 dI aO ?_;refine bB (i:=0) (ab rfl) rfl rfl rfl rfl rfl aO rfl rfl (LB (ai _)) (xa _ rfl _) rfl (nx J7 (sr λ_ J8=>LW 0 dI ba ai ?_));refine SW 1 ba ai ?_;refine PS ?_;refine nx J8 (ah (RT 1 [] dI ba (ai _) ?_));refine⟨?_,rfl⟩;rw[lm,hcell,if_neg h23,kT,dif_pos hkb]
theorem xy(x:RowT)(key n:Int)(hk:0≤key∧key<4)(hn:1≤n∧n≤1099511627776)(tb:Nat)(to':Int)(ht:0≤to'∧to'<5):
 DT 150 #[(.agg (ints x.flat).toArray),(.int .i64 (key)),(.int .i64 (n)),(.func (.func 153) #[] #[(.pointer (some ⟨tb,0,none⟩))])] T0 [aj tb [(.int .i64 (to'))] 3] (RI (.tuple #[.agg (ints (lm x key n (Hk (dC x key)) (wE (dC x key) to' (gm (kW (dC x key) to'+n)))).1.flat).toArray, .int .i64 (lm x key n (Hk (dC x key)) (wE (dC x key) to' (gm (kW (dC x key) to'+n)))).2]) [aj tb [.int .i64 to'] 3]):=by
 refine Leg.Does.body (vs:=[(.agg (ints x.flat).toArray),(.int .i64 (key)),(.int .i64 (n)),(.func (.func 153) #[] #[(.pointer (some ⟨tb,0,none⟩))])]) (n:=36) Tryz.func150 rfl rfl rfl (λw0 F hF=>?_);have hkb:mK key=true:=decide_eq_true hk;have hcell:dC x key=x.cells[key.toNat]'(by omega):=by rw[dC,dif_pos hkb]
 have htb:cy to'=true:=decide_eq_true ht;refine sr λ_ J1=>?_
 refine TL.box (ab rfl) rfl rfl rfl rfl (λb4=>?_);change TL _ _ _ _ _ _ _ _ _ [aj b4 (ints x.flat) 39,aj tb [(.int .i64 (to'))] 3];refine lA (ab rfl) rfl rfl rfl tx (λb8=>?_);change TL _ _ _ _ _ _ _ _ _ [aj b8 (ints RowT.zero.flat) 39,aj b4 (ints x.flat) 39,aj tb [(.int .i64 (to'))] 3];refine lc ?_;refine nx J1 ?_;refine sr λ_ J2=>?_
 refine mv ?_;refine mv ?_;refine tp (aW (r:=1) rfl dI rfl la rfl rfl) ?_;refine tp (g8 (r:=1+key.toNat*7) rfl An eO rfl rfl (by omega) (by omega) (by omega)) ?_;refine TL.callRv (ab rfl) rfl rfl rfl rfl MO rfl (DO b4 (1+key.toNat*7) 39 tb (ints x.flat) x.cells[key.toNat].given to' ht (Cq x (key.toNat*7+2) (by omega) (by omega) (kh bn x.cells (i:=key.toNat) 2 (by omega) (by omega) (by decide) (CellT.sub_given (x.cells[key.toNat]'(by omega)) 0 rfl (by decide) (whole (cI ((x.cells[key.toNat]'(by omega)).given))))))) (λ_ s=>aA [1,1] rfl s) (λ_ _ _=>trivial) (λvR HR hR=>?_);obtain⟨rfl,rfl⟩:=hR;refine mv ?_;refine tp (eF (vs:=[(.int .i64 ((Hk (x.cells[key.toNat]'(by omega))))),(.pointer (some ⟨b4,1+key.toNat*7+2+to'.toNat,none⟩))]) rfl rfl rfl) ?_;refine tp (eF (vs:=[(.int .i64 ((Hk (x.cells[key.toNat]'(by omega))))),(.pointer (some ⟨b4,1+key.toNat*7+2+to'.toNat,none⟩))]) rfl rfl rfl) ?_;refine lc ?_;refine lc ?_;refine nx J2 ?_;refine aa λ_ J3=>?_
 refine sr λ_ J4=>?_
 refine mv ?_;refine mv ?_;refine tp (ik (r:=(1099511627776-n)) rfl rfl rfl (bG (by omega) (by omega))) ?_;refine tp (PV.gtr rfl rfl rfl) ?_;refine ao (λh23=>?_) (λh23=>?_);refine nx J4 ?_;refine jD rfl ?_;refine sr λ_ J5=>?_
 refine tp (jF (cells:=(ints RowT.zero.flat).toArray) rfl rfl (by as_aux_lemma=>kernel_rfl)) ?_;refine bL (vs:=ints RowT.zero.flat) (i:=2) (ab rfl) rfl rfl rfl rfl rfl (by rw[(ai RowT.zero)];exact ba) (bm _) rfl rfl (by have h0:=(ai RowT.zero);have h1:=(ai RowT.zero);omega) (cg ((ai RowT.zero).trans (ai RowT.zero).symm)) rfl ?_;refine lc ?_;refine nx J5 ?_;refine ah ?_;refine ae ?_;refine lB (H':=[aj tb [(.int .i64 (to'))] 3]) rfl rfl rfl dI rfl ba (du 2 rfl rfl) (ai RowT.zero) (λ_ s=>ak [1] rfl s) ?_;exact⟨by rw[lm,hcell,if_pos h23],rfl⟩;refine nx J4 ?_;refine nN rfl ?_;refine aM ?_;refine ac J3 ?_;refine sr λ_ J6=>?_
 refine mv ?_;refine tp (eR rfl rfl) ?_;refine tp (ek (v:=(.int .i64 ((((x.cells[key.toNat]'(by omega)).given)[to'.toNat]'(by omega))))) rfl Y3 rfl rfl (du 0 rfl rfl) (uG x (key.toNat*7+2+to'.toNat) (by omega) (by omega) (oz bn x.cells (i:=key.toNat) (2+to'.toNat) (by omega) (by omega) (by omega) (NC (x.cells[key.toNat]'(by omega)) (to'.toNat) (by omega) (by omega) (jZ ((x.cells[key.toNat]'(by omega)).given) (by omega)))))) ?_;refine mv ?_;refine tp (bv (r:=(gm ((((x.cells[key.toNat]'(by omega)).given)[to'.toNat]'(by omega))+n))) rfl rfl rfl rfl) ?_;refine tp (eR rfl rfl) ?_;refine bB (i:=0) (ab rfl) rfl rfl rfl rfl rfl aO rfl rfl (by have h0:=(ai x);omega) (OI x (key.toNat*7+2+to'.toNat) (by omega) (by omega) (G8 bn x.cells (i:=key.toNat) (2+to'.toNat) (by omega) (by omega) (by omega) (CellT.st_given (x.cells[key.toNat]'(by omega)) (to'.toNat) (by omega) (by omega) (pc ((x.cells[key.toNat]'(by omega)).given) (by omega) _)))) rfl ?_;refine nx J6 ?_;refine sr λ_ J7=>?_
 refine tp (aW (r:=0) rfl dI rfl aO rfl rfl) ?_;refine tp (ek (v:=(.int .i64 (x.version))) rfl Y3 rfl rfl (du 0 rfl rfl) (cA (RowT.mk x.version (x.cells.set key.toNat (CellT.mk ((x.cells[key.toNat]'(by omega)).inn) ((x.cells[key.toNat]'(by omega)).out) (((x.cells[key.toNat]'(by omega)).given).set to'.toNat (gm ((((x.cells[key.toNat]'(by omega)).given)[to'.toNat]'(by omega))+n)) (by omega))) (by omega)) x.heir x.left) rfl)) ?_;refine tp (bv (r:=(gm (x.version+1))) rfl rfl rfl rfl) ?_;refine tp (aW (r:=0) rfl dI rfl aO rfl rfl) ?_;refine bB (i:=0) (ab rfl) rfl rfl rfl rfl rfl aO rfl rfl (by have h0:=(ai (RowT.mk x.version (x.cells.set key.toNat (CellT.mk ((x.cells[key.toNat]'(by omega)).inn) ((x.cells[key.toNat]'(by omega)).out) (((x.cells[key.toNat]'(by omega)).given).set to'.toNat (gm ((((x.cells[key.toNat]'(by omega)).given)[to'.toNat]'(by omega))+n)) (by omega))) (by omega)) x.heir x.left));omega) (xa (RowT.mk x.version (x.cells.set key.toNat (CellT.mk ((x.cells[key.toNat]'(by omega)).inn) ((x.cells[key.toNat]'(by omega)).out) (((x.cells[key.toNat]'(by omega)).given).set to'.toNat (gm ((((x.cells[key.toNat]'(by omega)).given)[to'.toNat]'(by omega))+n)) (by omega))) (by omega)) x.heir x.left) rfl _) rfl ?_;refine nx J7 ?_;refine sr λ_ J8=>?_
 refine tp (aK (vs:=ints (RowT.mk (gm (x.version+1)) (x.cells.set key.toNat (CellT.mk ((x.cells[key.toNat]'(by omega)).inn) ((x.cells[key.toNat]'(by omega)).out) (((x.cells[key.toNat]'(by omega)).given).set to'.toNat (gm ((((x.cells[key.toNat]'(by omega)).given)[to'.toNat]'(by omega))+n)) (by omega))) (by omega)) x.heir x.left).flat) rfl dI rfl ba rfl (du 0 rfl rfl) (ai (RowT.mk (gm (x.version+1)) (x.cells.set key.toNat (CellT.mk ((x.cells[key.toNat]'(by omega)).inn) ((x.cells[key.toNat]'(by omega)).out) (((x.cells[key.toNat]'(by omega)).given).set to'.toNat (gm ((((x.cells[key.toNat]'(by omega)).given)[to'.toNat]'(by omega))+n)) (by omega))) (by omega)) x.heir x.left)) (whole (ai (RowT.mk (gm (x.version+1)) (x.cells.set key.toNat (CellT.mk ((x.cells[key.toNat]'(by omega)).inn) ((x.cells[key.toNat]'(by omega)).out) (((x.cells[key.toNat]'(by omega)).given).set to'.toNat (gm ((((x.cells[key.toNat]'(by omega)).given)[to'.toNat]'(by omega))+n)) (by omega))) (by omega)) x.heir x.left)))) ?_
 refine bL (vs:=ints (RowT.mk (gm (x.version+1)) (x.cells.set key.toNat (CellT.mk ((x.cells[key.toNat]'(by omega)).inn) ((x.cells[key.toNat]'(by omega)).out) (((x.cells[key.toNat]'(by omega)).given).set to'.toNat (gm ((((x.cells[key.toNat]'(by omega)).given)[to'.toNat]'(by omega))+n)) (by omega))) (by omega)) x.heir x.left).flat) (i:=2) (ab rfl) rfl rfl rfl rfl rfl (by rw[(ai (RowT.mk (gm (x.version+1)) (x.cells.set key.toNat (CellT.mk ((x.cells[key.toNat]'(by omega)).inn) ((x.cells[key.toNat]'(by omega)).out) (((x.cells[key.toNat]'(by omega)).given).set to'.toNat (gm ((((x.cells[key.toNat]'(by omega)).given)[to'.toNat]'(by omega))+n)) (by omega))) (by omega)) x.heir x.left))];exact ba) (bm _) rfl rfl (by have h0:=(ai RowT.zero);have h1:=(ai (RowT.mk (gm (x.version+1)) (x.cells.set key.toNat (CellT.mk ((x.cells[key.toNat]'(by omega)).inn) ((x.cells[key.toNat]'(by omega)).out) (((x.cells[key.toNat]'(by omega)).given).set to'.toNat (gm ((((x.cells[key.toNat]'(by omega)).given)[to'.toNat]'(by omega))+n)) (by omega))) (by omega)) x.heir x.left));omega) (cg ((ai RowT.zero).trans (ai (RowT.mk (gm (x.version+1)) (x.cells.set key.toNat (CellT.mk ((x.cells[key.toNat]'(by omega)).inn) ((x.cells[key.toNat]'(by omega)).out) (((x.cells[key.toNat]'(by omega)).given).set to'.toNat (gm ((((x.cells[key.toNat]'(by omega)).given)[to'.toNat]'(by omega))+n)) (by omega))) (by omega)) x.heir x.left)).symm)) rfl ?_;refine lc ?_;refine nx J8 ?_;refine ah ?_
 refine lB (H':=[aj tb [(.int .i64 (to'))] 3]) rfl rfl rfl dI rfl ba (du 2 rfl rfl) (ai (RowT.mk (gm (x.version+1)) (x.cells.set key.toNat (CellT.mk ((x.cells[key.toNat]'(by omega)).inn) ((x.cells[key.toNat]'(by omega)).out) (((x.cells[key.toNat]'(by omega)).given).set to'.toNat (gm ((((x.cells[key.toNat]'(by omega)).given)[to'.toNat]'(by omega))+n)) (by omega))) (by omega)) x.heir x.left)) (λ_ s=>ak [1] rfl s) ?_;refine⟨?_,rfl⟩;rw[lm,hcell,if_neg h23,kT,dif_pos hkb];simp[wE,kW,htb]
theorem Ba(x:RowT)(key n:Int):
 DT 110 #[(.agg (ints x.flat).toArray),(.int .i64 (key)),(.int .i64 (n))] T0 [] (RI (.tuple #[.agg (ints (pp x key n).1.flat).toArray, .int .i64 (pp x key n).2]) []):=by
 refine BD 19 Tryz.func110 rfl rfl rfl λw0 F hF=>sr λ_ J1=>XY (ints x.flat) λb3=>?_
 refine XZ tx (ints RowT.zero.flat) λb6=>?_
 refine PS ?_;refine nx J1 (aa λ_ J2=>sr λ_ J3=>P2 ?_);refine CE HW (q6 key n) ID ?_;refine bc ?_ ?_<;>intro h10;have hq:=h10;unfold w5 mK HL at hq;simp only[au,decide_eq_true_iff]at hq;have hk:0≤key∧key<4:=hq.1.1;have hn:1≤n∧n≤1099511627776:=⟨hq.1.2,hq.2.2⟩;refine PS ?_;refine nx J3 (CN (qx J2 (sr λ_ J4=>LW 1 dI ba ai ?_)));refine P2 ?_;refine CE HV (zM x key n hk hn) ID ?_;refine P2 ?_;refine SW 0 ba ai ?_;refine PS ?_;refine nx J4 (ah (RT 0 [] dI ba (ai _) ?_));exact⟨by simp[pp, *],rfl⟩;refine PS ?_;refine nx J3 (CY (sr λ_ J5=>BV ((ints RowT.zero.flat).toArray) ?_));refine SW 0 ba ai ?_;refine PS ?_;refine nx J5 (ah (ae (RT 0 [] dI ba (ai _) ?_)));exact⟨by simp[pp, *],rfl⟩
theorem Bb(x:RowT)(key n:Int):
 DT 111 #[(.agg (ints x.flat).toArray),(.int .i64 (key)),(.int .i64 (n))] T0 [] (RI (.tuple #[.agg (ints (pq x key n).1.flat).toArray, .int .i64 (pq x key n).2]) []):=by
 refine BD 19 Tryz.func111 rfl rfl rfl λw0 F hF=>sr λ_ J1=>XY (ints x.flat) λb3=>?_
 refine XZ tx (ints RowT.zero.flat) λb6=>?_
 refine PS ?_;refine nx J1 (aa λ_ J2=>sr λ_ J3=>P2 ?_);refine CE HW (q6 key n) ID ?_;refine bc ?_ ?_<;>intro h10;have hq:=h10;unfold w5 mK HL at hq;simp only[au,decide_eq_true_iff]at hq;have hk:0≤key∧key<4:=hq.1.1;have hn:1≤n∧n≤1099511627776:=⟨hq.1.2,hq.2.2⟩;refine PS ?_;refine nx J3 (CN (qx J2 (sr λ_ J4=>LW 1 dI ba ai ?_)));refine P2 ?_;refine CE HV (zN x key n hk hn) ID ?_;refine P2 ?_;refine SW 0 ba ai ?_;refine PS ?_;refine nx J4 (ah (RT 0 [] dI ba (ai _) ?_));exact⟨by simp[pq, *],rfl⟩;refine PS ?_;refine nx J3 (CY (sr λ_ J5=>BV ((ints RowT.zero.flat).toArray) ?_));refine SW 0 ba ai ?_;refine PS ?_;refine nx J5 (ah (ae (RT 0 [] dI ba (ai _) ?_)));exact⟨by simp[pq, *],rfl⟩
theorem zv(x:RowT)(key n to':Int):
 DT 112 #[(.agg (ints x.flat).toArray),(.int .i64 (key)),(.int .i64 (n)),(.int .i64 (to'))] T0 [] (RI (.tuple #[.agg (ints (l4 x key n to').1.flat).toArray, .int .i64 (l4 x key n to').2]) []):=by
 refine BD 27 Tryz.func112 rfl rfl rfl λw0 F hF=>sr λ_ J1=>XY (ints x.flat) λb4=>?_
 refine XB λb7=>?_
 refine XZ tx (ints RowT.zero.flat) λb8=>?_
 refine PS ?_;refine nx J1 (aa λ_ J2=>sr λ_ J3=>LA 1 Y3 ?_);refine CE Js (jM to') ID ?_;refine bc ?_ ?_<;>intro h11;refine PS ?_;refine P3 ?_;refine CE HW (q6 key n) ID ?_;refine bc ?_ ?_<;>intro h16;have hq:=h16;unfold w5 mK HL at hq;simp only[au,decide_eq_true_iff]at hq;have hk:0≤key∧key<4:=hq.1.1;have hn:1≤n∧n≤1099511627776:=⟨hq.1.2,hq.2.2⟩;have ht:0≤to'∧to'<5:=of_decide_eq_true h11;refine PS ?_;refine PS ?_;refine nx J3 (CN (qx J2 (sr λ_ J4=>LW 2 dI ba ai ?_)));refine P2 ?_;refine tp (OY rfl rfl) ?_;refine CE HV (xy x key n hk hn b7 to' ht) (SM [1]) ?_;refine P2 ?_;refine SW 1 ba ai ?_;refine PS ?_;refine nx J4 (ah (RT 1 [] dI ba (ai _) ?_));exact⟨by simp[l4, *],rfl⟩;refine PS ?_;refine PS ?_;refine nx J3 (CY (sr λ_ J5=>BV ((ints RowT.zero.flat).toArray) ?_));refine SW 0 ba ai ?_;refine PS ?_;refine nx J5 (ah (ae (RT 0 [] dI ba (ai _) ?_)));exact⟨by simp[l4, *],rfl⟩;refine PS ?_;refine PS ?_
 iterate 4 refine UT ?_
 refine PS ?_;refine nx J3 (CY (sr λ_ J6=>BV ((ints RowT.zero.flat).toArray) ?_));refine SW 0 ba ai ?_;refine PS ?_;refine nx J6 (ah (ae (RT 0 [] dI ba (ai _) ?_)));exact⟨by simp[l4, *],rfl⟩
theorem A9(x:RowT)(who:Int):
 DT 154 #[(.agg (ints x.flat).toArray),(.int .i64 (who))] T0 [] (c9 (λr' H=>∃u,r'=u∧H=[own u (gd x who).length (ints (gd x who)) 3 1])):=by
 refine BD 27 Tryz.func154 rfl rfl rfl λw0 F hF=>sr λ_ J1=>XY (ints x.flat) λb2=>?_
 refine PS ?_;refine nx J1 (sr λ_ J2=>PS ?_);refine nx J2 (aa λ_ J3=>sr λ_ J4=>FA 29 dI fb ?_);refine tp (aK (vs:=ints x.heir.toList) rfl jA rfl fb rfl (RO 0) (cI x.heir) (OH x 0 rfl (by decide) (whole (cI x.heir)))) ?_;refine PS ?_;refine nx J4 (am ?_)
 refine bu (α:=(Nat)×(Value)) (λ⟨k,u⟩=>k≤5∧u.oneCell'=true) (λ⟨k,u⟩=>[(1,(.int .i64 (who))),(4,(.slice none 0 0)),(5,u),(9,(.agg (ints x.heir.toList).toArray)),(10,(.int .i64 (((k:Nat):Int))))]) (λ⟨k,u⟩=>[own u ((ie x who k).length) (ints (ie x who k)) 3 1]) (λ⟨k,u⟩=>5-k) (0,(.slice none 0 0))
  ⟨aN _,rfl⟩ SB
  (λ_ s=>fq 3 1 (ak [] rfl s)) (λ⟨k,u⟩ hinv=>?_)
 obtain⟨hk,hu⟩:=hinv;have hol:=F6 x who k;refine sr λ_ J5=>PS ?_
 refine ao ?_ ?_<;>intro h11;refine nx J5 (aa λ_ J6=>CY (qx J6 (aa λ_ J7=>am (sr λ_ J8=>PS ?_))));refine tp (ia (cs:=ints x.heir.toList) (v:=Value.int .i64 (x.heir[k]'(by omega))) (r:=k) rfl jA Y3 rfl aO rfl rfl (by omega) (by omega) (by omega) (jZ x.heir (by omega))) ?_;refine P2 ?_;refine nx J8 (sr λ_ J9=>P3 ?_);refine ao ?_ ?_<;>intro h16;refine PS ?_;refine UT ?_;refine UT ?_;refine PS ?_;refine nx J9 (CY (ad (P2 ?_)));refine aL (cells:=#[(.int .i64 (((k:Nat):Int)))]) (ab rfl) rfl rfl rfl ii nf rfl rfl rfl (by as_aux_lemma=>kernel_rfl) (λb23=>bO (k:=1) (news:=[(.int .i64 (((k:Nat):Int)))]) (nn':=(ie x who k).length+1) (xs':=ints (ie x who k)++[(.int .i64 (((k:Nat):Int)))]) (ab rfl) rfl rfl rfl ii nf rfl rfl rfl rfl rfl rfl (λ_ _=>fB rfl (RO 0) rfl) (by simp[Value.oneCell']) (by simp only[maxLen];omega) (by omega) (by simp) (by simp) (λv24 ov24=>PS ?_));refine ap (af (ac J7 (ad (AD ?_))));refine PS ?_;refine ap ?_
 exact aJ ((k+1,v24):(Nat)×(Value)) ⟨by omega,ov24⟩ (by show 5- (k+1)<5-k;omega)
  SB
  (λ_ s=>by
   show bK [own v24 (ie x who (k+1)).length (ints (ie x who (k+1))) 3 1] _;rw[show ie x who (k+1)=ie x who k++[((k:Nat):Int)]by rw[qN,if_pos (by rw[we x who (by omega)];simp;omega)],ag,ee]
   exact ak [1] rfl s)
 refine P3 ?_;refine ao ?_ ?_<;>intro h19;refine PS ?_;refine nx J9 (CY (ad (P2 ?_)));refine aL (cells:=#[(.int .i64 (((k:Nat):Int)))]) (ab rfl) rfl rfl rfl ii nf rfl rfl rfl (by as_aux_lemma=>kernel_rfl) (λb23=>bO (k:=1) (news:=[(.int .i64 (((k:Nat):Int)))]) (nn':=(ie x who k).length+1) (xs':=ints (ie x who k)++[(.int .i64 (((k:Nat):Int)))]) (ab rfl) rfl rfl rfl ii nf rfl rfl rfl rfl rfl rfl (λ_ _=>fB rfl (RO 0) rfl) (by simp[Value.oneCell']) (by simp only[maxLen];omega) (by omega) (by simp) (by simp) (λv24 ov24=>PS ?_));refine ap (af (ac J7 (ad (AD ?_))));refine PS ?_;refine ap ?_
 exact aJ ((k+1,v24):(Nat)×(Value)) ⟨by omega,ov24⟩ (by show 5- (k+1)<5-k;omega)
  SB
  (λ_ s=>by
   show bK [own v24 (ie x who (k+1)).length (ints (ie x who (k+1))) 3 1] _;rw[show ie x who (k+1)=ie x who k++[((k:Nat):Int)]by rw[qN,if_pos (by rw[we x who (by omega)];simp;omega)],ag,ee]
   exact ak [1] rfl s)
 refine PS ?_;refine nx J9 (CN (aM (af (ac J7 (ad (AD ?_))))));refine PS ?_;refine ap ?_
 exact aJ ((k+1,u):(Nat)×(Value)) ⟨by omega,hu⟩ (by show 5- (k+1)<5-k;omega)
  SB
  (λ_ s=>by
   show bK [own u (ie x who (k+1)).length (ints (ie x who (k+1))) 3 1] _;rw[show ie x who (k+1)=ie x who k by rw[qN,if_neg (by rw[we x who (by omega)];simp;omega),a8]]
   exact ak [0] rfl s)
 refine nx J5 (aa λ_ J10=>CN (aV (ay (ay (bh (ac J3 (sr λ_ J11=>P2 ?_)))))));refine nx J11 (ah (WK [0] (av rfl rfl ?_)));obtain rfl:k=5:=by omega
 exact⟨u,rfl,rfl⟩
theorem zw(x:RowT)(who of' key:Int):
 DT 60 #[(.agg (ints x.flat).toArray),(.int .i64 (who)),(.int .i64 (of')),(.int .i64 (key))] T0 [] (RI (.tuple #[.agg (ints (jN x who of' key).1.flat).toArray, .int .i64 (jN x who of' key).2]) []):=by
 refine BD 53 Tryz.func60 rfl rfl rfl λw0 F hF=>sr λ_ J1=>XY (ints x.flat) λb4=>?_
 refine XZ IV (ints CellT.zero.flat) λb8=>?_
 refine PS ?_;refine nx J1 (aa λ_ J2=>sr λ_ J3=>PS ?_);refine CE Js (jM who) ID ?_;refine bc ?_ ?_<;>intro h11;refine PS ?_;refine P2 ?_;refine CE Js (jM of') ID ?_;refine bc ?_ ?_<;>intro h15;refine PS ?_;refine P4 ?_;refine ao ?_ ?_<;>intro h20;have hkb:mK key=false:=decide_eq_false (by omega);refine P2 ?_;refine UT ?_;refine UT ?_;refine PS ?_;refine nx J3 (CY (sr λ_ J4=>BV ((ints CellT.zero.flat).toArray) ?_));refine SW 0 eO aT ?_;refine PS ?_;refine nx J4 (ah (ae (RT 0 [] mn eO (aT _) ?_)));exact⟨by simp[jN, *],rfl⟩;refine P4 ?_;refine ao ?_ ?_<;>intro h24;have hkb:mK key=false:=decide_eq_false (by omega);refine PS ?_;refine nx J3 (CY (sr λ_ J5=>BV ((ints CellT.zero.flat).toArray) ?_));refine SW 0 eO aT ?_;refine PS ?_;refine nx J5 (ah (ae (RT 0 [] mn eO (aT _) ?_)));exact⟨by simp[jN, *],rfl⟩;have hw:cy who=true:=by simpa using h11
 have ho:cy of'=true:=by simpa using h15
 have hw2:0≤who∧who<5:=of_decide_eq_true hw;have ho2:0≤of'∧of'<5:=of_decide_eq_true ho;have hkb:mK key=true:=decide_eq_true ⟨by omega,by omega⟩;have e1:fM x of'=x.heir[of'.toNat]'(by omega):=by rw[fM,dif_pos ho]
 have e2:DF x of' key=(x.left[of'.toNat]'(by omega))[key.toNat]'(by omega):=by rw[DF,dif_pos ⟨ho,hkb⟩]
 have e3:dC x key=x.cells[key.toNat]'(by omega):=by rw[dC,dif_pos hkb]
 refine PS ?_;refine nx J3 (CN (qx J2 (aa λ_ J6=>sr λ_ J7=>P3 ?_)));refine ao ?_ ?_<;>intro h29;refine nx J7 (CY (aa λ_ J8=>D1 1 bf ?_));refine PD 0 ?_;refine FD 1 1 dI la ?_;refine IY 2 (1+key.toNat*7) An eO ?_;refine ta 3 rfl (aK (vs:=ints (x.cells[key.toNat]'(by omega)).flat) rfl mn rfl eO rfl (λ_ h=>h.2.1) (aT (x.cells[key.toNat]'(by omega))) (Cq x (key.toNat*7) (by omega) (by omega) (kh bn x.cells (i:=key.toNat) 0 (by omega) (by omega) (by decide) (whole (aT (x.cells[key.toNat]'(by omega))))))) ?_;refine FD 4 0 dI aO ?_;refine LR 5 Y3 (cA x rfl) ?_;refine AL 6 ?_;refine SW 0 eO aT ?_;refine EN (PD 7 ?_);refine DN (ac J8 (ah (ae (RT 0 [] mn eO (aT _) ?_))));exact⟨by simp[jN, *],rfl⟩;refine nx J7 (CN (qx J6 (aa λ_ J9=>sr λ_ J10=>PS ?_)));refine FA 29 dI fb ?_;refine IX (29+(of').toNat) jA aO ?_;refine LT 1 Y3 (.int .i64 ((x.heir[(of').toNat]'(by omega)))) ?_ (hc:=by exact q9 x ((of').toNat) (by omega) (by omega) (jZ x.heir (by omega)));refine PS ?_;refine ao ?_ ?_<;>intro h40;refine nx J10 (CY (aa λ_ J11=>D1 1 bf ?_));refine PD 0 ?_;refine PD 1 ?_;refine FD 2 34 dI AI ?_;refine IY 3 (34+((of').toNat)*28) KE la ?_;refine IY 4 (34+((of').toNat)*28+key.toNat*7) An eO ?_
 refine ta 5 rfl (aK (vs:=ints ((x.left[(of').toNat]'(by omega))[key.toNat]'(by omega)).flat) rfl mn rfl eO rfl (λ_ h=>h.2.1) (aT ((x.left[(of').toNat]'(by omega))[key.toNat]'(by omega))) (Fc x (((of').toNat)*28+key.toNat*7) (by omega) (by omega) (kh sN x.left (i:=(of').toNat) (key.toNat*7) (by omega) (by omega) (by omega) (kh bn (x.left[(of').toNat]'(by omega)) (i:=key.toNat) 0 (by omega) (by omega) (by decide) (whole (aT ((x.left[(of').toNat]'(by omega))[key.toNat]'(by omega)))))))) ?_;refine PD 6 ?_;refine FD 7 29 dI fb ?_;refine IY 8 (29+(of').toNat) jA aO ?_;refine LX 9 Y3 (.int .i64 ((x.heir[(of').toNat]'(by omega)))) ?_ (hc:=by exact q9 x ((of').toNat) (by omega) (by omega) (jZ x.heir (by omega)));refine ta 10 rfl (ik (r:=(gm ((x.heir[(of').toNat]'(by omega))-1))) rfl rfl rfl rfl) ?_;refine AL 11 ?_;refine SW 0 eO aT ?_;refine EN (PD 12 ?_);refine DN (ac J11 (ah (ae (RT 0 [] mn eO (aT _) ?_))));exact⟨by simp[jN, *],rfl⟩;refine nx J10 (CN (qx J9 (sr λ_ J12=>BV ((ints CellT.zero.flat).toArray) ?_)));refine SW 0 eO aT ?_;refine PS ?_;refine nx J12 (ah (RT 0 [] mn eO (aT _) ?_));exact⟨by simp[jN, *],rfl⟩;refine PS ?_;refine P2 ?_;refine UT ?_;refine UT ?_;refine P2 ?_;refine UT ?_;refine UT ?_;refine PS ?_;refine nx J3 (CY (sr λ_ J13=>BV ((ints CellT.zero.flat).toArray) ?_));refine SW 0 eO aT ?_;refine PS ?_;refine nx J13 (ah (ae (RT 0 [] mn eO (aT _) ?_)));exact⟨by simp[jN, *],rfl⟩;refine PS ?_;refine PS ?_
 iterate 3 refine UT ?_
 refine P2 ?_;refine UT ?_;refine UT ?_;refine P2 ?_;refine UT ?_;refine UT ?_;refine PS ?_;refine nx J3 (CY (sr λ_ J14=>BV ((ints CellT.zero.flat).toArray) ?_));refine SW 0 eO aT ?_;refine PS ?_;refine nx J14 (ah (ae (RT 0 [] mn eO (aT _) ?_)));exact⟨by simp[jN, *],rfl⟩
theorem o6(who:Int):
 DT 127 #[(.int .i64 (who))] T0 [] (c9 (λr' H=>∃u,r'=u∧H=[own u (gL who).length (ints (gL who)) 3 1])):=by
 refine BD 20 Tryz.func127 rfl rfl rfl λw0 F hF=>sr λ_ J1=>PS ?_
 refine nx J1 (aa λ_ J2=>sr λ_ J3=>PS ?_);refine CE Bv (jt who) ID ?_;refine bc ?_ ?_<;>intro h6;have hm:0≤who∧who<5:=of_decide_eq_true h6;refine PS ?_;refine nx J3 (CN (qx J2 (sr λ_ J4=>GU 3 1 (λon=>?_))));clear on;refine PS ?_;refine nx J4 (aa λ_ J5=>sr λ_ J6=>PS ?_);refine nx J6 (am (gK 3 (aa λ_ J7=>sr λ_ J8=>P2 ?_)));refine nx J8 (CY (qx J7 (aa λ_ J9=>am (ad (P3 ?_)))));refine tp (bv (r:=(who+1)) rfl rfl rfl (bG (by omega) (by omega))) ?_;refine tp (PV.rem (r:=((who+1)%5)) rfl rfl rfl (by omega) (EG (by omega))) ?_;refine aL (cells:=#[(.int .i64 (((who+1)%5)))]) (ab rfl) rfl rfl rfl ii nf rfl rfl rfl (by as_aux_lemma=>kernel_rfl) (λb17=>bO (k:=1) (news:=[(.int .i64 (((who+1)%5)))]) (nn':=1) (xs':=[(.int .i64 (((who+1)%5)))]) (ab rfl) rfl rfl rfl ii nf rfl rfl rfl rfl rfl rfl (λ_ _=>fB rfl (RO 0) rfl) (by simp[Value.oneCell']) (by simp only[maxLen];omega) (by omega) (by simp) (by simp) (λv18 ov18=>PS ?_));refine ap (af (ac J9 (ad (PS ?_))));refine tp (bv (r:=2) rfl rfl rfl (by decide)) ?_;refine PS ?_;refine ap (bH (aa λ_ J10=>sr λ_ J11=>P2 ?_));refine nx J11 (CY (qx J10 (aa λ_ J12=>am (ad (P3 ?_)))));refine tp (bv (r:=(who+2)) rfl rfl rfl (bG (by omega) (by omega))) ?_;refine tp (PV.rem (r:=((who+2)%5)) rfl rfl rfl (by omega) (EG (by omega))) ?_
 refine ce (H':=[own v18 (1) ([(.int .i64 (((who+1)%5)))]) 3 1]) (λ_ s=>ak [1] rfl s) (aL (cells:=#[(.int .i64 (((who+2)%5)))]) (ab rfl) rfl rfl rfl ii nf rfl rfl rfl (by as_aux_lemma=>kernel_rfl) (λb17=>bO (k:=1) (news:=[(.int .i64 (((who+2)%5)))]) (nn':=1+1) (xs':=[(.int .i64 (((who+1)%5)))]++[(.int .i64 (((who+2)%5)))]) (ab rfl) rfl rfl rfl ii nf rfl rfl rfl rfl rfl rfl (λ_ _=>fB rfl (RO 0) rfl) (by simp[Value.oneCell']) (by simp only[maxLen];omega) (by omega) (by simp) (by simp) (λv18 ov18=>PS ?_)));refine ap (af (ac J12 (ad (PS ?_))));refine tp (bv (r:=3) rfl rfl rfl (by decide)) ?_;refine PS ?_;refine ap (bH (aa λ_ J13=>sr λ_ J14=>P2 ?_));refine nx J14 (CN (aV (ay (ay (bh (ac J5 (sr λ_ J15=>P2 ?_)))))));refine nx J15 (ah (WK [1] (av rfl rfl ?_)));exact⟨_,rfl,by rw[gL,if_pos h6];rfl⟩;refine PS ?_;refine nx J3 (CY (sr λ_ J16=>PS ?_));refine nx J16 (ah (ae (aF (H':=[own (.slice none 0 0) 0 [] 3 1]) (cZ _) (λ_ s=>fq 3 1 s) (av rfl rfl ?_))));exact⟨_,rfl,by rw[gL,if_neg (by simp[h6])];rfl⟩
theorem ma(b off T:Nat)(cs:BookT→List Value)(hA:Arnd cs (λx=>ints x.flat) off)(B:BookT)(who:Int):
 DT 87 #[(.pointer (some ⟨b,off,none⟩)),(.int .i64 (who))] T0 [aj b (cs B) T] (RI (.agg (ints (cv B who).flat).toArray) [aj b (cs B) T]):=by
 refine BD 15 Tryz.func87 rfl rfl rfl λw0 F hF=>sr λ_ J1=>XZ tx (ints RowT.zero.flat) λb4=>?_
 refine nx J1 (aa λ_ J2=>sr λ_ J3=>PS ?_);refine CE La (kQ who) ID ?_;refine bc ?_ ?_<;>intro h6;have hm:0≤who∧who<5:=of_decide_eq_true h6;refine PS ?_;refine nx J3 (CN (qx J2 (sr λ_ J4=>P3 ?_)));refine tp (aW (r:=off) rfl Nq rfl sU rfl rfl) ?_;refine IX (off+who.toNat*174) GR ba ?_;refine tp (aK (vs:=ints (B.rows[who.toNat]'(by omega)).flat) rfl dI rfl ba rfl (RO 1) (ai (B.rows[who.toNat]'(by omega))) (NH hA (j:=who.toNat*174) (by omega) (LB (xe _)) (NE B (who.toNat*174) (by omega) (by omega) (kh dm B.rows (i:=who.toNat) 0 (by omega) (by omega) (by decide) (whole (ai (B.rows[who.toNat]'(by omega)))))))) ?_;refine SW 0 ba ai ?_;refine nx J4 (ah (RC 0 [1] dI ba (ai _) ?_));exact⟨by rw[cv,dif_pos h6],rfl⟩;refine PS ?_;refine nx J3 (CY (sr λ_ J5=>BV ((ints RowT.zero.flat).toArray) ?_));refine SW 0 ba ai ?_;refine nx J5 (ah (ae (RC 0 [1] dI ba (ai _) ?_)));exact⟨by rw[cv,dif_neg (by simp[h6])],rfl⟩
theorem kA(b off T:Nat)(cs:BookT→List Value)(hA:Arnd cs (λx=>ints x.flat) off)(B:BookT)(who:Int)(x:RowT)(hx:WF x.flat):
 DT 34 #[(.pointer (some ⟨b,off,none⟩)),(.int .i64 (who)),(.agg (ints x.flat).toArray)] T0 [aj b (cs B) T] (RI (.bool (eH B who x).2) [aj b (cs (eH B who x).1) T]):=by
 refine BD 33 Tryz.func34 rfl rfl rfl λw0 F hF=>sr λ_ J1=>XY (ints x.flat) λb5=>?_
 refine PS ?_;refine nx J1 (aa λ_ J2=>aa λ_ J3=>D2 0 1 bf ?_);refine PD 0 ?_;refine AL 1 ?_;refine CE La (kQ who) ID ?_;refine bc ?_ ?_<;>intro h8;have hm:0≤who∧who<5:=of_decide_eq_true h8;have hrow:cv B who=B.rows[who.toNat]'(by omega):=by rw[cv,dif_pos h8]
 refine ap (E2 0 1 (PD 2 ?_));refine PD 3 ?_;refine LY 4 dI ba ai ?_;refine AL 5 ?_;refine CE HN (jv x hx) ID ?_;refine bc ?_ ?_<;>intro h12;refine ap (E2 0 1 (PD 6 ?_));refine PD 7 ?_;refine PD 8 ?_;refine FD 9 0 dI aO ?_;refine LR 10 Y3 (cA x rfl) ?_;refine PD 11 ?_;refine PD 12 ?_;refine PD 13 ?_;refine tb 14 rfl (aW (r:=off) rfl Nq rfl sU rfl rfl) ?_;refine IY 15 (off+who.toNat*174) GR ba ?_;refine tb 16 rfl (aW (r:=off+who.toNat*174) rfl dI rfl aO rfl rfl) ?_;refine LX 17 Y3 (.int .i64 ((B.rows[who.toNat]'(by omega)).version)) ?_ (hc:=by exact Arnd.at hA (j:=who.toNat*174) (by omega) (LB (xe _)) (BookT.pt_rows B (who.toNat*174) (by omega) (by omega) (oz dm B.rows (i:=who.toNat) 0 (by omega) (by omega) (by decide) (cA _ rfl))));refine PD 18 ?_;refine jh ?_ ?_<;>intro h25;refine PD 19 ?_;refine DN (ac J3 (CY (sr λ_ J4=>PS ?_)));refine nx J4 (ah (ae (WK [1] (av rfl rfl ?_))));have e:eH B who x=(B,false):=by rw[eH,if_neg (λh=>by simp only[au,decide_eq_true_iff]at h;rw[hrow]at h;omega)]
 exact⟨by rw[e],by rw[e];rfl⟩;refine PD 19 ?_;refine DN (ac J3 (CN (qx J2 (aa λ_ J5=>D1 0 bf ?_))));refine PD 0 ?_;refine PD 1 ?_;refine LY 2 dI ba ai ?_;refine PD 3 ?_;refine ta 4 rfl (aW (r:=off) rfl Nq rfl sU rfl rfl) ?_;refine IY 5 (off+who.toNat*174) GR ba ?_;refine AL 6 ?_;refine bL (vs:=ints x.flat) (i:=1) (ab rfl) rfl rfl rfl rfl rfl (by rw[(ai x)];exact ba) (bm _) rfl rfl (by have h0:=(xe B);have h2:=Arnd.le hA B;have h1:=(ai x);omega) (Arnd.wr hA (x:=B) (x':=(BookT.mk (B.rows.set who.toNat x (by omega)))) (j:=who.toNat*174) (by omega) (LC (xe _) (ai _)) (BookT.wr_rows_ B (who.toNat*174) (by omega) (by have h1:=(ai x);omega) (oy dm B.rows (i:=who.toNat) 0 (by omega) (by omega) (by have h1:=(ai x);omega) (cg ((ai (B.rows[who.toNat]'(by omega))).trans (ai x).symm))))) rfl (ap (E1 0 (DN (ac J5 (sr λ_ J6=>PS ?_)))));refine nx J6 (ah (WK [1] (av rfl rfl ?_)));have e:eH B who x=(zB B who x,true):=by rw[eH,if_pos (by simp only[au,decide_eq_true_iff,hrow];exact⟨⟨h8,h12⟩,by omega⟩)]
 exact⟨by rw[e],by rw[e,zB,dif_pos h8];rfl⟩;refine ap (E2 0 1 (PD 6 ?_));refine PD 7 ?_;refine PD 8 ?_;refine NT 9 ?_;refine NT 10 ?_;refine NT 11 ?_;refine NT 12 ?_;refine NT 13 ?_;refine NT 14 ?_;refine NT 15 ?_;refine NT 16 ?_;refine NT 17 ?_;refine NT 18 ?_;refine PD 19 ?_;refine DN (ac J3 (CY (sr λ_ J7=>PS ?_)));refine nx J7 (ah (ae (WK [1] (av rfl rfl ?_))));have e:eH B who x=(B,false):=by rw[eH,if_neg (λh=>by simp only[au,decide_eq_true_iff]at h;rw[h12]at h;exact absurd h.1.2 (by decide))]
 exact⟨by rw[e],by rw[e];rfl⟩;refine ap (E2 0 1 (PD 2 ?_));refine PD 3 ?_;refine NT 4 ?_;refine NT 5 ?_;refine NT 6 ?_;refine PD 7 ?_;refine PD 8 ?_;refine NT 9 ?_;refine NT 10 ?_;refine NT 11 ?_;refine NT 12 ?_;refine NT 13 ?_;refine NT 14 ?_;refine NT 15 ?_;refine NT 16 ?_;refine NT 17 ?_;refine NT 18 ?_;refine PD 19 ?_;refine DN (ac J3 (CY (sr λ_ J8=>PS ?_)));refine nx J8 (ah (ae (WK [1] (av rfl rfl ?_))));have e:eH B who x=(B,false):=by rw[eH,if_neg (λh=>by simp only[au,decide_eq_true_iff]at h;rw[h8]at h;exact absurd h.1.1 (by decide))]
 exact⟨by rw[e],by rw[e];rfl⟩
theorem gF(b off T:Nat)(cs:BookT→List Value)(hA:Arnd cs (λx=>ints x.flat) off)(B:BookT)(of' key:Int):
 DT 35 #[(.pointer (some ⟨b,off,none⟩)),(.int .i64 (of')),(.int .i64 (key))] T0 [aj b (cs B) T] (RI (.agg (ints (cz B of' key).flat).toArray) [aj b (cs B) T]):=by
 refine BD 35 Tryz.func35 rfl rfl rfl λw0 F hF=>sr λ_ J1=>XZ IV (ints CellT.zero.flat) λb6=>?_
 refine nx J1 (sr λ_ J2=>XZ IV (ints CellT.zero.flat) λb7=>?_);refine nx J2 (sr λ_ J3=>PS ?_);refine nx J3 (aa λ_ J4=>sr λ_ J5=>PS ?_);refine nx J5 (am ?_)
 refine bu (α:=(Nat)×(CellT)×(Int)) (λ⟨k,c,n⟩=>k≤5∧(c,n)=wX B of' key k) (λ⟨k,c,n⟩=>[(0,(.pointer (some ⟨b,off,none⟩))),(1,(.int .i64 (of'))),(2,(.int .i64 (key))),(6,(.pointer (some ⟨b6,0,none⟩))),(7,(.pointer (some ⟨b7,0,none⟩))),(8,(.int .i64 (n))),(12,(.int .i64 (((k:Nat):Int))))]) (λ⟨k,c,n⟩=>[aj b7 (ints c.flat) 35,aj b6 (ints CellT.zero.flat) 35,aj b (cs B) T]) (λ⟨k,c,n⟩=>5-k) (0,CellT.zero, -1)
  ⟨aN _,rfl⟩ SB
  (λ_ s=>s) (λ⟨k,c,n⟩ hinv=>?_)
 obtain⟨hk,hc⟩:=hinv;refine sr λ_ J6=>PS ?_
 refine ao ?_ ?_<;>intro h13;refine nx J6 (aa λ_ J7=>CY (qx J7 (aa λ_ J8=>am (sr λ_ J9=>P2 ?_))));refine nx J9 (sr λ_ J10=>P3 ?_);refine tp (aW (r:=off) rfl Nq rfl sU rfl rfl) ?_;refine IX (off+k*174) GR ba ?_;refine tp (aK (vs:=ints (B.rows[k]'(by omega)).flat) rfl dI rfl ba rfl (RO 2) (ai (B.rows[k]'(by omega))) (NH hA (j:=k*174) (by omega) (LB (xe _)) (NE B (k*174) (by omega) (by omega) (kh dm B.rows (i:=k) 0 (by omega) (by omega) (by decide) (whole (ai (B.rows[k]'(by omega)))))))) ?_;refine P3 ?_;refine CE Oa (zw (B.rows[k]'(by omega)) ((k:Nat):Int) of' key) ID ?_;refine P3 ?_;refine XZ IV (ints CellT.zero.flat) λb10=>?_
 refine SW 0 eO aT ?_;refine PS ?_;refine nx J10 (sr λ_ J11=>P3 ?_);refine ao ?_ ?_<;>intro h30;refine nx J11 (CY (ad (LW 0 mn eO aT ?_)));refine PS ?_;refine SW 1 eO aT ?_;refine PS ?_;refine ap (af (ac J8 (ad (AD ?_))));refine PS ?_;refine ap ?_
 exact aJ ((k+1,(jN (B.rows[k]'(by omega)) ((k:Nat):Int) of' key).1,(jN (B.rows[k]'(by omega)) ((k:Nat):Int) of' key).2):(Nat)×(CellT)×(Int)) ⟨by omega,by rw[uo,←hc,sD,wY B (by omega)];simp[h30]⟩ (by show 5- (k+1)<5-k;omega)
  SB
  (λ_ s=>ak [1,1,1] rfl s)
 refine nx J11 (CN (aM (af (ac J8 (ad (AD ?_))))));refine PS ?_;refine ap ?_
 exact aJ ((k+1,c,n):(Nat)×(CellT)×(Int)) ⟨by omega,by rw[uo,←hc,sD,wY B (by omega)];simp[h30]⟩ (by show 5- (k+1)<5-k;omega)
  SB
  (λ_ s=>ak [1,1,1] rfl s)
 refine nx J6 (aa λ_ J12=>CN (aV (ay (ay (bh (ac J4 (sr λ_ J13=>LW 0 mn eO aT ?_)))))));refine SW 1 eO aT ?_;refine nx J13 (ah (RC 1 [2] mn eO (aT _) ?_));obtain rfl:k=5:=by omega
 exact⟨by rw[cz,←hc],rfl⟩
theorem ky(b off T:Nat)(cs:BookT→List Value)(hA:Arnd cs (λx=>ints x.flat) off)(B:BookT)(key:Int):
 DT 17 #[(.pointer (some ⟨b,off,none⟩)),(.int .i64 (key))] T0 [aj b (cs B) T] (RI (.int .i64 (jf B key)) [aj b (cs B) T]):=by
 refine BD 24 Tryz.func17 rfl rfl rfl λw0 F hF=>sr λ_ J1=>PS ?_
 refine nx J1 (sr λ_ J2=>PS ?_);refine nx J2 (aa λ_ J3=>sr λ_ J4=>PS ?_);refine nx J4 (am ?_)
 refine bu (α:=(Nat)×(Int)) (λ⟨k,n⟩=>k≤5∧n=ru B key k) (λ⟨k,n⟩=>[(0,(.pointer (some ⟨b,off,none⟩))),(1,(.int .i64 (key))),(4,(.int .i64 0)),(5,(.int .i64 (n))),(8,(.int .i64 (((k:Nat):Int))))]) (λ⟨k,n⟩=>[aj b (cs B) T]) (λ⟨k,n⟩=>5-k) (0,0)
  ⟨aN _,rfl⟩ SB
  (λ_ s=>s) (λ⟨k,n⟩ hinv=>?_)
 obtain⟨hk,hc⟩:=hinv;refine sr λ_ J5=>PS ?_
 refine ao ?_ ?_<;>intro h9;refine nx J5 (aa λ_ J6=>CY (qx J6 (aa λ_ J7=>am (sr λ_ J8=>P2 ?_))));refine nx J8 (sr λ_ J9=>P3 ?_);refine CE Dr (gF b off T cs hA B ((k:Nat):Int) key) ID ?_;refine XZ IV (ints CellT.zero.flat) λb7=>?_
 refine SW 0 eO aT ?_;refine nx J9 (ad (PS ?_));refine FA 0 mn aO ?_;refine LT 0 Y3 (.int .i64 ((cz B ((k:Nat):Int) key).inn)) ?_ (hc:=by exact x8 _ rfl);refine FA 1 mn aO ?_;refine LT 0 Y3 (.int .i64 ((cz B ((k:Nat):Int) key).out)) ?_ (hc:=by exact x7 _ rfl);refine tp (ik (r:=(gm (((cz B ((k:Nat):Int) key).inn)- ((cz B ((k:Nat):Int) key).out)))) rfl rfl rfl rfl) ?_;refine tp (bv (r:=(gm (n+(gm (((cz B ((k:Nat):Int) key).inn)- ((cz B ((k:Nat):Int) key).out)))))) rfl rfl rfl rfl) ?_;refine PS ?_;refine ap (af (ac J7 (ad (AD ?_))));refine PS ?_;refine ap ?_
 exact aJ ((k+1,(gm (n+(gm (((cz B ((k:Nat):Int) key).inn)- ((cz B ((k:Nat):Int) key).out)))))):(Nat)×(Int)) ⟨by omega,by rw[zc,←hc]⟩ (by show 5- (k+1)<5-k;omega)
  SB
  (λ_ s=>ak [1] rfl s)
 refine nx J5 (aa λ_ J10=>CN (aV (ay (ay (bh (ac J3 (sr λ_ J11=>P2 ?_)))))));refine nx J11 (ah (WK [0] (av rfl rfl ?_)));obtain rfl:k=5:=by omega
 exact⟨by rw[hc];rfl,rfl⟩
theorem oF(b off T:Nat)(cs:BookT→List Value)(hA:Arnd cs (λx=>ints x.flat) off)(B:BookT)(who key:Int):
    DT 113 #[(.pointer (some ⟨b,off,none⟩)),(.int .i64 (who)),(.int .i64 (key))] T0 [aj b (cs B) T] (RI (.int .i64 (ot B who key)) [aj b (cs B) T]):=by
 refine BD 71 Tryz.func113 rfl rfl rfl λw0 F hF=>sr λ_ J1=>PS ?_
 refine nx J1 (aa λ_ J2=>sr λ_ J3=>PS ?_);refine CE La (kQ who) ID ?_;refine bc ?_ ?_<;>intro h14;have hm:0≤who∧who<5:=of_decide_eq_true h14;refine PS ?_;refine nx J3 (CN (qx J2 (sr λ_ J4=>XZ OV (ints ((#v[CellT.zero,CellT.zero,CellT.zero,CellT.zero,CellT.zero]).toList.flatMap CellT.flat)) λb7=>?_)));refine nx J4 (aa λ_ J5=>sr λ_ J6=>PS ?_);refine nx J6 (am ?_)
 refine bu (α:=(Nat)×(Vector CellT 5)) (λ⟨k,C⟩=>k≤5∧∀(j:Nat) (h:j<5),j<k→C[j]=cz B j key) (λ⟨k,C⟩=>[(0,(.pointer (some ⟨b,off,none⟩))),(1,(.int .i64 (who))),(2,(.int .i64 (key))),(6,(.int .i64 0)),(7,(.pointer (some ⟨b7,0,none⟩))),(16,(.int .i64 (((k:Nat):Int))))]) (λ⟨k,C⟩=>[aj b7 (ints (C.toList.flatMap CellT.flat)) 94,aj b (cs B) T]) (λ⟨k,C⟩=>5-k) (0, #v[CellT.zero,CellT.zero,CellT.zero,CellT.zero,CellT.zero])
     ⟨aN _,λj _ h=>absurd h (by omega)⟩ SB
     (λ_ s=>ak [0,0] rfl s) (λ⟨k,C⟩ hinv=>?_)
 obtain⟨hk,hC⟩:=hinv;refine sr λ_ J7=>PS ?_
 refine ao ?_ ?_<;>intro h17;refine nx J7 (aa λ_ J8=>CY (qx J8 (aa λ_ J9=>am (sr λ_ J10=>P2 ?_))));refine nx J10 (ad (P4 ?_));refine CE Dr (gF b off T cs hA B ((k:Nat):Int) key) (SM [1]) ?_;refine IX (k*7) Fb eO ?_;refine bL (vs:=ints (cz B ((k:Nat):Int) key).flat) (i:=1) (ab rfl) rfl rfl rfl rfl rfl (by rw[(aT (cz B ((k:Nat):Int) key))];exact eO) (bm _) rfl rfl (by have h0:=(pZ C);have h1:=(aT (cz B ((k:Nat):Int) key));omega) (oy bn C (i:=k) 0 (by omega) (by omega) (by have h1:=(aT (cz B ((k:Nat):Int) key));omega) (cg ((aT (C[k]'(by omega))).trans (aT (cz B ((k:Nat):Int) key)).symm))) rfl (ap (af (ac J9 (ad (AD ?_)))));refine PS ?_;refine ap ?_
 exact aJ ((k+1,(C.set k (cz B ((k:Nat):Int) key) (by omega))):(Nat)×(Vector CellT 5)) ⟨by omega,λj h hj=>by
        rw[Vector.getElem_set];split
        · subst_vars;rfl
        · exact hC j h (by omega)⟩ (by show 5- (k+1)<5-k;omega)
   SB
   (λ_ s=>ak [1,0] rfl s)
 refine nx J7 (aa λ_ J11=>CN (aV (ay (ay (bh (ac J5 (sr λ_ J12=>PS ?_)))))));refine nx J12 (aa λ_ J13=>sr λ_ J14=>P3 ?_);refine tp (aW (r:=off) rfl Nq rfl sU rfl rfl) ?_;refine IX (off+who.toNat*174) GR ba ?_;refine tp (aK (vs:=ints (B.rows[who.toNat]'(by omega)).flat) rfl dI rfl ba rfl (RO 1) (ai (B.rows[who.toNat]'(by omega))) (NH hA (j:=who.toNat*174) (by omega) (LB (xe _)) (NE B (who.toNat*174) (by omega) (by omega) (kh dm B.rows (i:=who.toNat) 0 (by omega) (by omega) (by decide) (whole (ai (B.rows[who.toNat]'(by omega)))))))) ?_;refine PS ?_;have hbr:B.rows[who.toNat]'(by omega)=cv B who:=by rw[cv,dif_pos h14]
 rw[hbr];refine CR MN (A9 (cv B who) who) ID λvR HR hR=>?_
 obtain⟨_,rfl,rfl⟩:=hR;revert vR;intro ul1;refine gj 0 rfl rfl (λhlul1 houl1=>tp (c8 rfl ii rfl hlul1) ?_);refine PS ?_;refine nx J14 (am ?_)
 refine bu (α:=(Nat)×(Int)) (λ⟨i,r⟩=>i≤(gd (cv B who) who).length∧r=((gd (cv B who) who).take i).foldl (n5 B key) 0) (λ⟨i,r⟩=>[(0,(.pointer (some ⟨b,off,none⟩))),(6,(.int .i64 0)),(7,(.pointer (some ⟨b7,0,none⟩))),(9,(.int .i64 (r))),(33,ul1),(34,(.int .i64 ((((gd (cv B who) who).length:Nat):Int)))),(35,(.int .i64 (((i:Nat):Int))))]) (λ⟨i,r⟩=>[own ul1 ((gd (cv B who) who).length) (ints (gd (cv B who) who)) 3 1,aj b7 (ints (C.toList.flatMap CellT.flat)) 94,aj b (cs B) T]) (λ⟨i,r⟩=>(gd (cv B who) who).length-i) (0,0)
     ⟨aN _,rfl⟩ SB
     (λ_ s=>ak [0,0,0] rfl s) (λ⟨i,r⟩ hinv=>?_)
 obtain⟨hi,hr⟩:=hinv;have hE: ∀(j:Nat) (h:j<5),C[j]=cz B j key:=λj h=>hC j h (by omega)
 refine sr λ_ J15=>PS ?_
 refine ao ?_ ?_<;>intro h36;refine nx J15 (aa λ_ J16=>CY (qx J16 (aa λ_ J17=>am (sr λ_ J18=>ij 0 rfl rfl (by omega) (λga capa hva hcapa=>?_)))));obtain⟨q,hq,hq5⟩: ∃q:Nat,(gd (cv B who) who)[i]=((q:Nat):Int)∧q<5:=by have:=Dc (cv B who) who _ (eW (show i< (gd (cv B who) who).length by omega));exact⟨(gd (cv B who) who)[i].toNat,by omega,by omega⟩
 have hE2:C[q]=cz B (gd (cv B who) who)[i] key:=by rw[hE q hq5,hq]
 refine tp (bg (r:=i) hva rfl ii aO rfl rfl (by omega) (by omega) (by omega)) ?_;refine tp (bZ (v:=(.int .i64 (((q:Nat):Int)))) rfl Y3 rfl rfl (fI 0 rfl hva rfl) (by rw[←hq];simp[ints,show i< (gd (cv B who) who).length by omega])) ?_;refine PS ?_;refine nx J18 (aa λ_ J19=>D1 1 bf ?_);refine PD 0 ?_;refine PD 1 ?_;refine IY 2 (q*7) Fb eO ?_;refine ta 3 rfl (aW (r:=q*7) rfl mn rfl aO rfl rfl) ?_;refine LX 4 Y3 (.int .i64 ((C[q]'(by omega)).inn)) ?_ (hc:=by exact oz bn C (i:=q) 0 (by omega) (by omega) (by decide) (x8 _ rfl));refine PD 5 ?_;refine IY 6 (q*7) Fb eO ?_;refine ta 7 rfl (aW (r:=q*7+1) rfl mn rfl aO rfl rfl) ?_;refine LX 8 Y3 (.int .i64 ((C[q]'(by omega)).out)) ?_ (hc:=by exact oz bn C (i:=q) 1 (by omega) (by omega) (by decide) (x7 _ rfl));refine ta 9 rfl (ik (r:=(gm (((C[q]'(by omega)).inn)- ((C[q]'(by omega)).out)))) rfl rfl rfl rfl) ?_;refine ta 10 rfl (bv (r:=(gm (r+(gm (((C[q]'(by omega)).inn)- ((C[q]'(by omega)).out)))))) rfl rfl rfl rfl) ?_;refine PD 11 ?_;refine DN (ac J19 (sr λ_ J20=>PS ?_));refine nx J20 (am ?_)
 refine bu (α:=(Nat)×(Int)) (λ⟨o,r3⟩=>o≤5∧r3=pu B key (gd (cv B who) who)[i] (gm (r+gm (C[q].inn-C[q].out))) o) (λ⟨o,r3⟩=>[(0,(.pointer (some ⟨b,off,none⟩))),(6,(.int .i64 0)),(7,(.pointer (some ⟨b7,0,none⟩))),(9,(.int .i64 (r3))),(11,(.int .i64 (((q:Nat):Int)))),(33,ul1),(34,(.int .i64 ((((gd (cv B who) who).length:Nat):Int)))),(35,(.int .i64 (((i:Nat):Int)))),(50,(.int .i64 (((o:Nat):Int))))]) (λ⟨o,r3⟩=>[own ul1 ((gd (cv B who) who).length) (ints (gd (cv B who) who)) 3 1,aj b7 (ints (C.toList.flatMap CellT.flat)) 94,aj b (cs B) T]) (λ⟨o,r3⟩=>5-o) (0,(gm (r+(gm (((C[q]'(by omega)).inn)- ((C[q]'(by omega)).out))))))
     ⟨aN _,rfl⟩ SB
     (λ_ s=>ak [0,0,0] rfl s) (λ⟨o,r3⟩ hinv=>?_)
 obtain⟨ho,hr3⟩:=hinv;refine sr λ_ J21=>PS ?_
 refine ao ?_ ?_<;>intro h51;refine nx J21 (aa λ_ J22=>CY (qx J22 (aa λ_ J23=>am (sr λ_ J24=>P2 ?_))));refine nx J24 (D1 1 bf ?_);refine PD 0 ?_;refine PD 1 ?_;refine PD 2 ?_;refine IY 3 (o*7) Fb eO ?_;refine ta 4 rfl (aW (r:=o*7+2) rfl mn rfl fb rfl rfl) ?_;refine IY 5 (o*7+2+q) jA aO ?_;refine LX 6 Y3 (.int .i64 ((((C[o]'(by omega)).given)[q]'(by omega)))) ?_ (hc:=by exact oz bn C (i:=o) (2+q) (by omega) (by omega) (by omega) (NC (C[o]'(by omega)) q (by omega) (by omega) (jZ ((C[o]'(by omega)).given) (by omega))));refine PD 7 ?_;refine PD 8 ?_;refine IY 9 (q*7) Fb eO ?_;refine ta 10 rfl (aW (r:=q*7+2) rfl mn rfl fb rfl rfl) ?_;refine IY 11 (q*7+2+o) jA aO ?_;refine LX 12 Y3 (.int .i64 ((((C[q]'(by omega)).given)[o]'(by omega)))) ?_ (hc:=by exact oz bn C (i:=q) (2+o) (by omega) (by omega) (by omega) (NC (C[q]'(by omega)) o (by omega) (by omega) (jZ ((C[q]'(by omega)).given) (by omega))));refine ta 13 rfl (ik (r:=(gm ((((C[o]'(by omega)).given)[q]'(by omega))- (((C[q]'(by omega)).given)[o]'(by omega))))) rfl rfl rfl rfl) ?_;refine ta 14 rfl (bv (r:=(gm (r3+(gm ((((C[o]'(by omega)).given)[q]'(by omega))- (((C[q]'(by omega)).given)[o]'(by omega))))))) rfl rfl rfl rfl) ?_;refine PD 15 ?_;refine DN (af (ac J23 (ad (AD ?_))));refine PS ?_;refine ap ?_
 exact aJ ((o+1,(gm (r3+(gm ((((C[o]'(by omega)).given)[q]'(by omega))- (((C[q]'(by omega)).given)[o]'(by omega))))))):(Nat)×(Int)) ⟨by omega,by rw[xo,←hr3,wD _ (by omega),hq,wD _ hq5,←hE o (by omega),←hE q hq5]⟩ (by show 5- (o+1)<5-o;omega)
   SB
   (λ_ s=>ak [0,0,0] rfl s)
 refine nx J21 (aa λ_ J25=>CN (aV (ay (ay (bh (af (ac J17 (ad (AD ?_)))))))));refine PS ?_;refine ap ?_
 exact aJ ((i+1,r3):(Nat)×(Int)) ⟨by omega,by
          have h5:o=5:=by omega
          rw[bF (by omega),eN,←hr];show r3=n5 B key r _
          rw[hr3,h5,n5,←hE2]⟩ (by show(gd (cv B who) who).length- (i+1)< (gd (cv B who) who).length-i;omega)
   SB
   (λ_ s=>ak [0,0,0] rfl s)
 refine nx J15 (aa λ_ J26=>CN (aV (ay (ay (bh (ac J13 (sr λ_ J27=>P2 ?_)))))));refine nx J27 (ah (WK [2] (av rfl rfl ?_)));obtain rfl:i=(gd (cv B who) who).length:=by omega
 exact⟨by rw[ot,if_pos h14,hr,eV],rfl⟩;refine PS ?_;refine nx J3 (CY (sr λ_ J28=>PS ?_));refine nx J28 (ah (ae (WK [0] (av rfl rfl ?_))));exact⟨by rw[ot,if_neg (by simp[h14])],rfl⟩
theorem lp(b off T:Nat)(cs:MirT→List Value)(hA:Arnd cs MirT.cells off)(M:MirT)(who:Int):
 DT 56 #[(.pointer (some ⟨b,off,none⟩)),(.int .i64 (who))] T0 [aj b (cs M) T] (RI (.agg (ints (cJ M who).flat).toArray) [aj b (cs M) T]):=by
 refine BD 15 Tryz.func56 rfl rfl rfl λw0 F hF=>sr λ_ J1=>XZ tx (ints RowT.zero.flat) λb4=>?_
 refine nx J1 (aa λ_ J2=>sr λ_ J3=>PS ?_);refine CE Jt (hJ who) ID ?_;refine bc ?_ ?_<;>intro h6;have hm:0≤who∧who<5:=of_decide_eq_true h6;refine PS ?_;refine nx J3 (CN (qx J2 (sr λ_ J4=>P3 ?_)));refine tp (aW (r:=off) rfl Lu rfl sU rfl rfl) ?_;refine IX (off+who.toNat*174) GR ba ?_;refine tp (aK (vs:=ints (M.rows[who.toNat]'(by omega)).flat) rfl dI rfl ba rfl (RO 1) (ai (M.rows[who.toNat]'(by omega))) (NH hA (j:=who.toNat*174) (by omega) (LB (pT _)) (MirT.sub_rows M (who.toNat*174) (by omega) (by omega) (kh dm M.rows (i:=who.toNat) 0 (by omega) (by omega) (by decide) (whole (ai (M.rows[who.toNat]'(by omega)))))))) ?_;refine SW 0 ba ai ?_;refine nx J4 (ah (RC 0 [1] dI ba (ai _) ?_));exact⟨by rw[cJ,dif_pos h6],rfl⟩;refine PS ?_;refine nx J3 (CY (sr λ_ J5=>BV ((ints RowT.zero.flat).toArray) ?_));refine SW 0 ba ai ?_;refine nx J5 (ah (ae (RC 0 [1] dI ba (ai _) ?_)));exact⟨by rw[cJ,dif_neg (by simp[h6])],rfl⟩
theorem mI(b off T:Nat)(cs:MirT→List Value)(hA:Arnd cs MirT.cells off)(M:MirT)(who:Int):
 DT 57 #[(.pointer (some ⟨b,off,none⟩)),(.int .i64 (who))] T0 [aj b (cs M) T] (RI (.bool (fw M who)) [aj b (cs M) T]):=by
 refine BD 15 Tryz.func57 rfl rfl rfl λw0 F hF=>sr λ_ J1=>PS ?_
 refine nx J1 (sr λ_ J2=>PS ?_);refine CE Jt (hJ who) ID ?_;refine bc ?_ ?_<;>intro h6;have hm:0≤who∧who<5:=of_decide_eq_true h6;refine P4 ?_;refine tq (aW (r:=off+870) rfl Lu rfl KM rfl rfl) ?_;refine IX (off+870+who.toNat) Tryz.underlying76 kE ?_;refine LT 0 Y4 (.bool ((M.sealed[who.toNat]'(by omega)))) ?_ (hc:=by exact Arnd.at hA (j:=870+who.toNat) (by omega) (LB (pT _)) (MirT.pt_sealed M (who.toNat) (by omega) (by omega) (JZ M.sealed (by omega))));refine P2 ?_;refine nx J2 (ah (WK [0] (av rfl rfl ?_)));exact⟨by simp[fw, *],rfl⟩;refine PS ?_
 iterate 6 refine UF ?_
 refine P2 ?_;refine nx J2 (ah (WK [0] (av rfl rfl ?_)));exact⟨by simp[fw, *],rfl⟩
theorem qi(b off T:Nat)(cs:MirT→List Value)(hA:Arnd cs MirT.cells off)(M:MirT)(who:Int)(x:RowT)(hx:WF x.flat):
 DT 148 #[(.pointer (some ⟨b,off,none⟩)),(.int .i64 (who)),(.agg (ints x.flat).toArray)] T0 [aj b (cs M) T] (RI (.bool (ln M who x)) [aj b (cs M) T]):=by
 refine BD 34 Tryz.func148 rfl rfl rfl λw0 F hF=>sr λ_ J1=>XY (ints x.flat) λb5=>?_
 refine PS ?_;refine nx J1 (aa λ_ J2=>D2 1 0 bf ?_);refine PD 0 ?_;refine AL 1 ?_;refine CE Jt (hJ who) ID ?_;refine bc ?_ ?_<;>intro h8;have hm:0≤who∧who<5:=of_decide_eq_true h8;refine EN (PD 2 ?_);refine PD 3 ?_;refine PD 4 ?_;refine PD 5 ?_;refine tb 6 rfl (aW (r:=off+870) rfl Lu rfl KM rfl rfl) ?_;refine IY 7 (off+870+who.toNat) Tryz.underlying76 kE ?_;refine LX 8 Y4 (.bool ((M.sealed[who.toNat]'(by omega)))) ?_ (hc:=by exact Arnd.at hA (j:=870+who.toNat) (by omega) (LB (pT _)) (MirT.pt_sealed M (who.toNat) (by omega) (by omega) (JZ M.sealed (by omega))));refine q8 ?_ ?_<;>intro h15;refine PD 9 ?_;refine PD 10 ?_;refine PD 11 ?_;refine NT 12 ?_;refine NT 13 ?_;refine PD 14 ?_;refine PD 15 ?_;refine NT 16 ?_;refine NT 17 ?_;refine NT 18 ?_;refine NT 19 ?_;refine NT 20 ?_;refine NT 21 ?_;refine NT 22 ?_;refine NT 23 ?_;refine NT 24 ?_;refine NT 25 ?_;refine PD 26 ?_;refine PD 27 ?_;refine DN (ac J2 (ah (WK [1] (av rfl rfl ?_))));exact⟨by simp[ln,fw,cJ, *],rfl⟩;refine PD 9 ?_;refine PD 10 ?_;refine PD 11 ?_;refine LY 12 dI ba ai ?_;refine AL 13 ?_;refine CE HN (jv x hx) ID ?_;refine bc ?_ ?_<;>intro h20;refine EN (PD 14 ?_);refine PD 15 ?_;refine FD 16 0 dI aO ?_;refine LR 17 Y3 (cA x rfl) ?_;refine PD 18 ?_;refine PD 19 ?_;refine PD 20 ?_;refine tb 21 rfl (aW (r:=off) rfl Lu rfl sU rfl rfl) ?_;refine IY 22 (off+who.toNat*174) GR ba ?_;refine tb 23 rfl (aW (r:=off+who.toNat*174) rfl dI rfl aO rfl rfl) ?_
 refine LX 24 Y3 (.int .i64 ((M.rows[who.toNat]'(by omega)).version)) ?_ (hc:=by exact Arnd.at hA (j:=who.toNat*174) (by omega) (LB (pT _)) (MirT.pt_rows M (who.toNat*174) (by omega) (by omega) (oz dm M.rows (i:=who.toNat) 0 (by omega) (by omega) (by decide) (cA _ rfl))));refine PD 25 ?_;refine PD 26 ?_;refine PD 27 ?_;refine DN (ac J2 (ah (WK [1] (av rfl rfl ?_))));exact⟨by simp[ln,fw,cJ, *],rfl⟩;refine EN (PD 14 ?_);refine PD 15 ?_;refine NT 16 ?_;refine NT 17 ?_;refine NT 18 ?_;refine NT 19 ?_;refine NT 20 ?_;refine NT 21 ?_;refine NT 22 ?_;refine NT 23 ?_;refine NT 24 ?_;refine NT 25 ?_;refine PD 26 ?_;refine PD 27 ?_;refine DN (ac J2 (ah (WK [1] (av rfl rfl ?_))));exact⟨by simp[ln,fw,cJ, *],rfl⟩;refine EN (PD 2 ?_);refine NT 3 ?_;refine NT 4 ?_;refine NT 5 ?_;refine NT 6 ?_;refine NT 7 ?_;refine NT 8 ?_;refine NT 9 ?_;refine PD 10 ?_;refine PD 11 ?_;refine NT 12 ?_;refine NT 13 ?_;refine PD 14 ?_;refine PD 15 ?_;refine NT 16 ?_;refine NT 17 ?_;refine NT 18 ?_;refine NT 19 ?_;refine NT 20 ?_;refine NT 21 ?_;refine NT 22 ?_;refine NT 23 ?_;refine NT 24 ?_;refine NT 25 ?_;refine PD 26 ?_;refine PD 27 ?_;refine DN (ac J2 (ah (WK [1] (av rfl rfl ?_))));exact⟨by simp[ln,fw,cJ, *],rfl⟩
theorem sa(b off T:Nat)(cs:MirT→List Value)(hA:Arnd cs MirT.cells off)(M:MirT)(who:Int)(x:RowT)(hx:WF x.flat):
 DT 108 #[(.pointer (some ⟨b,off,none⟩)),(.int .i64 (who)),(.agg (ints x.flat).toArray)] T0 [aj b (cs M) T] (RI (.bool (l6 M who x).2) [aj b (cs (l6 M who x).1) T]):=by
 refine BD 18 Tryz.func108 rfl rfl rfl λw0 F hF=>sr λ_ J1=>XY (ints x.flat) λb5=>?_
 refine PS ?_;refine nx J1 (aa λ_ J2=>sr λ_ J3=>P2 ?_);refine LW 0 dI ba ai ?_;refine CE Kk (qi b off T cs hA M who x hx) (SM [1]) ?_;refine bc ?_ ?_<;>intro h10;have hm0:cy who=true:=by have:=h10;simp only[ln,au]at this;exact this.1.1.1
 have hm:0≤who∧who<5:=of_decide_eq_true hm0;refine PS ?_;refine nx J3 (CN (qx J2 (aa λ_ J4=>D1 1 bf ?_)));refine PD 0 ?_;refine PD 1 ?_;refine LY 2 dI ba ai ?_;refine PD 3 ?_;refine ta 4 rfl (aW (r:=off) rfl Lu rfl sU rfl rfl) ?_;refine IY 5 (off+who.toNat*174) GR ba ?_;refine AL 6 ?_;refine bL (vs:=ints x.flat) (i:=0) (ab rfl) rfl rfl rfl rfl rfl (by rw[(ai x)];exact ba) (bm _) rfl rfl (by have h0:=(pT M);have h2:=Arnd.le hA M;have h1:=(ai x);omega) (Arnd.wr hA (x:=M) (x':=(MirT.mk (M.rows.set who.toNat x (by omega)) M.sealed)) (j:=who.toNat*174) (by omega) (LC (pT _) (ai _)) (MirT.wr_rows_ M (who.toNat*174) (by omega) (by have h1:=(ai x);omega) (oy dm M.rows (i:=who.toNat) 0 (by omega) (by omega) (by have h1:=(ai x);omega) (cg ((ai (M.rows[who.toNat]'(by omega))).trans (ai x).symm))))) rfl (ap (E1 1 (DN (ac J4 (sr λ_ J5=>PS ?_)))));refine nx J5 (ah (WK [0] (av rfl rfl ?_)));have e:l6 M who x=(zO M who x,true):=by rw[l6,if_pos h10]
 exact⟨by rw[e],by rw[e,zO,dif_pos hm0];rfl⟩;refine PS ?_;refine nx J3 (CY (sr λ_ J6=>PS ?_));refine nx J6 (ah (ae (WK [0] (av rfl rfl ?_))));have e:l6 M who x=(M,false):=by rw[l6,if_neg (by simp[h10])]
 exact⟨by rw[e],by rw[e];rfl⟩
theorem r9(b off T:Nat)(cs:MirT→List Value)(hA:Arnd cs MirT.cells off)(M:MirT)(who:Int):
 DT 109 #[(.pointer (some ⟨b,off,none⟩)),(.int .i64 (who))] T0 [aj b (cs M) T] (RI (.tuple #[.agg (ints (cJ M who).flat).toArray, .bool (cy who)]) [aj b (cs (nE M who)) T]):=by
 refine Leg.Does.body (vs:=[(.pointer (some ⟨b,off,none⟩)),(.int .i64 (who))]) (n:=21) Tryz.func109 rfl rfl rfl (λw0 F hF=>?_);refine sr λ_ J1=>?_
 refine lA (ab rfl) rfl rfl rfl tx (λb4=>?_);change TL _ _ _ _ _ _ _ _ _ [aj b4 (ints RowT.zero.flat) 39,aj b (cs M) T];refine lc ?_;refine nx J1 ?_;clear J1;refine aa λ_ J2=>?_
 refine sr λ_ J3=>?_
 refine mv ?_;refine dM (ab rfl) rfl rfl rfl Jt rfl (hJ who) (λ_ s=>s) (λ_ _ _=>trivial) (λvR HR hR=>?_);obtain⟨rfl,rfl⟩:=hR;refine bc (λh7=>?_) (λh7=>?_);have hm:0≤who∧who<5:=of_decide_eq_true h7;refine tp (nO (r:=false) rfl rfl rfl) ?_;refine nx J3 ?_;clear J3;refine nN rfl ?_;refine aM ?_;refine ac J2 ?_;clear J2;refine sr λ_ J4=>?_
 refine mv ?_;refine mv ?_;refine tp (eR rfl rfl) ?_;refine tp (aW (r:=off+870) rfl Lu rfl KM rfl rfl) ?_;refine tp (g8 (r:=off+870+who.toNat) rfl Tryz.underlying76 kE rfl rfl (by omega) (by omega) (by omega)) ?_;refine bB (i:=1) (ab rfl) rfl rfl rfl rfl rfl kE rfl rfl (by have h0:=(pT M);have h2:=Arnd.le hA M;omega) (Arnd.set hA (x:=M) (x':=(MirT.mk M.rows (M.sealed.set who.toNat true (by omega)))) (j:=870+who.toNat) (by omega) (by have h0:=(pT M);omega) (MirT.st_sealed M (who.toNat) (by omega) (by omega) (LS M.sealed (by omega) _))) rfl ?_;refine nx J4 ?_;clear J4;refine sr λ_ J5=>?_
 refine mv ?_;refine mv ?_;refine tp (eR rfl rfl) ?_;refine tp (aW (r:=off) rfl Lu rfl sU rfl rfl) ?_;refine tp (g8 (r:=off+who.toNat*174) rfl GR ba rfl rfl (by omega) (by omega) (by omega)) ?_;refine tp (aK (vs:=ints (M.rows[who.toNat]'(by omega)).flat) rfl dI rfl ba rfl (du 1 rfl rfl) (ai (M.rows[who.toNat]'(by omega))) (NH hA (j:=who.toNat*174) (by omega) (by have h0:=(pT (MirT.mk M.rows (M.sealed.set who.toNat true (by omega))));omega) (MirT.sub_rows (MirT.mk M.rows (M.sealed.set who.toNat true (by omega))) (who.toNat*174) (by omega) (by omega) (kh dm M.rows (i:=who.toNat) 0 (by omega) (by omega) (by decide) (whole (ai (M.rows[who.toNat]'(by omega)))))))) ?_;refine bL (vs:=ints (M.rows[who.toNat]'(by omega)).flat) (i:=0) (ab rfl) rfl rfl rfl rfl rfl (by rw[(ai (M.rows[who.toNat]'(by omega)))];exact ba) (bm _) rfl rfl (by have h0:=(ai RowT.zero);have h1:=(ai (M.rows[who.toNat]'(by omega)));omega) (cg ((ai RowT.zero).trans (ai (M.rows[who.toNat]'(by omega))).symm)) rfl ?_;refine lc ?_;refine nx J5 ?_;clear J5;refine ah ?_;refine lB (H':=[aj b (cs (MirT.mk M.rows (M.sealed.set who.toNat true (by omega)))) T]) rfl rfl rfl dI rfl ba (du 0 rfl rfl) (ai (M.rows[who.toNat]'(by omega))) (λ_ s=>ak [1] rfl s) ?_;exact⟨by simp[cJ, *],by simp[nE, *]⟩;refine tp (nO (r:=true) rfl rfl rfl) ?_;refine nx J3 ?_;clear J3;refine jD rfl ?_;refine sr λ_ J6=>?_
 refine tp (jF (cells:=(ints RowT.zero.flat).toArray) rfl rfl (by as_aux_lemma=>kernel_rfl)) ?_;refine bL (vs:=ints RowT.zero.flat) (i:=0) (ab rfl) rfl rfl rfl rfl rfl (by rw[(ai RowT.zero)];exact ba) (bm _) rfl rfl (by have h0:=(ai RowT.zero);have h1:=(ai RowT.zero);omega) (cg ((ai RowT.zero).trans (ai RowT.zero).symm)) rfl ?_;refine lc ?_;refine nx J6 ?_;clear J6;refine ah ?_;refine ae ?_;clear J2;refine lB (H':=[aj b (cs M) T]) rfl rfl rfl dI rfl ba (du 0 rfl rfl) (ai RowT.zero) (λ_ s=>ak [1] rfl s) ?_;exact⟨by simp[cJ, *],by simp[nE, *]⟩
end Go.Proofs.YtfocodjhmkokpaaGreatDoor
end

section
namespace Api
open Go Leg Codec
def e7(k:Int):Bool:=decide (k=0∨k=2∨k=9)
def ff(k:Int):Bool:=decide (k=3∨k=6)
def cM:Ps (MsgT×Bool):=pb (fc 10) λk=>
 if e7 k then pb (fc 5) λw=>pb uu λx=>pr (⟨k,w,x,0,0, .zero, .zero, .zero, .zero⟩,gT x)
 else if k=1 then pb mU λn=>pr (⟨k,0, .zero,n,0, .zero, .zero, .zero, .zero⟩,true)
 else if ff k then pb mU λn=>pb jP λb=>pr (⟨k,0, .zero,0,n,b, .zero, .zero, .zero⟩,true)
 else if k=4 then pb mU λn=>pb jP λb=>pb jP λd=>pb kY λc=>pr (⟨k,0, .zero,0,n,b,d,c, .zero⟩,true)
 else if k=5 then pb mU λn=>pb jP λb=>pb kY λc=>pr (⟨k,0, .zero,0,n,b, .zero,c, .zero⟩,true)
 else if k=7 then pb mq λv=>pr (⟨k,0, .zero,0,0, .zero, .zero, .zero,v⟩,ko v)
 else if k=8 then pb (fc 5) λw=>pb mq λv=>pr (⟨k,w, .zero,0,0, .zero, .zero, .zero,v⟩,ko v)
 else pr (⟨k,0, .zero,0,0, .zero, .zero, .zero, .zero⟩,true)
def df:Ps (RecT×Bool):=pb (fc 6) λk=>
 if k=0 then pb uu λx=>pr (⟨k,0,x,0, .zero, .zero, .zero⟩,gT x)
 else if k=1 then pb (fc 5) λw=>pb uu λx=>pr (⟨k,w,x,0, .zero, .zero, .zero⟩,gT x)
 else if k=2 then pb (fc 5) λw=>pr (⟨k,w, .zero,0, .zero, .zero, .zero⟩,true)
 else if k=3 then pb mU λn=>pb jP λb=>pr (⟨k,0, .zero,n,b, .zero, .zero⟩,true)
 else if k=4 then pb mU λn=>pb jP λb=>pb kY λc=>pr (⟨k,0, .zero,n,b,c, .zero⟩,true)
 else if k=5 then pb mq λv=>pr (⟨k,0, .zero,0, .zero, .zero,v⟩,ko v)
 else pr (⟨k,0, .zero,0, .zero, .zero, .zero⟩,true)
def jr(bs:List UInt8):MsgT×Int:=match cM bs with
 |some ((m,true),[])=>(m,0)
 |_=>(.zero,1)
def nI(bs:List UInt8):RecT×Int:=match df bs with
 |some ((m,true),[])=>(m,0)
 |_=>(.zero,1)
def dP(m:MsgT):List UInt8:=
 if e7 m.kind then bl [m.kind,m.whose]++hZ m.row
 else if m.kind=1 then bl [m.kind,m.version]
 else if ff m.kind then bl [m.kind,m.epoch]++bl m.ballot.flat
 else if m.kind=4 then bl [m.kind,m.epoch]++bl m.ballot.flat++bl m.had.flat++bl m.change.flat
 else if m.kind=5 then bl [m.kind,m.epoch]++bl m.ballot.flat++bl m.change.flat
 else if m.kind=7 then bl [m.kind]++bl m.view.flat
 else if m.kind=8 then bl [m.kind,m.whose]++bl m.view.flat
 else []
def jX(m:RecT):List UInt8:=
 if m.kind=0 then bl [m.kind]++hZ m.row
 else if m.kind=1 then bl [m.kind,m.whose]++hZ m.row
 else if m.kind=2 then bl [m.kind,m.whose]
 else if m.kind=3 then bl [m.kind,m.epoch]++bl m.ballot.flat
 else if m.kind=4 then bl [m.kind,m.epoch]++bl m.ballot.flat++bl m.change.flat
 else if m.kind=5 then bl [m.kind]++bl m.view.flat
 else []
theorem rq{v:ViewT}{bs r:List UInt8}(h:mq bs=some (v,r)):Rng v:=λi hi=>by
 have:=(sO h).1.2.2 i hi;exact⟨this.1,by omega⟩
theorem zu{x:RowT}{bs r:List UInt8}(h:uu bs=some (x,r)):WF x.flat:=(vL h).1.wf
def Nm(n:Int):Prop:=0≤n∧n<9223372036854775808
def OkB(b:BallotT):Prop:=Nm b.round∧0≤b.who∧b.who<5
def OkC(c:ChangeT):Prop:=(0≤c.kind∧c.kind<2)∧(0≤c.who∧c.who<5)∧(0≤c.heir∧c.heir<5)
def Pe(v:ViewT):Prop:=Nm v.epoch∧(0≤v.members∧v.members<32)∧∀(i:Nat) (h:i<5),0≤v.heirs[i]∧v.heirs[i]<6
theorem Lk(i:Nat)(hi:i<5):RowT.zero.heir[i]=0:=by match i,hi with|0,_|1,_|2,_|3,_|4,_=>rfl
theorem Iv(k:Nat)(hk:k<4):RowT.zero.cells[k]=CellT.zero:=by match k,hk with|0,_|1,_|2,_|3,_=>rfl
theorem Dz(i:Nat)(hi:i<5):RowT.zero.left[i]=RowT.zero.cells:=by match i,hi with|0,_|1,_|2,_|3,_|4,_=>rfl
theorem tame_rzero:TameR RowT.zero:=⟨⟨by decide,by decide⟩,λk hk=>by rw[Iv k hk];exact sQ,λi hi=>by rw[Lk i hi];decide,λi k hi hk=>by rw[show RowT.zero.left[i][k]=RowT.zero.cells[k]from by rw[Dz i hi],Iv k hk];exact sQ,λi hi _=>by rw[Dz i hi,Dz 0 (by decide)]⟩
def Dm(m:RecT):Bool:=if m.kind=0∨m.kind=1 then gT m.row else if m.kind=5 then ko m.view else true
theorem Hz{m:RecT}{g:Bool}{bs r:List UInt8}(h:df bs=some ((m,g),r)):bs=jX m++r∧Dm m=g∧(0≤m.kind∧m.kind<6)∧(0≤m.whose∧m.whose<5)∧TameR m.row:=by
 obtain⟨k,r1,h1,h2⟩:=bI h;clear h;obtain⟨k1,rfl⟩:=dd h1;have tz:=tame_rzero;have kz:(0:Int)≤0∧(0:Int)<5:=by omega
 by_cases c0:k=0
 · simp only[if_pos c0]at h2
   subst c0;obtain⟨x,r3,h5,h6⟩:=bI h2;obtain⟨k5,rfl⟩:=vL h5;obtain⟨e,rfl⟩:=g9 h6;injection e with e1 e2;subst e1;subst e2
   exact⟨by simp[jX,bl],by simp[Dm],⟨k1.1,k1.2.1⟩,kz,k5⟩
 simp only[if_neg c0]at h2
 by_cases c1:k=1
 · simp only[if_pos c1]at h2
   subst c1;obtain⟨w,r2,h3,h4⟩:=bI h2;obtain⟨k3,rfl⟩:=dd h3;obtain⟨x,r3,h5,h6⟩:=bI h4;obtain⟨k5,rfl⟩:=vL h5;obtain⟨e,rfl⟩:=g9 h6;injection e with e1 e2;subst e1;subst e2
   exact⟨by simp[jX,bl],by simp[Dm],⟨k1.1,k1.2.1⟩,⟨k3.1,k3.2.1⟩,k5⟩
 simp only[if_neg c1]at h2
 by_cases c2:k=2
 · simp only[if_pos c2]at h2
   subst c2;obtain⟨w,r2,h3,h4⟩:=bI h2;obtain⟨k3,rfl⟩:=dd h3;obtain⟨e,rfl⟩:=g9 h4;injection e with e1 e2;subst e1;subst e2
   exact⟨by simp[jX,bl],by simp[Dm],⟨k1.1,k1.2.1⟩,⟨k3.1,k3.2.1⟩,tz⟩
 simp only[if_neg c2]at h2
 by_cases c3:k=3
 · simp only[if_pos c3]at h2
   subst c3;obtain⟨n,r2,h3,h4⟩:=bI h2;obtain⟨_,_,rfl⟩:=kO h3;obtain⟨b,r3,h5,h6⟩:=bI h4;obtain⟨_,rfl⟩:=pM h5;obtain⟨e,rfl⟩:=g9 h6;injection e with e1 e2;subst e1;subst e2
   exact⟨by simp[jX,bl],by simp[Dm],⟨k1.1,k1.2.1⟩,kz,tz⟩
 simp only[if_neg c3]at h2
 by_cases c4:k=4
 · simp only[if_pos c4]at h2
   subst c4;obtain⟨n,r2,h3,h4⟩:=bI h2;obtain⟨_,_,rfl⟩:=kO h3;obtain⟨b,r3,h5,h6⟩:=bI h4;obtain⟨_,rfl⟩:=pM h5;obtain⟨c,r5,h9,h10⟩:=bI h6;obtain⟨_,rfl⟩:=uj h9;obtain⟨e,rfl⟩:=g9 h10;injection e with e1 e2;subst e1;subst e2
   exact⟨by simp[jX,bl],by simp[Dm],⟨k1.1,k1.2.1⟩,kz,tz⟩
 simp only[if_neg c4]at h2;have c5:k=5:=by omega
 simp only[if_pos c5]at h2;subst c5;obtain⟨v,r3,h5,h6⟩:=bI h2;obtain⟨_,rfl⟩:=sO h5;obtain⟨e,rfl⟩:=g9 h6;injection e with e1 e2;subst e1;subst e2
 exact⟨by simp[jX,bl],by simp[Dm],⟨k1.1,k1.2.1⟩,kz,tz⟩
theorem Rng.zeros{v:ViewT}(h:v.heirs= #v[0,0,0,0,0]):Rng v:=λi hi=>by
 have:v.heirs[i]=0:=by
  rw[show v.heirs[i]=(#v[0,0,0,0,0]:Vector Int 5)[i]from by rw[h]]
  match i,hi with|0,_|1,_|2,_|3,_|4,_=>rfl
 omega
theorem Rng.zero:Rng ViewT.zero:=Rng.zeros rfl
theorem Rng.first:Rng firstV:=Rng.zeros rfl
abbrev Cw:= @Rng.first
def vM(x:RepT):MsgT:= {MsgT.zero with kind:=0,whose:=x.id,row:=x.own}
def rW(id:Int)(x:RowT):MsgT:= {MsgT.zero with kind:=2,whose:=id,row:=x}
def Ak(k w:Int):Bool:=decide (k.fdiv (2^min w.toNat IntKind.i64.bits)%2=0)
def pg(x:RepT):List SaidT:=((gL x.id).filter λw=>Ak x.kept w).map λw=>⟨w,vM x⟩
end Api
namespace Api
open Go Leg Codec
def gU(x:RepT)(o:OpT):RowT×Int:=
 if o.kind=0 then pp x.own o.key o.n else if o.kind=1 then pq x.own o.key o.n else if o.kind=2 then(if o.to'≠x.id then l4 x.own o.key o.n o.to' else(.zero,5))else(.zero,5)
def j0(x:RepT)(o:OpT):RowT×Int×Int:=
 if iB x.view x.id=false then(.zero,0,9)else if mK o.key=false then(.zero,0,5)else if o.kind=3 then(.zero,jf x.book o.key,0)else if x.busy then(.zero,0,8)
 else if(gU x o).2≠0 then(.zero,0,(gU x o).2)else if o.kind≠0∧ot x.book x.id o.key<o.n then(.zero,0,7)else((gU x o).1,0,0)
def kn(y:RowT):RecT:= {RecT.zero with kind:=0,row:=y}
end Api
namespace Api
open Go Leg Codec
end Api
namespace Api
open Go Leg Codec
end Api
namespace Api
open Go Leg Codec
end Api
namespace Api
open Go Leg Codec
end Api
end

section
namespace Leg
open Go
section
variable {P:Program} {w0:World} {F:Hl} {n:Nat} {ops:Array Oper} {Q:QQ} {D:List Deferred} {L:List (Nat×Value)} {H:List HP} {o:Oper} {l:List Oper} {d:Nat} {S:World→Prop}
def xd(P:Program)(t:TypeId)(rv:Value)(nm:String)(f:FuncId):Prop:=∀w,(method (P.types.size+Made.depth) t rv nm).run P w= .ok (f,rv) w
theorem TL.callI{recv:Operand}{nm:String}{t:TypeId}{rv:Value}{f:FuncId}{xs:Array Operand}{ts:Array TypeId}{vs:List Value}{R:Hl→Prop}{A B:List HP}{p:Value→List HP→Prop}(hw:Want n D ops o L)
 (ho:o.op= .call {callee:= .invoke recv nm,args:=xs,argTypes:=ts}) (hd:o.dst=some d) (hn:Nat.blt d n=true) (hr:cE L recv=some (.iface t rv)) (hm:xd P t rv nm f) (hf:Named P f) (hx:zT L xs.toList=some vs)
 (sp:Does P f (rv::vs).toArray R A (c9 p)) (hp: ∀h,bK H h→bK (A++B) h) (hR: ∀g,Dj g F→bK B g→R (jn g F))
 (hret: ∀v H',p v H'→TL P w0 F n ops Q l D ((d,v)::L) (H'++B)):TL P w0 F n ops Q (o::l) D L H:=
 TL.callw hw (λa w g=>by
  have e:xs.map a.eval=vs.toArray:=g.evals hx;have e2:a.eval recv= .iface t rv:=g.eval hr;have e3:=hm w
  simp[execOp,ho,resolve,invoke,callMethod,e,e2,e3,l3 hf])
  sp hp hR (λv H' q a g w s m=>by rw[hd];exact hret v H' q _ w (g.put (lb hn) v) s m) (λ_ _ h=>h.elim) (λ_ h=>h)
theorem TE.retCTT{H':List HP}{fn:Func}{post:Ending→List HP→Prop}{t t' t2 ty e m b:Nat}{cs:List Value}{z:Nat×Nat}{dt:TypeDesc}{v' v2:Value}(hr:fn.results=#[.cell t ty, .tmp t', .tmp t2])(he:lk L t=some (.pointer (some ⟨b,0,none⟩)))(e':lk L t'=some v')(e2:lk L t2=some v2)
 (hu:P.underlying ty=some dt) (hp:eb dt=false) (hm:(P.info? ty).map (·.size)=some m) (hR:Rd (Sat H F) b (.cells cs.toArray e z)) (hl:cs.length=m) (hk: ∀h,bK H h→bK H' h)
 (h:post (.returned (.tuple #[.agg cs.toArray,v',v2])) H'):TE w0 F n (bodyPost P fn (jp post w0 F)) .ret [] L H:=λa w f s q=>by
 have h1:a.tmps.getD t undef= .pointer (some ⟨b,0,none⟩):=f.eval (x:= .tmp t) he;have h2:a.tmps.getD t' undef=v':=f.eval (x:= .tmp t') e';have h4:a.tmps.getD t2 undef=v2:=f.eval (x:= .tmp t2) e2
 have h3:(results fn a.tmps).run P w= .ok (.tuple #[.agg cs.toArray,v',v2]) w:=by
  have h1':a.tmps[t]?.getD undef= .pointer (some ⟨b,0,none⟩):=by simpa using h1
  have h2':a.tmps[t']?.getD undef=v':=by simpa using h2
  have h4':a.tmps[t2]?.getD undef=v2:=by simpa using h4
  simp[results,hr,h1',h2',h4',asAddr,run_loadVar_row w b e ty cs.toArray z dt (hR w q) hu (by cases dt<;>simp[eb]at hp ⊢) (by simp[hm,hl])]
 exact bodyPost_ret h3 f.2.1 ⟨s,H',q.mono hk,h⟩
theorem PV.ifaceNotNil{t t' u:TypeId}{x:Operand}{v:Value}{ms:Array (String×TypeId)}(ho:o.op= .binOp .neq t x (.const .nilIface) t')(ht:P.underlying t=some (.interface ms))(hx:cE L x=some (.iface u v)):PV P n D L S o (.bool true):=
 fS ho hx rfl λw=>by
  have:=ql (P:=P) (w:=w) 9999 (u:=u) (v:=v) ht;simp[eqGuard,binOp,Op.equal,Op.maxDepth,this]
end
theorem sh(i:Nat){v:Value}{l:List Int}{e:Nat}{B:List HP}{F:Hl}(hi:Nat.blt i B.length=true)(hH:B.getD i (λ_=>True)=own v l.length (Api.ints l) e 1): ∀g,Dj g F→bK B g→IsI .i64 v l (jn g F):=λg _ s=>by
 obtain⟨h1,h2,d',rfl,a,_⟩:=dV i (lb hi) s;rw[hH]at a;rcases a with⟨_,⟨h0,hn,_⟩| ⟨g,cap,cur,hv,hh,h3,h4,h5,h6⟩⟩
 · exact .inl ⟨h0,List.eq_nil_of_length_eq_zero hn⟩
 · refine .inr ⟨g,0,cap,cur.toList,e,(0,0),hv,h3,by simp only[maxLen]at h4;omega,gi (gi (by rw[hh];simp[sg])),λj hj=>?_⟩
   rw[fH]at h6;have e1:(cur.toList.take l.length)[j]?=some (.int .i64 (l.getD j 0)):=by rw[h6];exact Api.ints_get l j hj
   rw[List.getElem?_take,if_pos hj]at e1
   simpa using e1
variable {P:Program} {w0:World} {F:Hl} {n:Nat} {ops:Array Oper} {Q:QQ} {D:List Deferred} {L:List (Nat×Value)} {H:List HP} {d:Nat} {o:Oper} {l:List Oper}
theorem RU{fn:Func}{post:Ending→List HP→Prop}{t t' t2 ty e m b:Nat}{cs:List Value}{dt:TypeDesc}{v' v2:Value}(k:Nat)(is:List Nat)(hu:P.underlying ty=some dt)(hm:(P.info? ty).map (·.size)=some m)(hl:cs.length=m)(h:post (.returned (.tuple #[.agg cs.toArray,v',v2])) ((A5 H is).take is.length))(hr:fn.results=#[.cell t ty, .tmp t', .tmp t2]:=by exact rfl)(he:lk L t=some (.pointer (some ⟨b,0,none⟩)):=by exact rfl)(e':lk L t'=some v':=by exact rfl)(e2:lk L t2=some v2:=by exact rfl)(hp:eb dt=false:=by exact rfl)(hk:Nat.blt k H.length=true:=by exact rfl)(hH:H.getD k (λ_=>True)=aj b cs e:=by exact rfl)(hs:Jq H.length is=true:=by exact rfl):TE w0 F n (bodyPost P fn (jp post w0 F)) .ret [] L H:=TE.retCTT hr he e' e2 hu hp hm (du k hk hH) hl (λ_ s=>ak is hs s) h
end Leg
end

section
namespace Dsk
open Go Leg Codec Api
abbrev jE:=List UInt8
def zs:jE:=List.replicate 64 0
def FH(b:jE):Value:= .agg (dw b).toArray
abbrev fC:=List (Int×jE)
def kM(s:fC)(k:Int):jE:=match s with
 | []=>zs
 | (a,b)::s=>if k=a then b else kM s k
def nu(s:fC)(k:Int)(v:jE):fC:=match s with
 | []=>[(k,v)]
 | (a,b)::s=>if k=a then(a,v)::s else(a,b)::nu s k v
theorem Ho(s:fC)(k j:Int)(v:jE):kM (nu s k v) j=if j=k then v else kM s j:=by
 induction s with
 |nil=>simp[nu,kM]
 |cons p s ih=>
  obtain⟨a,b⟩:=p;simp only[nu]
  by_cases h:k=a
  · subst h
    rw[if_pos rfl]
    by_cases h2:j=k
    · simp[kM,h2]
    · simp[kM,h2]
  · rw[if_neg h]
    simp only[kM]
    by_cases h2:j=a
    · subst h2
      rw[if_pos rfl,if_pos rfl,if_neg (by omega)]
    · rw[if_neg h2,if_neg h2,ih]
def sG(s:fC):List (Int×Value):=s.map λp=>(p.1,FH p.2)
theorem BH(s:fC)(k:Int):(Gr (sG s) k).getD (FH zs)=FH (kM s k):=by
 induction s with
 |nil=>rfl
 |cons p s ih=>
  obtain⟨a,b⟩:=p;simp only[sG,eA,Gr,kM]at ih ⊢;split
  · rfl
  · exact ih
theorem Ic(s:fC)(k:Int)(v:jE):wz (sG s) k (FH v)=sG (nu s k v):=by
 induction s with
 |nil=>rfl
 |cons p s ih=>
  obtain⟨a,b⟩:=p;simp only[sG,eA,wz,nu]at ih ⊢;split
  · rfl
  · rw[ih];rfl
def cU(p:Int×jE):List Value:= .int .i64 p.1::dw p.2
def dy(ws:fC):List Value:=ws.flatMap cU
def eE(b:List UInt8):jE:=b++List.replicate (64-b.length) 0
theorem dq{b:List UInt8}(h:b.length≤64):(eE b).length=64:=by simp[eE];omega
def Whole(s:fC):Prop:=∀p∈s,p.2.length=64
theorem cn{p:Int×jE}(h:p.2.length=64):(cU p).length=65:=by simp[cU,dw,h]
theorem Fj{ws:fC}(h:Whole ws){k:Nat}(hk:k<ws.length):((dy ws).drop (k*65)).take 65=cU ws[k]:=by
 induction ws generalizing k with
 |nil=>simp at hk
 |cons p ws ih=>
  have h1:=cn (h p (by simp));simp only[dy,cS]at ih ⊢;cases k with
  |zero=>
   simp only[gr,bb,nQ];rw[ct (by omega),aC (by omega)]
  |succ k=>
   rw[ib,cY (by omega),h1,show(k+1)*65-65=k*65 by omega,ca]
   simpa using ih (λq hq=>h q (by simp[hq])) (by simpa using hk)
theorem e4{s:fC}(h:Whole s)(k:Int):(kM s k).length=64:=by
 induction s with
 |nil=>simp[kM,zs]
 |cons p s ih=>
  obtain⟨a,b⟩:=p;simp only[kM];split
  · exact h (a,b) (by simp)
  · exact ih λq hq=>h q (by simp[hq])
theorem Whole.put{s:fC}(h:Whole s)(k:Int){v:jE}(hv:v.length=64):Whole (nu s k v):=by
 induction s with
 |nil=>intro p hp;simp only[nu,im]at hp;subst hp;exact hv
 |cons p s ih=>
  obtain⟨a,b⟩:=p;intro q hq;simp only[nu]at hq;split at hq
  · rcases bT.1 hq with rfl|hq
    · exact hv
    · exact h q (by simp[hq])
  · rcases bT.1 hq with rfl|hq
    · exact h (a,b) (by simp)
    · exact ih (λq hq=>h q (by simp[hq])) q hq
theorem Whole.add{s:fC}(h:Whole s)(k:Int){v:jE}(hv:v.length=64):Whole (s++[(k,v)]):=λp hp=>by
 rcases fz.1 hp with hp|hp
 · exact h p hp
 · simp only[im]at hp;subst hp;exact hv
section
variable {P:Program} {n:Nat} {D:List Deferred} {L:List (Nat×Value)} {S:World→Prop} {o:Oper}
theorem PV.mapNil{t t' k e m:TypeId}{x y:Operand}(ho:o.op= .binOp .eql t x y t')(hu:P.underlying t=some (.map k e))(hx:cE L x=some (.map (some m)))(hy:cE L y=some (.map none)):PV P n D L S o (.bool false):=
 fS ho hx hy λw=>by
  have e:(Op.equal t (.map (some m)) (.map none)).run P w= .ok false w:=run_equalIn_map_nil w 9999 t k e (some m) hu;simp[eqGuard,binOp,e]
end
end Dsk
namespace Dsk
open Go Leg Codec Api
theorem y2{k:Int}{b:List UInt8}(h:b.length≤64):wr (.int .i64 k::dw zs) 1 ((dw b).take (min b.length 64))=cU (k,eE b):=by
 have e:(dw b).take (min b.length 64)=dw b:=aC (by rw[bj];omega);rw[e,wr,bj]
 have e2:(Value.int IntKind.i64 k::dw zs).drop (1+b.length)=dw (List.replicate (64-b.length) 0):=by
  rw[show 1+b.length=b.length+1 by omega,gX];rw[dw,dw,zs,←kD,List.drop_replicate]
 rw[e2];simp only[cU,eE,dw,el,List.take_succ_cons,List.take_zero,xc,ca]
theorem Ij(vs:List Value): ∀(j:Nat) (pre zeros:List Value),pre.length=j→zeros.length=vs.length→
 ((vs.zipIdx j).foldl (λ(cs:Array Value) (c,i)=>cs.setIfInBounds (0+i) c) (pre++zeros).toArray)=(pre++vs).toArray:=by
 induction vs with
 |nil=>intro j pre zeros _ h;rw[List.eq_nil_of_length_eq_zero h];rfl
 |cons v vs ih=>
  intro j pre zeros hp hz
  match zeros,hz with
  |z::zeros,hz=>
   rw[List.zipIdx_cons,List.foldl_cons]
   have e:(pre++z::zeros).toArray.setIfInBounds (0+j) v=((pre++[v])++zeros).toArray:=by
    rw[bi,List.setIfInBounds_toArray,gg _ _ (by omega),hp,xX,cd,aZ];rfl
   simp only[e];rw[ih (j+1) (pre++[v]) zeros (by simp[hp]) (by simpa using hz),aZ];rfl
theorem DQ{zeros:Array Value}{vs:List Value}(h:zeros.size=vs.length):Instr.fill (λi=>some (i*vs.length,vs.length)) zeros [(0, .agg vs.toArray)]=some vs.toArray:=by
 have e:=Ij vs 0 [] zeros.toList rfl (by simpa using h);simp only[ca,Array.toArray_toList]at e;simp only[Instr.fill,Value.cells,List.size_toArray,gr,bi,ne_eq,not_true_eq_false,false_or,decide_false,Bool.false_or];rw[if_neg (by simp[h])];rw[←Array.foldl_toList,Array.toList_zipIdx];simp only[bi]at e;rw[e]
theorem je{zeros:Array Value}{vs:List Value}{size:Nat}(h:vs.length=size)(hz:zeros.size=size):Instr.fill (λi=>some (i*size,size)) zeros [(0, .agg vs.toArray)]=some vs.toArray:=by
 subst h;exact DQ hz
theorem io(p:Int×jE): ∀u∈cU p,u.oneCell'=true:=by
 intro u hu;rcases bT.1 hu with rfl|hu
 · rfl
 · exact eB _ u hu
end Dsk
namespace Leg
open Go
section
variable {P:Program} {w0:World} {F:Hl} {n:Nat} {ops:Array Oper} {Q:QQ} {D:List Deferred} {L:List (Nat×Value)} {H:List HP} {l:List Oper}
end
end Leg
namespace Dsk
open Go Leg Codec Api
def kC(ws:fC)(k:Nat):Int×jE:=ws.getD k (0,zs)
theorem u9{ws:fC}{k:Nat}(hk:k<ws.length):kC ws k=ws[k]:=by simp[kC,List.getD_eq_getElem?_getD,hk]
theorem dD{ws:fC}(h:Whole ws){k:Nat}(hk:k<ws.length):(kC ws k).2.length=64:=by rw[u9 hk];exact h _ (eW hk)
theorem pY{ws:fC}(h:Whole ws){k:Nat}(hk:k<ws.length):((dy ws).drop (k*65)).take 65=cU (kC ws k):=by rw[u9 hk];exact Fj h hk
theorem Fl{ws:fC}(h:Whole ws){k:Nat}(hk:k<ws.length):(dy ws)[k*65]?=some (.int .i64 (kC ws k).1):=by
 have e:=congrArg (λl:List Value=>l[0]?) (pY h hk)
 simpa [cU]using e
theorem Fk{ws:fC}(h:Whole ws){k:Nat}(hk:k<ws.length):((dy ws).drop (k*65+1)).take 64=dw (kC ws k).2:=by
 have e:=congrArg (λl:List Value=>l.drop 1) (pY h hk);simp only[jH,lE,cU,gX,bb]at e;exact e
theorem uX{p:Int×jE}(h:p.2.length=64):((cU p).drop 1).take 64=dw p.2:=by
 simp only[cU,gX,bb];exact aC (by rw[bj,h];exact aQ _)
theorem Ax{p:Int×jE}{c:Nat}(h:p.2.length=64)(hc:c≤64):((cU p).drop 1).take (min c 64)=(dw p.2).take c:=by
 simp only[cU,gX,bb];congr 1;omega
theorem vi{l:List Value}{n:Nat}(h:l.length=n):(l.drop 0).take n=l:=by rw[bb,aC (by omega)]
def BF(s ws:fC):Nat→fC
 |0=>s
 |k+1=>nu (BF s ws k) (kC ws k).1 (kC ws k).2
theorem Whole.lay{s ws:fC}(h:Whole s)(hw:Whole ws): ∀k,k≤ws.length→Whole (BF s ws k)
 |0,_=>h
 |k+1,hk=>(Whole.lay h hw k (by omega)).put _ (dD hw (by omega))
def rC(old new:jE)(c:Nat):jE:=new.take c++old.drop c
theorem p2{old new:jE}{c:Nat}(h1:old.length=64)(h2:new.length=64):(rC old new c).length=64:=by simp[rC];omega
def pH(n:Int):Nat:=(min (max n 0) 64).toNat
theorem JL(n:Int):min (max n 0) 64=((pH n:Nat):Int):=by unfold pH;omega
theorem sx(n:Int):pH n≤64:=by unfold pH;omega
def mm(mask torn:Int)(c:Nat)(s:fC)(k:Nat)(p:Int×jE):fC:=
 if(k:Int)=torn then nu s p.1 (rC (kM s p.1) p.2 c)else if mask.fdiv (2^ (k%32))%2=1 then nu s p.1 p.2 else s
def mM(mask torn:Int)(c:Nat)(s ws:fC):Nat→fC
 |0=>s
 |k+1=>mm mask torn c (mM mask torn c s ws k) k (kC ws k)
theorem Whole.crash{mask torn:Int}{c:Nat}{s ws:fC}(h:Whole s)(hw:Whole ws): ∀k,k≤ws.length→Whole (mM mask torn c s ws k)
 |0,_=>h
 |k+1,hk=>by
  have ih:=Whole.crash (mask:=mask) (torn:=torn) (c:=c) h hw k (by omega);simp only[mM,mm];split
  · exact ih.put _ (p2 (e4 ih _) (dD hw (by omega)))
  · split
    · exact ih.put _ (dD hw (by omega))
    · exact ih
def iJ(s ws:fC)(at':Int):Nat→jE
 |0=>kM s at'
 |k+1=>if(kC ws k).1=at' then(kC ws k).2 else iJ s ws at' k
theorem yp{s ws:fC}(h:Whole s)(hw:Whole ws)(at':Int): ∀k,k≤ws.length→(iJ s ws at' k).length=64
 |0,_=>e4 h _
 |k+1,hk=>by
  simp only[iJ];split
  · exact dD hw (by omega)
  · exact yp h hw at' k (by omega)
theorem FT{s ws:fC}{at':Int}{k:Nat}(h:(kC ws k).1=at'):iJ s ws at' (k+1)=(kC ws k).2:=by simp[iJ,h]
theorem De{s ws:fC}{at':Int}{k:Nat}(h:(kC ws k).1≠at'):iJ s ws at' (k+1)=iJ s ws at' k:=by simp[iJ,h]
theorem Fs{old new:jE}{c m:Nat}(hc:c≤64)(h1:old.length=64)(h2:new.length=64)(hm:m=c):wr (dw old) 0 (((dw new).take c).take m)=dw (rC old new c):=by
 subst hm;have:((dw new).take m).length=m:=by rw[bq,bj];omega
 rw[aC (by omega),wr,this,List.take_zero,ca,bi];simp[dw,rC,oZ,kD]
structure DS where
 s:fC
 ws:fC
 ar:Bool
 lf:Int
 dn:Bool
structure DS.Ok(D:DS):Prop where
 s:Whole D.s
 ws:Whole D.ws
 lf:0≤D.lf∧D.lf≤9223372036854775807
def DS.new:DS:=⟨[],[],false,0,false⟩
def DS.arm(D:DS)(n:Int):DS:= {D with ar:=true,lf:=max n 0}
def DS.write(D:DS)(at':Int)(bs:List UInt8):Int×DS:=
 if at'<0∨2048≤at'∨64<bs.length then(5,D)
 else if D.dn=true∨(D.ar=true∧D.lf=0)then(4,{D with dn:=true})
 else(0,{D with ws:=D.ws++[(at',eE bs)],lf:=if D.ar=true then D.lf-1 else D.lf,dn:=false})
def DS.sync(D:DS):Int×DS:=if D.dn=true then(4,D)else(0,{D with s:=BF D.s D.ws D.ws.length,ws:=[]})
def DS.crash(D:DS)(mask torn n:Int):DS:=⟨mM mask torn (pH n) D.s D.ws D.ws.length,[],false,0,false⟩
def DS.read(D:DS)(at':Int):jE:=iJ D.s D.ws at' D.ws.length
theorem mg:Whole []:=λ_ h=>absurd h (by simp)
theorem DS.new_ok:DS.new.Ok:=⟨mg,mg,⟨by decide,by decide⟩⟩
theorem DS.write_ok{D:DS}(h:D.Ok)(at':Int)(bs:List UInt8):(D.write at' bs).2.Ok:=by
 unfold DS.write;split
 · exact h
 · split
   · exact⟨h.s,h.ws,h.lf⟩
   · rename_i h1 h2
     refine⟨h.s,h.ws.add _ (dq (by omega)),?_⟩;have:=h.lf;show 0≤(if D.ar=true then D.lf-1 else D.lf)∧(if D.ar=true then D.lf-1 else D.lf)≤9223372036854775807;split<;>rename_i h3
     · have:D.lf≠0:=λq=>h2 (.inr ⟨h3,q⟩)
       exact⟨by omega,by omega⟩
     · exact this
theorem DS.sync_ok{D:DS}(h:D.Ok):D.sync.2.Ok:=by
 unfold DS.sync;split
 · exact h
 · exact⟨h.s.lay h.ws _ (aQ _),mg,h.lf⟩
theorem DS.crash_ok{D:DS}(h:D.Ok)(mask torn n:Int):(D.crash mask torn n).Ok:=⟨h.s.crash h.ws _ (aQ _),mg,⟨by simp[DS.crash],by simp[DS.crash]⟩⟩
theorem DS.read_len{D:DS}(h:D.Ok)(at':Int):(D.read at').length=64:=yp h.s h.ws _ _ (aQ _)
abbrev lG:= @DS.read_len
theorem DS.write_ws{D:DS}{at':Int}{bs:List UInt8}:(D.write at' bs).2.ws.length≤D.ws.length+1:=by
 unfold DS.write;split
 · simp
 · split
   · simp
   · simp
abbrev Nd(DT WT:Nat)(d:Nat)(D:DS):HP:=pack λx:Nat×Value=>[aj d [.map (some x.1),x.2, .bool D.ar, .int .i64 D.lf, .bool D.dn] DT,kx x.1 (sG D.s),own x.2 D.ws.length (dy D.ws) WT 65]
end Dsk
end

section
namespace Go.Proofs.YtfocodjhmkokpaaGreatDoor
open Go Leg Codec Api Dsk
theorem zX(d m:Nat)(wv:Value)(ar dn:Bool)(lf:Int):
 DT 53 #[(.pointer (some ⟨d,0,none⟩))] T0 [aj d [(.map (some m)),wv,(.bool (ar)),(.int .i64 (lf)),(.bool (dn))] 140] (RI (.bool dn) [aj d [(.map (some m)),wv,(.bool (ar)),(.int .i64 (lf)),(.bool (dn))] 140]):=by
 refine BD 7 Tryz.func53 rfl rfl rfl λw0 F hF=>sr λ_ J1=>PS ?_
 refine nx J1 (sr λ_ J2=>P2 ?_);refine FA 4 gG kE ?_;refine LA 0 Y4 ?_;refine PS ?_;exact nx J2 (ah (WK [0] (av rfl rfl ⟨rfl,rfl⟩)))
theorem B2(d m:Nat)(wv:Value)(ar dn:Bool)(lf n:Int):
 DT 48 #[(.pointer (some ⟨d,0,none⟩)),(.int .i64 (n))] T0 [aj d [(.map (some m)),wv,(.bool (ar)),(.int .i64 (lf)),(.bool (dn))] 140] (c9 (λ_ H=>H=[aj d [(.map (some m)),wv,(.bool true),(.int .i64 ((max n 0))),(.bool (dn))] 140])):=by
 refine BD 12 Tryz.func48 rfl rfl rfl λw0 F hF=>ad (P3 ?_)
 refine tp (xT rfl rfl rfl) ?_;refine PS ?_;refine FA 2 gG kE ?_;refine S0 0 kE ?_;refine PS ?_;refine FA 3 gG aO ?_;refine S0 0 aO ?_;exact ap (WK [0] (br rfl rfl))
theorem B1:
 DT 42 #[] T0 [] (c9 (λv H=>∃d m,v= .pointer (some ⟨d,0,none⟩)∧H=[aj d [(.map (some m)),(.slice none 0 0),(.bool false),(.int .i64 0),(.bool false)] 140,kx m ([])])):=by
 refine BD 4 Tryz.func42 rfl rfl rfl λw0 F hF=>sr λ_ J1=>PS ?_
 refine nx J1 (sr λ_ J2=>TL.makeMap (ab rfl) rfl rfl rfl (λm1=>BV #[(.map (some m1)),(.slice none 0 0),(.bool false),(.int .i64 0),(.bool false)] ?_));refine XB λb3=>?_
 refine PS ?_;exact nx J2 (ah (WK [0,0] (av rfl rfl ⟨b3,m1,rfl,rfl⟩)))
theorem cN:Tryz.prog.follows .mixedOrders=true:=by kernel_rfl
theorem om(d m:Nat)(wv:Value)(s:fC)(ar dn:Bool)(lf at':Int)(b:List UInt8)(hb:b.length=64):
 DT 93 #[(.pointer (some ⟨d,0,none⟩)),(.int .i64 (at')),(.agg (dw b).toArray)] T0 [aj d [(.map (some m)),wv,(.bool (ar)),(.int .i64 (lf)),(.bool (dn))] 140,kx m (sG s)] (c9 (λ_ H=>H=[aj d [(.map (some m)),wv,(.bool (ar)),(.int .i64 (lf)),(.bool (dn))] 140,kx m (sG (nu s at' b))])):=by
 refine BD 21 Tryz.func93 rfl rfl rfl λw0 F hF=>sr λ_ J1=>XY (dw b) λb5=>?_
 refine nx J1 (aa λ_ J2=>sr λ_ J3=>P2 ?_);refine FA 0 gG Eu ?_;refine LA 1 Cn ?_;refine tp (PV.mapNil rfl Cn rfl rfl) ?_;refine nx J3 (CN (qx J2 (D2 1 0 cN ?_)));refine PD 0 ?_;refine PD 1 ?_;refine FD 2 0 gG Eu ?_;refine LX 3 Cn (.map (some m)) ?_ (hc:=by exact rfl);refine PD 4 ?_;refine ta 5 rfl (aK (vs:=dw b) rfl q7 rfl kG rfl (λ_ h=>h.2.2.1) (by rw[bj];exact hb) (by rw[bb,aC (by rw[bj,hb];exact aQ _)])) ?_;refine AL 6 ?_;exact TL.mapUpdate (i:=2) (H':=[aj b5 (dw b) 173,aj d [(.map (some m)),wv,(.bool (ar)),(.int .i64 (lf)),(.bool (dn))] 140,kx m (sG (nu s at' b))]) (ab rfl) rfl rfl Cn Y3 rfl rfl rfl rfl rfl (congrArg (λq=>List.set _ 2 (kx m q)) (Ic _ _ _)) (EN (DN (WK [1,1] (br rfl rfl))))
theorem xE(d m:Nat)(wv:Value)(ws:fC)(ar dn:Bool)(lf at':Int)(x:Value)(bs:List UInt8)(hl:0≤lf∧lf≤9223372036854775807)(hw:ws.length≤1000000000):
 DT 95 #[(.pointer (some ⟨d,0,none⟩)),(.int .i64 (at')),x] (IsW x bs) [aj d [(.map (some m)),wv,(.bool (ar)),(.int .i64 (lf)),(.bool (dn))] 140,own wv (ws.length) (dy ws) 175 65] (c9 (λv H=>if at'<0∨2048≤at'∨64<bs.length then v= .int .i64 5∧H=[aj d [(.map (some m)),wv,(.bool (ar)),(.int .i64 (lf)),(.bool (dn))] 140,own wv (ws.length) (dy ws) 175 65]else if dn=true∨(ar=true∧lf=0)then v= .int .i64 4∧H=[aj d [(.map (some m)),wv,(.bool (ar)),(.int .i64 (lf)),(.bool true)] 140,own wv (ws.length) (dy ws) 175 65]else v= .int .i64 0∧∃wv',H=[aj d [(.map (some m)),wv',(.bool (ar)),(.int .i64 ((if ar=true then lf-1 else lf))),(.bool false)] 140,own wv' ((ws++[(at',eE bs)]).length) (dy (ws++[(at',eE bs)])) 175 65])):=by
 refine BD 64 Tryz.func95 rfl rfl rfl λw0 F hF=>sr λ_ J1=>PS ?_
 refine nx J1 (aa λ_ J2=>sr λ_ J3=>P2 ?_);refine ao ?_ ?_<;>intro h9;refine PS ?_;refine UT ?_;refine UT ?_;refine P2 ?_
 iterate 3 refine UT ?_
 refine PS ?_;refine nx J3 (CY (sr λ_ J4=>PS ?_));refine nx J4 (ah (ae (WK [0,0] (av rfl rfl ?_))));show(if _ then _ else _)
 first
  | (rw[if_pos (by omega)];exact⟨rfl,rfl⟩)
  | (rw[if_neg (by omega),if_pos (by simp_all)];exact⟨rfl,by simp_all<;>rfl⟩)
  | (rw[if_neg (by omega),if_neg (by simp_all)];exact⟨rfl,v61,by simp_all<;>rfl⟩)
 refine P3 ?_;refine ao ?_ ?_<;>intro h12;refine P2 ?_
 iterate 3 refine UT ?_
 refine PS ?_;refine nx J3 (CY (sr λ_ J5=>PS ?_));refine nx J5 (ah (ae (WK [0,0] (av rfl rfl ?_))));show(if _ then _ else _)
 first
  | (rw[if_pos (by omega)];exact⟨rfl,rfl⟩)
  | (rw[if_neg (by omega),if_pos (by simp_all)];exact⟨rfl,by simp_all<;>rfl⟩)
  | (rw[if_neg (by omega),if_neg (by simp_all)];exact⟨rfl,v61,by simp_all<;>rfl⟩)
 refine P3 ?_;refine tq (c8 rfl e8 rfl hF.len) ?_;refine PS ?_;refine ao ?_ ?_<;>intro h17;refine PS ?_;refine nx J3 (CY (sr λ_ J6=>PS ?_));refine nx J6 (ah (ae (WK [0,0] (av rfl rfl ?_))));show(if _ then _ else _)
 first
  | (rw[if_pos (by omega)];exact⟨rfl,rfl⟩)
  | (rw[if_neg (by omega),if_pos (by simp_all)];exact⟨rfl,by simp_all<;>rfl⟩)
  | (rw[if_neg (by omega),if_neg (by simp_all)];exact⟨rfl,v61,by simp_all<;>rfl⟩)
 refine PS ?_;refine nx J3 (CN (qx J2 (aa λ_ J7=>sr λ_ J8=>P2 ?_)));refine FA 2 gG kE ?_;refine LA 0 Y4 ?_;refine bc ?_ ?_<;>intro h22;refine P3 ?_;refine FA 3 gG aO ?_;refine LA 0 Y3 ?_;refine PS ?_;refine ao ?_ ?_<;>intro h28;refine PS ?_;refine nx J8 (CY (ad (P2 ?_)));refine FA 4 gG kE ?_;refine S0 0 kE ?_;refine nx J7 (aa λ_ J9=>sr λ_ J10=>P2 ?_);refine FA 4 gG kE ?_;refine LA 0 Y4 ?_;refine nx J10 (CY (sr λ_ J11=>PS ?_));refine nx J11 (ah (ae (WK [0,0] (av rfl rfl ?_))));show(if _ then _ else _)
 first
  | (rw[if_pos (by omega)];exact⟨rfl,rfl⟩)
  | (rw[if_neg (by omega),if_pos (by simp_all)];exact⟨rfl,by simp_all<;>rfl⟩)
  | (rw[if_neg (by omega),if_neg (by simp_all)];exact⟨rfl,v61,by simp_all<;>rfl⟩)
 refine PS ?_;refine nx J8 (CN (qx J7 (aa λ_ J12=>sr λ_ J13=>P2 ?_)));refine FA 4 gG kE ?_;refine LA 0 Y4 ?_;refine bc ?_ ?_<;>intro h36;refine nx J13 (CY (sr λ_ J14=>PS ?_));refine nx J14 (ah (ae (WK [0,0] (av rfl rfl ?_))));show(if _ then _ else _)
 first
  | (rw[if_pos (by omega)];exact⟨rfl,rfl⟩)
  | (rw[if_neg (by omega),if_pos (by simp_all)];exact⟨rfl,by simp_all<;>rfl⟩)
  | (rw[if_neg (by omega),if_neg (by simp_all)];exact⟨rfl,v61,by simp_all<;>rfl⟩)
 refine nx J13 (CN (qx J12 (aa λ_ J15=>sr λ_ J16=>P2 ?_)));refine FA 2 gG kE ?_;refine LA 0 Y4 ?_;refine bc ?_ ?_<;>intro h40;refine nx J16 (CY (ad (P2 ?_)));refine FA 3 gG aO ?_;refine LA 0 Y3 ?_;refine tp (ik rfl rfl rfl (bG (by omega) (by omega))) ?_;refine PS ?_;refine FA 3 gG aO ?_;refine S0 0 aO ?_;refine nx J15 (sr λ_ J17=>PS ?_);refine BV (((.int .i64 (at'))::List.replicate 64 (.int .u8 0)).toArray) ?_;refine XA Fg λb7=>?_
 refine bL (vs:=((.int .i64 (at'))::List.replicate 64 (.int .u8 0))) (i:=0) (ab rfl) rfl rfl rfl rfl rfl lS (by simp[Value.oneCell']) rfl rfl (IZ rfl) rfl rfl (nx J17 (sr λ_ J18=>FA 1 ou kG ?_));refine tp (m9 rfl q7 js rfl) ?_;refine PS ?_;refine LK (i:=0) (m:=bs.length) (news:=(dw bs)) (H':=[aj b7 (cU (at',eE bs)) 175,aj d [(.map (some m)),wv,(.bool (ar)),(.int .i64 (lf-1)),(.bool (dn))] 140,own wv (ws.length) (dy ws) 175 65]) (ab rfl) rfl rfl rfl e8 js rfl rfl rfl rfl (λ_ _=>hF.src (λ_ h=>dG h)) (eB _) (by show 1+min bs.length 64≤65;omega) (y2 (by omega)) rfl (nx J18 (aa λ_ J19=>D1 0 cN ?_));refine PD 0 ?_;refine PD 1 ?_;refine PD 2 ?_;refine FD 3 1 gG gy ?_;refine ta 5 rfl (aK (vs:=cU (at',eE bs)) rfl ou rfl lS rfl (λ_ h=>h.2.1) (cn (dq (by omega))) (by rw[bb,aC (by rw[(cn (dq (by omega)))];exact aQ _)])) ?_;refine cx [4,6] (by kernel_rfl) rfl (aE rfl ?_ ?_);refine LA 1 iC ?_;refine EN (AL 6 ?_);refine aL (cells:=(cU (at',eE bs)).toArray) (ab rfl) rfl rfl rfl iC lU rfl rfl rfl (je (cn (dq (by omega))) (by simp)) (λb60=>?_);change TL _ _ _ _ _ _ _ _ _ [aj b60 (cU (at',eE bs)) 175,aj b7 (cU (at',eE bs)) 175,aj d [(.map (some m)),wv,(.bool (ar)),(.int .i64 (lf-1)),(.bool (dn))] 140,own wv (ws.length) (dy ws) 175 65];refine EN (AL 7 ?_)
 refine bO (k:=3) (news:=cU (at',eE bs)) (nn':=(ws++[(at',eE bs)]).length) (xs':=dy (ws++[(at',eE bs)])) (ab rfl) rfl rfl rfl iC lU rfl rfl rfl rfl rfl rfl (λ_ _=>fB (cn (dq (by omega))) (RO 0) (by rw[bb,aC (aQ _)])) (io _) (by simp only[maxLen];omega) (by omega) (by simp) (by simp[dy]) (λv61 ov61=>EN (PD 8 ?_));refine FD 9 1 gG gy ?_;refine AL 10 ?_;refine bB (i:=2) (ab rfl) rfl rfl rfl rfl ov61 gy rfl rfl (lb rfl) rfl rfl (EN (DN (ac J19 (sr λ_ J20=>PS ?_))));refine nx J20 (ah (WK [2,2] (av rfl rfl ?_)));show(if _ then _ else _)
 first
  | (rw[if_pos (by omega)];exact⟨rfl,rfl⟩)
  | (rw[if_neg (by omega),if_pos (by simp_all)];exact⟨rfl,by simp_all<;>rfl⟩)
  | (rw[if_neg (by omega),if_neg (by simp_all)];exact⟨rfl,v61,by simp_all<;>rfl⟩)
 refine aE rfl ?_ ?_;refine aL (cells:=(cU (at',eE bs)).toArray) (ab rfl) rfl rfl rfl iC lU rfl rfl rfl (je (cn (dq (by omega))) (by simp)) (λb60=>?_);change TL _ _ _ _ _ _ _ _ _ [aj b60 (cU (at',eE bs)) 175,aj b7 (cU (at',eE bs)) 175,aj d [(.map (some m)),wv,(.bool (ar)),(.int .i64 (lf-1)),(.bool (dn))] 140,own wv (ws.length) (dy ws) 175 65];refine EN (AL 4 ?_);refine LA 2 iC ?_;refine EN (AL 7 ?_);refine bO (k:=3) (news:=cU (at',eE bs)) (nn':=(ws++[(at',eE bs)]).length) (xs':=dy (ws++[(at',eE bs)])) (ab rfl) rfl rfl rfl iC lU rfl rfl rfl rfl rfl rfl (λ_ _=>fB (cn (dq (by omega))) (RO 0) (by rw[bb,aC (aQ _)])) (io _) (by simp only[maxLen];omega) (by omega) (by simp) (by simp[dy]) (λv61 ov61=>EN (PD 8 ?_));refine FD 9 1 gG gy ?_;refine AL 10 ?_;refine bB (i:=2) (ab rfl) rfl rfl rfl rfl ov61 gy rfl rfl (lb rfl) rfl rfl (EN (DN (ac J19 (sr λ_ J21=>PS ?_))));refine nx J21 (ah (WK [2,2] (av rfl rfl ?_)));show(if _ then _ else _)
 first
  | (rw[if_pos (by omega)];exact⟨rfl,rfl⟩)
  | (rw[if_neg (by omega),if_pos (by simp_all)];exact⟨rfl,by simp_all<;>rfl⟩)
  | (rw[if_neg (by omega),if_neg (by simp_all)];exact⟨rfl,v61,by simp_all<;>rfl⟩)
 exact bz;refine nx J16 (CN (qx J15 (sr λ_ J22=>PS ?_)));refine BV (((.int .i64 (at'))::List.replicate 64 (.int .u8 0)).toArray) ?_;refine XA Fg λb7=>?_
 refine bL (vs:=((.int .i64 (at'))::List.replicate 64 (.int .u8 0))) (i:=0) (ab rfl) rfl rfl rfl rfl rfl lS (by simp[Value.oneCell']) rfl rfl (IZ rfl) rfl rfl (nx J22 (sr λ_ J23=>FA 1 ou kG ?_));refine tp (m9 rfl q7 js rfl) ?_;refine PS ?_;refine LK (i:=0) (m:=bs.length) (news:=(dw bs)) (H':=[aj b7 (cU (at',eE bs)) 175,aj d [(.map (some m)),wv,(.bool (ar)),(.int .i64 (lf)),(.bool (dn))] 140,own wv (ws.length) (dy ws) 175 65]) (ab rfl) rfl rfl rfl e8 js rfl rfl rfl rfl (λ_ _=>hF.src (λ_ h=>dG h)) (eB _) (by show 1+min bs.length 64≤65;omega) (y2 (by omega)) rfl (nx J23 (aa λ_ J24=>D1 0 cN ?_));refine PD 0 ?_;refine PD 1 ?_;refine PD 2 ?_;refine FD 3 1 gG gy ?_;refine ta 5 rfl (aK (vs:=cU (at',eE bs)) rfl ou rfl lS rfl (λ_ h=>h.2.1) (cn (dq (by omega))) (by rw[bb,aC (by rw[(cn (dq (by omega)))];exact aQ _)])) ?_;refine cx [4,6] (by kernel_rfl) rfl (aE rfl ?_ ?_);refine LA 1 iC ?_;refine EN (AL 6 ?_);refine aL (cells:=(cU (at',eE bs)).toArray) (ab rfl) rfl rfl rfl iC lU rfl rfl rfl (je (cn (dq (by omega))) (by simp)) (λb60=>?_);change TL _ _ _ _ _ _ _ _ _ [aj b60 (cU (at',eE bs)) 175,aj b7 (cU (at',eE bs)) 175,aj d [(.map (some m)),wv,(.bool (ar)),(.int .i64 (lf)),(.bool (dn))] 140,own wv (ws.length) (dy ws) 175 65];refine EN (AL 7 ?_)
 refine bO (k:=3) (news:=cU (at',eE bs)) (nn':=(ws++[(at',eE bs)]).length) (xs':=dy (ws++[(at',eE bs)])) (ab rfl) rfl rfl rfl iC lU rfl rfl rfl rfl rfl rfl (λ_ _=>fB (cn (dq (by omega))) (RO 0) (by rw[bb,aC (aQ _)])) (io _) (by simp only[maxLen];omega) (by omega) (by simp) (by simp[dy]) (λv61 ov61=>EN (PD 8 ?_));refine FD 9 1 gG gy ?_;refine AL 10 ?_;refine bB (i:=2) (ab rfl) rfl rfl rfl rfl ov61 gy rfl rfl (lb rfl) rfl rfl (EN (DN (ac J24 (sr λ_ J25=>PS ?_))));refine nx J25 (ah (WK [2,2] (av rfl rfl ?_)));show(if _ then _ else _)
 first
  | (rw[if_pos (by omega)];exact⟨rfl,rfl⟩)
  | (rw[if_neg (by omega),if_pos (by simp_all)];exact⟨rfl,by simp_all<;>rfl⟩)
  | (rw[if_neg (by omega),if_neg (by simp_all)];exact⟨rfl,v61,by simp_all<;>rfl⟩)
 refine aE rfl ?_ ?_;refine aL (cells:=(cU (at',eE bs)).toArray) (ab rfl) rfl rfl rfl iC lU rfl rfl rfl (je (cn (dq (by omega))) (by simp)) (λb60=>?_);change TL _ _ _ _ _ _ _ _ _ [aj b60 (cU (at',eE bs)) 175,aj b7 (cU (at',eE bs)) 175,aj d [(.map (some m)),wv,(.bool (ar)),(.int .i64 (lf)),(.bool (dn))] 140,own wv (ws.length) (dy ws) 175 65];refine EN (AL 4 ?_);refine LA 2 iC ?_;refine EN (AL 7 ?_);refine bO (k:=3) (news:=cU (at',eE bs)) (nn':=(ws++[(at',eE bs)]).length) (xs':=dy (ws++[(at',eE bs)])) (ab rfl) rfl rfl rfl iC lU rfl rfl rfl rfl rfl rfl (λ_ _=>fB (cn (dq (by omega))) (RO 0) (by rw[bb,aC (aQ _)])) (io _) (by simp only[maxLen];omega) (by omega) (by simp) (by simp[dy]) (λv61 ov61=>EN (PD 8 ?_));refine FD 9 1 gG gy ?_;refine AL 10 ?_;refine bB (i:=2) (ab rfl) rfl rfl rfl rfl ov61 gy rfl rfl (lb rfl) rfl rfl (EN (DN (ac J24 (sr λ_ J26=>PS ?_))));refine nx J26 (ah (WK [2,2] (av rfl rfl ?_)));show(if _ then _ else _)
 first
  | (rw[if_pos (by omega)];exact⟨rfl,rfl⟩)
  | (rw[if_neg (by omega),if_pos (by simp_all)];exact⟨rfl,by simp_all<;>rfl⟩)
  | (rw[if_neg (by omega),if_neg (by simp_all)];exact⟨rfl,v61,by simp_all<;>rfl⟩)
 exact bz;refine PS ?_
 iterate 5 refine UF ?_
 refine PS ?_;refine nx J8 (CN (qx J7 (aa λ_ J27=>sr λ_ J28=>P2 ?_)));refine FA 4 gG kE ?_;refine LA 0 Y4 ?_;refine bc ?_ ?_<;>intro h36;refine nx J28 (CY (sr λ_ J29=>PS ?_));refine nx J29 (ah (ae (WK [0,0] (av rfl rfl ?_))));show(if _ then _ else _)
 first
  | (rw[if_pos (by omega)];exact⟨rfl,rfl⟩)
  | (rw[if_neg (by omega),if_pos (by simp_all)];exact⟨rfl,by simp_all<;>rfl⟩)
  | (rw[if_neg (by omega),if_neg (by simp_all)];exact⟨rfl,v61,by simp_all<;>rfl⟩)
 refine nx J28 (CN (qx J27 (aa λ_ J30=>sr λ_ J31=>P2 ?_)));refine FA 2 gG kE ?_;refine LA 0 Y4 ?_;refine bc ?_ ?_<;>intro h40;refine nx J31 (CY (ad (P2 ?_)));refine FA 3 gG aO ?_;refine LA 0 Y3 ?_;refine tp (ik rfl rfl rfl (bG (by omega) (by omega))) ?_;refine PS ?_;refine FA 3 gG aO ?_;refine S0 0 aO ?_;refine nx J30 (sr λ_ J32=>PS ?_);refine BV (((.int .i64 (at'))::List.replicate 64 (.int .u8 0)).toArray) ?_;refine XA Fg λb7=>?_
 refine bL (vs:=((.int .i64 (at'))::List.replicate 64 (.int .u8 0))) (i:=0) (ab rfl) rfl rfl rfl rfl rfl lS (by simp[Value.oneCell']) rfl rfl (IZ rfl) rfl rfl (nx J32 (sr λ_ J33=>FA 1 ou kG ?_));refine tp (m9 rfl q7 js rfl) ?_;refine PS ?_;refine LK (i:=0) (m:=bs.length) (news:=(dw bs)) (H':=[aj b7 (cU (at',eE bs)) 175,aj d [(.map (some m)),wv,(.bool (ar)),(.int .i64 (lf-1)),(.bool (dn))] 140,own wv (ws.length) (dy ws) 175 65]) (ab rfl) rfl rfl rfl e8 js rfl rfl rfl rfl (λ_ _=>hF.src (λ_ h=>dG h)) (eB _) (by show 1+min bs.length 64≤65;omega) (y2 (by omega)) rfl (nx J33 (aa λ_ J34=>D1 0 cN ?_));refine PD 0 ?_;refine PD 1 ?_;refine PD 2 ?_;refine FD 3 1 gG gy ?_;refine ta 5 rfl (aK (vs:=cU (at',eE bs)) rfl ou rfl lS rfl (λ_ h=>h.2.1) (cn (dq (by omega))) (by rw[bb,aC (by rw[(cn (dq (by omega)))];exact aQ _)])) ?_;refine cx [4,6] (by kernel_rfl) rfl (aE rfl ?_ ?_);refine LA 1 iC ?_;refine EN (AL 6 ?_);refine aL (cells:=(cU (at',eE bs)).toArray) (ab rfl) rfl rfl rfl iC lU rfl rfl rfl (je (cn (dq (by omega))) (by simp)) (λb60=>?_);change TL _ _ _ _ _ _ _ _ _ [aj b60 (cU (at',eE bs)) 175,aj b7 (cU (at',eE bs)) 175,aj d [(.map (some m)),wv,(.bool (ar)),(.int .i64 (lf-1)),(.bool (dn))] 140,own wv (ws.length) (dy ws) 175 65];refine EN (AL 7 ?_)
 refine bO (k:=3) (news:=cU (at',eE bs)) (nn':=(ws++[(at',eE bs)]).length) (xs':=dy (ws++[(at',eE bs)])) (ab rfl) rfl rfl rfl iC lU rfl rfl rfl rfl rfl rfl (λ_ _=>fB (cn (dq (by omega))) (RO 0) (by rw[bb,aC (aQ _)])) (io _) (by simp only[maxLen];omega) (by omega) (by simp) (by simp[dy]) (λv61 ov61=>EN (PD 8 ?_));refine FD 9 1 gG gy ?_;refine AL 10 ?_;refine bB (i:=2) (ab rfl) rfl rfl rfl rfl ov61 gy rfl rfl (lb rfl) rfl rfl (EN (DN (ac J34 (sr λ_ J35=>PS ?_))));refine nx J35 (ah (WK [2,2] (av rfl rfl ?_)));show(if _ then _ else _)
 first
  | (rw[if_pos (by omega)];exact⟨rfl,rfl⟩)
  | (rw[if_neg (by omega),if_pos (by simp_all)];exact⟨rfl,by simp_all<;>rfl⟩)
  | (rw[if_neg (by omega),if_neg (by simp_all)];exact⟨rfl,v61,by simp_all<;>rfl⟩)
 refine aE rfl ?_ ?_;refine aL (cells:=(cU (at',eE bs)).toArray) (ab rfl) rfl rfl rfl iC lU rfl rfl rfl (je (cn (dq (by omega))) (by simp)) (λb60=>?_);change TL _ _ _ _ _ _ _ _ _ [aj b60 (cU (at',eE bs)) 175,aj b7 (cU (at',eE bs)) 175,aj d [(.map (some m)),wv,(.bool (ar)),(.int .i64 (lf-1)),(.bool (dn))] 140,own wv (ws.length) (dy ws) 175 65];refine EN (AL 4 ?_);refine LA 2 iC ?_;refine EN (AL 7 ?_);refine bO (k:=3) (news:=cU (at',eE bs)) (nn':=(ws++[(at',eE bs)]).length) (xs':=dy (ws++[(at',eE bs)])) (ab rfl) rfl rfl rfl iC lU rfl rfl rfl rfl rfl rfl (λ_ _=>fB (cn (dq (by omega))) (RO 0) (by rw[bb,aC (aQ _)])) (io _) (by simp only[maxLen];omega) (by omega) (by simp) (by simp[dy]) (λv61 ov61=>EN (PD 8 ?_));refine FD 9 1 gG gy ?_;refine AL 10 ?_;refine bB (i:=2) (ab rfl) rfl rfl rfl rfl ov61 gy rfl rfl (lb rfl) rfl rfl (EN (DN (ac J34 (sr λ_ J36=>PS ?_))));refine nx J36 (ah (WK [2,2] (av rfl rfl ?_)));show(if _ then _ else _)
 first
  | (rw[if_pos (by omega)];exact⟨rfl,rfl⟩)
  | (rw[if_neg (by omega),if_pos (by simp_all)];exact⟨rfl,by simp_all<;>rfl⟩)
  | (rw[if_neg (by omega),if_neg (by simp_all)];exact⟨rfl,v61,by simp_all<;>rfl⟩)
 exact bz;refine nx J31 (CN (qx J30 (sr λ_ J37=>PS ?_)));refine BV (((.int .i64 (at'))::List.replicate 64 (.int .u8 0)).toArray) ?_;refine XA Fg λb7=>?_
 refine bL (vs:=((.int .i64 (at'))::List.replicate 64 (.int .u8 0))) (i:=0) (ab rfl) rfl rfl rfl rfl rfl lS (by simp[Value.oneCell']) rfl rfl (IZ rfl) rfl rfl (nx J37 (sr λ_ J38=>FA 1 ou kG ?_));refine tp (m9 rfl q7 js rfl) ?_;refine PS ?_;refine LK (i:=0) (m:=bs.length) (news:=(dw bs)) (H':=[aj b7 (cU (at',eE bs)) 175,aj d [(.map (some m)),wv,(.bool (ar)),(.int .i64 (lf)),(.bool (dn))] 140,own wv (ws.length) (dy ws) 175 65]) (ab rfl) rfl rfl rfl e8 js rfl rfl rfl rfl (λ_ _=>hF.src (λ_ h=>dG h)) (eB _) (by show 1+min bs.length 64≤65;omega) (y2 (by omega)) rfl (nx J38 (aa λ_ J39=>D1 0 cN ?_));refine PD 0 ?_;refine PD 1 ?_;refine PD 2 ?_;refine FD 3 1 gG gy ?_;refine ta 5 rfl (aK (vs:=cU (at',eE bs)) rfl ou rfl lS rfl (λ_ h=>h.2.1) (cn (dq (by omega))) (by rw[bb,aC (by rw[(cn (dq (by omega)))];exact aQ _)])) ?_;refine cx [4,6] (by kernel_rfl) rfl (aE rfl ?_ ?_);refine LA 1 iC ?_;refine EN (AL 6 ?_);refine aL (cells:=(cU (at',eE bs)).toArray) (ab rfl) rfl rfl rfl iC lU rfl rfl rfl (je (cn (dq (by omega))) (by simp)) (λb60=>?_);change TL _ _ _ _ _ _ _ _ _ [aj b60 (cU (at',eE bs)) 175,aj b7 (cU (at',eE bs)) 175,aj d [(.map (some m)),wv,(.bool (ar)),(.int .i64 (lf)),(.bool (dn))] 140,own wv (ws.length) (dy ws) 175 65];refine EN (AL 7 ?_)
 refine bO (k:=3) (news:=cU (at',eE bs)) (nn':=(ws++[(at',eE bs)]).length) (xs':=dy (ws++[(at',eE bs)])) (ab rfl) rfl rfl rfl iC lU rfl rfl rfl rfl rfl rfl (λ_ _=>fB (cn (dq (by omega))) (RO 0) (by rw[bb,aC (aQ _)])) (io _) (by simp only[maxLen];omega) (by omega) (by simp) (by simp[dy]) (λv61 ov61=>EN (PD 8 ?_));refine FD 9 1 gG gy ?_;refine AL 10 ?_;refine bB (i:=2) (ab rfl) rfl rfl rfl rfl ov61 gy rfl rfl (lb rfl) rfl rfl (EN (DN (ac J39 (sr λ_ J40=>PS ?_))));refine nx J40 (ah (WK [2,2] (av rfl rfl ?_)));show(if _ then _ else _)
 first
  | (rw[if_pos (by omega)];exact⟨rfl,rfl⟩)
  | (rw[if_neg (by omega),if_pos (by simp_all)];exact⟨rfl,by simp_all<;>rfl⟩)
  | (rw[if_neg (by omega),if_neg (by simp_all)];exact⟨rfl,v61,by simp_all<;>rfl⟩)
 refine aE rfl ?_ ?_;refine aL (cells:=(cU (at',eE bs)).toArray) (ab rfl) rfl rfl rfl iC lU rfl rfl rfl (je (cn (dq (by omega))) (by simp)) (λb60=>?_);change TL _ _ _ _ _ _ _ _ _ [aj b60 (cU (at',eE bs)) 175,aj b7 (cU (at',eE bs)) 175,aj d [(.map (some m)),wv,(.bool (ar)),(.int .i64 (lf)),(.bool (dn))] 140,own wv (ws.length) (dy ws) 175 65];refine EN (AL 4 ?_);refine LA 2 iC ?_;refine EN (AL 7 ?_);refine bO (k:=3) (news:=cU (at',eE bs)) (nn':=(ws++[(at',eE bs)]).length) (xs':=dy (ws++[(at',eE bs)])) (ab rfl) rfl rfl rfl iC lU rfl rfl rfl rfl rfl rfl (λ_ _=>fB (cn (dq (by omega))) (RO 0) (by rw[bb,aC (aQ _)])) (io _) (by simp only[maxLen];omega) (by omega) (by simp) (by simp[dy]) (λv61 ov61=>EN (PD 8 ?_));refine FD 9 1 gG gy ?_;refine AL 10 ?_;refine bB (i:=2) (ab rfl) rfl rfl rfl rfl ov61 gy rfl rfl (lb rfl) rfl rfl (EN (DN (ac J39 (sr λ_ J41=>PS ?_))));refine nx J41 (ah (WK [2,2] (av rfl rfl ?_)));show(if _ then _ else _)
 first
  | (rw[if_pos (by omega)];exact⟨rfl,rfl⟩)
  | (rw[if_neg (by omega),if_pos (by simp_all)];exact⟨rfl,by simp_all<;>rfl⟩)
  | (rw[if_neg (by omega),if_neg (by simp_all)];exact⟨rfl,v61,by simp_all<;>rfl⟩)
 exact bz
theorem tl(d m:Nat)(wv:Value)(ar:Bool)(lf:Int):
 DT 96 #[(.pointer (some ⟨d,0,none⟩))] T0 [aj d [(.map (some m)),wv,(.bool (ar)),(.int .i64 (lf)),(.bool true)] 140] (RI (.int .i64 4) [aj d [(.map (some m)),wv,(.bool (ar)),(.int .i64 (lf)),(.bool true)] 140]):=by
 refine BD 28 Tryz.func96 rfl rfl rfl λw0 F hF=>sr λ_ J1=>PS ?_
 refine nx J1 (aa λ_ J2=>sr λ_ J3=>P2 ?_);refine FA 4 gG kE ?_;refine LA 0 Y4 ?_;refine nx J3 (CY (sr λ_ J4=>PS ?_));exact nx J4 (ah (ae (WK [0] (av rfl rfl ⟨rfl,rfl⟩))))
theorem wO(d m:Nat)(wv:Value)(s ws:fC)(ar:Bool)(lf:Int)(hw:Whole ws):
 DT 96 #[(.pointer (some ⟨d,0,none⟩))] T0 [aj d [(.map (some m)),wv,(.bool (ar)),(.int .i64 (lf)),(.bool false)] 140,kx m (sG s),own wv (ws.length) (dy ws) 175 65] (RI (.int .i64 0) [aj d [(.map (some m)),(.slice none 0 0),(.bool (ar)),(.int .i64 (lf)),(.bool false)] 140,kx m (sG (BF s ws ws.length)),own (.slice none 0 0) 0 [] 175 65]):=by
 refine BD 28 Tryz.func96 rfl rfl rfl λw0 F hF=>sr λ_ J1=>gj 2 rfl rfl (λhwl _=>PS ?_)
 refine nx J1 (aa λ_ J2=>sr λ_ J3=>P2 ?_);refine FA 4 gG kE ?_;refine LA 0 Y4 ?_;refine nx J3 (CN (qx J2 (aa λ_ J4=>sr λ_ J5=>P2 ?_)));refine FA 1 gG gy ?_;refine LA 0 iC ?_;refine tp (c8 rfl iC rfl hwl) ?_;refine PS ?_;refine nx J5 (am ?_)
 refine bu (α:=(Nat)×(fC)) (λ⟨k,s'⟩=>k≤ws.length∧s'=BF s ws k) (λ⟨k,s'⟩=>[(0,(.pointer (some ⟨d,0,none⟩))),(2,(.int .i64 0)),(12,wv),(13,(.int .i64 (((ws.length:Nat):Int)))),(14,(.int .i64 (((k:Nat):Int))))]) (λ⟨k,s'⟩=>[aj d [(.map (some m)),wv,(.bool (ar)),(.int .i64 (lf)),(.bool false)] 140,kx m (sG s'),own wv (ws.length) (dy ws) 175 65]) (λ⟨k,s'⟩=>ws.length-k) (0,s)
  ⟨aN _,rfl⟩ SB
  (λ_ s=>s) (λ⟨k,s'⟩ hinv=>?_)
 obtain⟨hk,hs'⟩:=hinv;refine sr λ_ J6=>PS ?_
 refine ao ?_ ?_<;>intro h15;refine ij 2 rfl rfl (by omega) (λg cap hv hcap=>nx J6 (aa λ_ J7=>CY (qx J7 (aa λ_ J8=>am (sr λ_ J9=>tp (bg (r:=k*65) hv rfl iC lS rfl rfl (by omega) (by omega) (by omega)) ?_)))));refine tp (Cx (vs:=cU (kC ws k)) rfl ou rfl lS rfl (fI 2 rfl hv rfl) (cn (dD hw (by omega))) (pY hw (by omega))) ?_;refine XA Fg λb4=>?_
 refine bL (vs:=cU (kC ws k)) (i:=0) (ab rfl) rfl rfl rfl rfl rfl (by rw[cn (dD hw (by omega))];exact lS) (io _) rfl rfl (by rw[cn (dD hw (by omega))];exact aQ _) (iH (Eq.trans (rfl:_=65) (by rw[cn (dD hw (by omega))]:(cU (kC ws k)).length=65).symm)) rfl (nx J9 (ad (PS ?_)));refine FA 0 ou aO ?_;refine LA 0 Y3 ?_;refine FA 1 ou kG ?_;refine tp (aK (vs:=dw (kC ws k).2) rfl q7 rfl kG rfl (RO 0) (by rw[bj];exact dD hw (by omega)) (uX (dD hw (by omega)))) ?_;refine CR KV (om d m wv s' ar false lf ((kC ws k).1) (kC ws k).2 (by exact dD hw (by omega))) (SM [1,1]) λvR HR hR=>?_
 subst hR;refine ap (af (ac J8 (ad (AD ?_))));refine PS ?_;refine ap ?_
 exact aJ ((k+1,nu s' (kC ws k).1 (kC ws k).2):(Nat)×(fC)) ⟨by omega,by rw[hs'];rfl⟩ (by show ws.length- (k+1)<ws.length-k;omega)
  SB
  (λ_ s=>ak [0,0,1] rfl s)
 refine nx J6 (aa λ_ J10=>CN (aV (ay (ay (bh (ac J4 (sr λ_ J11=>P2 ?_)))))));refine FA 1 gG gy ?_;refine S0 0 gy ?_;refine nx J11 (sr λ_ J12=>PS ?_);refine nx J12 (ah (aF (H':=[aj d [(.map (some m)),(.slice none 0 0),(.bool (ar)),(.int .i64 (lf)),(.bool false)] 140,kx m (sG s'),own (.slice none 0 0) 0 [] 175 65]) (cZ _) (λ_ s=>dY (List.Perm.trans (List.Perm.swap _ _ _) (List.Perm.cons _ (List.Perm.swap _ _ _))) (fq 175 65 (ak [0,0] rfl s))) (av rfl rfl ?_)));obtain rfl:k=ws.length:=by omega
 subst hs';exact⟨rfl,rfl⟩
theorem zW(d m:Nat)(wv:Value)(s ws:fC)(ar dn:Bool)(lf at':Int)(hs2:Whole s)(hw:Whole ws)(hb:ws.length≤1000000000):
 DT 104 #[(.pointer (some ⟨d,0,none⟩)),(.int .i64 (at'))] T0 [aj d [(.map (some m)),wv,(.bool (ar)),(.int .i64 (lf)),(.bool (dn))] 140,kx m (sG s),own wv (ws.length) (dy ws) 175 65] (RI (FH (iJ s ws at' ws.length)) [aj d [(.map (some m)),wv,(.bool (ar)),(.int .i64 (lf)),(.bool (dn))] 140,kx m (sG s),own wv (ws.length) (dy ws) 175 65]):=by
 refine BD 40 Tryz.func104 rfl rfl rfl λw0 F hF=>sr λ_ J1=>gj 2 rfl rfl (λhwl _=>XA I2 λb4=>?_)
 refine nx J1 (aa λ_ J2=>sr λ_ J3=>P2 ?_);refine FA 1 gG gy ?_;refine LA 1 iC ?_;refine tp (c8 rfl iC rfl hwl) ?_;refine tp (ik rfl rfl rfl (bG (by omega) (by omega))) ?_;refine PS ?_;refine nx J3 (am ?_)
 refine bu (α:=(Int)) (λp=> -1≤p∧p<ws.length∧iJ s ws at' (p+1).toNat=iJ s ws at' ws.length) (λp=>[(0,(.pointer (some ⟨d,0,none⟩))),(1,(.int .i64 (at'))),(4,(.pointer (some ⟨b4,0,none⟩))),(5,(.int .i64 (p)))]) (λp=>[aj b4 [(.int .u8 0),(.int .u8 0),(.int .u8 0),(.int .u8 0),(.int .u8 0),(.int .u8 0),(.int .u8 0),(.int .u8 0),(.int .u8 0),(.int .u8 0),(.int .u8 0),(.int .u8 0),(.int .u8 0),(.int .u8 0),(.int .u8 0),(.int .u8 0),(.int .u8 0),(.int .u8 0),(.int .u8 0),(.int .u8 0),(.int .u8 0),(.int .u8 0),(.int .u8 0),(.int .u8 0),(.int .u8 0),(.int .u8 0),(.int .u8 0),(.int .u8 0),(.int .u8 0),(.int .u8 0),(.int .u8 0),(.int .u8 0),(.int .u8 0),(.int .u8 0),(.int .u8 0),(.int .u8 0),(.int .u8 0),(.int .u8 0),(.int .u8 0),(.int .u8 0),(.int .u8 0),(.int .u8 0),(.int .u8 0),(.int .u8 0),(.int .u8 0),(.int .u8 0),(.int .u8 0),(.int .u8 0),(.int .u8 0),(.int .u8 0),(.int .u8 0),(.int .u8 0),(.int .u8 0),(.int .u8 0),(.int .u8 0),(.int .u8 0),(.int .u8 0),(.int .u8 0),(.int .u8 0),(.int .u8 0),(.int .u8 0),(.int .u8 0),(.int .u8 0),(.int .u8 0)] 173,aj d [(.map (some m)),wv,(.bool (ar)),(.int .i64 (lf)),(.bool (dn))] 140,kx m (sG s),own wv (ws.length) (dy ws) 175 65]) (λp=>(p+1).toNat) (((ws.length:Nat):Int)-1)
  ⟨by omega,by omega,by congr 1;omega⟩ SB
  (λ_ s=>s) (λp hinv=>?_)
 obtain⟨hp1,hp2,hp3⟩:=hinv;refine aa λ_ J4=>sr λ_ J5=>P2 ?_
 refine ao ?_ ?_<;>intro h13;refine ij 3 rfl rfl (by omega) (λg cap hv hcap=>nx J5 (CY (qx J4 (aa λ_ J6=>am (sr λ_ J7=>P2 ?_)))));refine FA 1 gG gy ?_;refine LA 1 iC ?_;refine PS ?_;refine tp (bg (r:=p.toNat*65) hv rfl iC lS rfl rfl (by omega) (by omega) (by omega)) ?_;refine tp (aW (r:=p.toNat*65) rfl ou rfl aO rfl rfl) ?_;refine tp (bZ (v:=(.int .i64 ((kC ws p.toNat).1))) rfl Y3 rfl rfl (fI 3 rfl hv rfl) (Fl hw (by omega))) ?_;refine P2 ?_;refine ao ?_ ?_<;>intro h25;refine nx J7 (CY (sr λ_ J8=>P2 ?_));refine FA 1 gG gy ?_;refine LA 1 iC ?_;refine PS ?_;refine tp (bg (r:=p.toNat*65) hv rfl iC lS rfl rfl (by omega) (by omega) (by omega)) ?_;refine tp (aW (r:=p.toNat*65+1) rfl ou rfl kG rfl rfl) ?_;refine tp (Cx (vs:=dw (kC ws p.toNat).2) rfl q7 rfl kG rfl (fI 3 rfl hv rfl) (by rw[bj];exact dD hw (by omega)) (Fk hw (by omega))) ?_;refine bL (vs:=dw (kC ws p.toNat).2) (i:=0) (ab rfl) rfl rfl rfl rfl rfl (by rw[bj,dD hw (by omega)];exact kG) (eB _) rfl rfl (by rw[bj,dD hw (by omega)];exact aQ _) (iH (Eq.trans (rfl:_=64) (by rw[bj,dD hw (by omega)]:(dw (kC ws p.toNat).2).length=64).symm)) rfl (nx J8 (ah (aH (ae (ae (aH (ae (O4 (H':=[aj d [(.map (some m)),wv,(.bool (ar)),(.int .i64 (lf)),(.bool (dn))] 140,kx m (sG s),own wv (ws.length) (dy ws) 175 65]) rfl rfl q7 rfl kG (RO 0) (by rw[bj];exact dD hw (by omega)) (λ_ s=>ak [1,1,1] rfl s) ?_))))))));have e:=FT (s:=s) h25
 rw[show p.toNat+1=(p+1).toNat by omega,hp3]at e;exact⟨by rw[e];rfl,rfl⟩;refine nx J7 (CN (aM (af (ac J6 (ad (PS ?_))))));refine tp (ik rfl rfl rfl (bG (by omega) (by omega))) ?_;refine PS ?_;refine ap ?_
 exact aJ ((p-1):(Int)) ⟨by omega,by omega,by rw[←hp3,show(p+1).toNat=p.toNat+1 by omega,De h25];congr 1;omega⟩ (by show(p-1+1).toNat< (p+1).toNat;omega)
  SB
  (λ_ s=>s)
 refine nx J5 (CN (aV (ay (ay (bh (ac J2 (sr λ_ J9=>P2 ?_)))))));refine FA 0 gG Eu ?_;refine LA 1 Cn ?_;refine PS ?_;refine tp (PV.lookup rfl Cn Y3 I2 rfl rfl (RdM.own 2 rfl rfl) (BH _ _)) ?_;refine bL (vs:=dw (kM s at')) (i:=0) (ab rfl) rfl rfl rfl rfl rfl (by rw[bj,e4 hs2];exact kG) (eB _) rfl rfl (by rw[bj,e4 hs2];exact aQ _) (iH (Eq.trans (rfl:_=64) (by rw[bj,e4 hs2]:(dw (kM s at')).length=64).symm)) rfl (nx J9 (ah (O4 (H':=[aj d [(.map (some m)),wv,(.bool (ar)),(.int .i64 (lf)),(.bool (dn))] 140,kx m (sG s),own wv (ws.length) (dy ws) 175 65]) rfl rfl q7 rfl kG (RO 0) (by rw[bj];exact e4 hs2 _) (λ_ s=>ak [1,1,1] rfl s) ?_)));rw[show(p+1).toNat=0 by omega]at hp3;exact⟨by rw[←hp3];rfl,rfl⟩
theorem xF(d m:Nat)(wv:Value)(s ws:fC)(ar dn:Bool)(lf mask torn n:Int)(hs1:Whole s)(hw:Whole ws):
 DT 49 #[(.pointer (some ⟨d,0,none⟩)),(.int .i64 (mask)),(.int .i64 (torn)),(.int .i64 (n))] T0 [aj d [(.map (some m)),wv,(.bool (ar)),(.int .i64 (lf)),(.bool (dn))] 140,kx m (sG s),own wv (ws.length) (dy ws) 175 65] (c9 (λ_ H=>H=[aj d [(.map (some m)),(.slice none 0 0),(.bool false),(.int .i64 0),(.bool false)] 140,kx m (sG (mM mask torn (pH n) s ws ws.length)),own (.slice none 0 0) 0 [] 175 65])):=by
 refine BD 70 Tryz.func49 rfl rfl rfl λw0 F hF=>sr λ_ J1=>gj 2 rfl rfl (λhwl _=>PS ?_)
 refine tp (xT rfl rfl rfl) ?_;refine tp (kB (v':=(.int .i64 (((pH n:Nat):Int)))) (PV.minI rfl rfl rfl) (congrArg (Value.int .i64) (JL n))) ?_;refine PS ?_;refine nx J1 (aa λ_ J2=>sr λ_ J3=>P2 ?_);refine FA 1 gG gy ?_;refine LA 0 iC ?_;refine tp (c8 rfl iC rfl hwl) ?_;refine PS ?_;refine nx J3 (am ?_)
 refine bu (α:=(Nat)×(fC)) (λ⟨k,s'⟩=>k≤ws.length∧s'=mM mask torn (pH n) s ws k) (λ⟨k,s'⟩=>[(0,(.pointer (some ⟨d,0,none⟩))),(1,(.int .i64 (mask))),(2,(.int .i64 (torn))),(3,(.int .i64 (((pH n:Nat):Int)))),(17,wv),(18,(.int .i64 (((ws.length:Nat):Int)))),(19,(.int .i64 (((k:Nat):Int))))]) (λ⟨k,s'⟩=>[aj d [(.map (some m)),wv,(.bool (ar)),(.int .i64 (lf)),(.bool (dn))] 140,kx m (sG s'),own wv (ws.length) (dy ws) 175 65]) (λ⟨k,s'⟩=>ws.length-k) (0,s)
  ⟨aN _,rfl⟩ SB
  (λ_ s=>s) (λ⟨k,s'⟩ hinv=>?_)
 obtain⟨hk,hs'⟩:=hinv;have hs2:Whole s':=by rw[hs'];exact hs1.crash hw k hk
 have hcn:=sx n;refine sr λ_ J4=>PS ?_
 refine ao ?_ ?_<;>intro h20;refine ij 2 rfl rfl (by omega) (λg cap hv hcap=>nx J4 (aa λ_ J5=>CY (qx J5 (aa λ_ J6=>am (sr λ_ J7=>PS ?_)))));refine tp (bg (r:=k*65) hv rfl iC lS rfl rfl (by omega) (by omega) (by omega)) ?_;refine tp (Cx (vs:=cU (kC ws k)) rfl ou rfl lS rfl (fI 2 rfl hv rfl) (cn (dD hw (by omega))) (pY hw (by omega))) ?_;refine XA Fg λb9=>?_
 refine PS ?_;refine bL (vs:=cU (kC ws k)) (i:=0) (ab rfl) rfl rfl rfl rfl rfl (by rw[cn (dD hw (by omega))];exact lS) (io _) rfl rfl (by rw[cn (dD hw (by omega))];exact aQ _) (iH (Eq.trans (rfl:_=65) (by rw[cn (dD hw (by omega))]:(cU (kC ws k)).length=65).symm)) rfl (nx J7 (sr λ_ J8=>P3 ?_));refine ao ?_ ?_<;>intro h26;refine nx J8 (CY (aa λ_ J9=>oX (λw=>Frm F w∧w.heap[d]?=some (.cells ([(.map (some m)),wv,(.bool (ar)),(.int .i64 (lf)),(.bool (dn))]).toArray 140 (0,0))∧Hm m (sG s') w∧w.heap[b9]?=some (.cells (cU (kC ws k)).toArray 175 (0,0))∧True) cN rfl (λ_ s=>⟨dG s,s.block 1 (lb rfl) rfl,s.map 2 rfl rfl,s.block 0 (lb rfl) rfl,trivial⟩) (PD 0 ?_)));refine PD 1 ?_;refine FD 2 0 gG Eu ?_;refine LX 3 Cn (.map (some m)) ?_ (hc:=by exact rfl);refine FD 4 0 ou aO ?_;refine LX 5 Y3 (.int .i64 ((kC ws k).1)) ?_ (hc:=by exact rfl);refine ta 6 rfl (PV.lookup rfl Cn Y3 I2 rfl rfl (λ_ h=>h.2.2.1) (BH _ _)) ?_;refine AL 7 ?_;refine XA I2 λb10=>?_
 refine ap (ka (λ_ s=>⟨dG s,s.block 2 (lb rfl) rfl,s.map 3 rfl rfl,s.block 1 (lb rfl) rfl,trivial⟩) (AL 8 ?_));refine bL (vs:=dw (kM s' ((kC ws k).1))) (i:=0) (ab rfl) rfl rfl rfl rfl rfl (by rw[bj,e4 hs2];exact kG) (eB _) rfl rfl (by rw[bj,e4 hs2];exact aQ _) (iH (Eq.trans (rfl:_=64) (by rw[bj,e4 hs2]:(dw (kM s' ((kC ws k).1))).length=64).symm)) rfl (ap (ka (λ_ s=>⟨dG s,s.block 2 (lb rfl) rfl,s.map 3 rfl rfl,s.block 1 (lb rfl) rfl,trivial⟩) (DN (ac J9 (aa λ_ J10=>D1 1 cN ?_)))));refine PD 0 ?_;refine ta 1 rfl (OP (k:=pH n) rfl q7 js rfl rfl (by omega) (by omega) rfl) ?_;refine FD 2 1 ou kG ?_;refine PD 3 ?_;refine ta 4 rfl (OP (k:=pH n) rfl q7 js rfl rfl (by omega) (by omega) rfl) ?_;refine AL 5 ?_;refine LK (i:=0) (m:=pH n) (news:=((dw (kC ws k).2).take (pH n))) (H':=[aj b10 (dw (rC (kM s' ((kC ws k).1)) (kC ws k).2 (pH n))) 173,aj b9 (cU (kC ws k)) 175,aj d [(.map (some m)),wv,(.bool (ar)),(.int .i64 (lf)),(.bool (dn))] 140,kx m (sG s'),own wv (ws.length) (dy ws) 175 65]) (ab rfl) rfl rfl rfl e8 js rfl rfl rfl rfl (λ_ _=>fB (by rw[bq,bj,dD hw (by omega)];have:=sx n;omega) (RO 1) (by rw[bq,bj,dD hw (by omega)];exact Ax (dD hw (by omega)) (sx n))) (λu hu=>eB _ u (pV hu)) (by rw[bj,e4 hs2];have:=sx n;omega) (Fs (sx n) (e4 hs2 _) (dD hw (by omega)) (by omega)) rfl (EN (DN (ac J10 (ad (PS ?_)))));refine FA 0 ou aO ?_;refine LA 1 Y3 ?_
 refine tp (aK (vs:=dw (rC (kM s' ((kC ws k).1)) (kC ws k).2 (pH n))) rfl q7 rfl kG rfl (RO 0) (by rw[bj];exact p2 (e4 hs2 _) (dD hw (by omega))) (vi (by rw[bj];exact p2 (e4 hs2 _) (dD hw (by omega))))) ?_;refine CR KV (om d m wv s' ar (dn) lf ((kC ws k).1) (rC (kM s' ((kC ws k).1)) (kC ws k).2 (pH n)) (by exact p2 (e4 hs2 _) (dD hw (by omega)))) (SM [2,2]) λvR HR hR=>?_
 subst hR;refine ap (af (ac J6 (ad (AD ?_))));refine PS ?_;refine ap ?_
 exact aJ ((k+1,nu s' (kC ws k).1 (rC (kM s' (kC ws k).1) (kC ws k).2 (pH n))):(Nat)×(fC)) ⟨by omega,by rw[hs',mM,mm,if_pos h26]⟩ (by show ws.length- (k+1)<ws.length-k;omega)
  SB
  (λ_ s=>ak [0,0,2] rfl s)
 refine nx J8 (CN (sr λ_ J11=>P2 ?_));refine tp (PV.rem (r:=((k%32:Nat):Int)) rfl rfl rfl (by omega) (by rw[show(32:Int)=((32:Nat):Int)from rfl,←Int.ofNat_tmod])) ?_;refine tp (gM (r:=mask.fdiv (2^ (k%32))) rfl rfl rfl (by omega) (by congr 2;show min ((k%32:Nat):Int).toNat 64=k%32;omega)) ?_;refine tp (iD (r:=mask.fdiv (2^ (k%32))%2) rfl rfl rfl (OG _)) ?_;refine PS ?_;refine ao ?_ ?_<;>intro h50;refine nx J11 (CY (ad (PS ?_)));refine FA 0 ou aO ?_;refine LA 0 Y3 ?_;refine FA 1 ou kG ?_;refine tp (aK (vs:=dw (kC ws k).2) rfl q7 rfl kG rfl (RO 0) (by rw[bj];exact dD hw (by omega)) (uX (dD hw (by omega)))) ?_;refine CR KV (om d m wv s' ar (dn) lf ((kC ws k).1) (kC ws k).2 (by exact dD hw (by omega))) (SM [1,1]) λvR HR hR=>?_
 subst hR;refine ap (af (ac J6 (ad (AD ?_))));refine PS ?_;refine ap ?_
 exact aJ ((k+1,nu s' (kC ws k).1 (kC ws k).2):(Nat)×(fC)) ⟨by omega,by rw[hs',mM,mm,if_neg h26,if_pos h50]⟩ (by show ws.length- (k+1)<ws.length-k;omega)
  SB
  (λ_ s=>ak [0,0,1] rfl s)
 refine nx J11 (CN (aM (af (ac J6 (ad (AD ?_))))));refine PS ?_;refine ap ?_
 exact aJ ((k+1,s'):(Nat)×(fC)) ⟨by omega,by rw[mM,mm,if_neg h26,if_neg h50];exact hs'⟩ (by show ws.length- (k+1)<ws.length-k;omega)
  SB
  (λ_ s=>ak [1,1,1] rfl s)
 refine nx J4 (aa λ_ J12=>CN (aV (ay (ay (bh (ac J2 (ad ?_)))))))
 iterate 5 refine PS ?_
 refine FA 1 gG gy ?_;refine S0 0 gy ?_;refine PS ?_;refine FA 2 gG kE ?_;refine S0 0 kE ?_;refine PS ?_;refine FA 3 gG aO ?_;refine S0 0 aO ?_;refine PS ?_;refine FA 4 gG kE ?_;refine S0 0 kE ?_;refine ap (aF (H':=[aj d [(.map (some m)),(.slice none 0 0),(.bool false),(.int .i64 0),(.bool false)] 140,kx m (sG s'),own (.slice none 0 0) 0 [] 175 65]) (cZ _) (λ_ s=>dY (List.Perm.trans (List.Perm.swap _ _ _) (List.Perm.cons _ (List.Perm.swap _ _ _))) (fq 175 65 (ak [0,0] rfl s))) (br rfl ?_));obtain rfl:k=ws.length:=by omega
 subst hs';exact rfl
theorem L6:Tryz.prog.eqGuardType Tryz.prog.depth 173=false:=by kernel_rfl
theorem L4:Tryz.prog.keyTypeAt 2 173=true:=by kernel_rfl
theorem L7:pC Tryz.prog 2 173=some (List.replicate 64 (some .u8)):=by kernel_rfl
theorem L9:GQ Tryz.prog 173=true:=by kernel_rfl
theorem L8:Tryz.prog.cellsOf 173=64:=by kernel_rfl
abbrev dk(d:Nat)(D:DS):HP:=Nd 140 175 d D
theorem EY(d:Nat)(D:DS):DT 53 #[(.pointer (some ⟨d,0,none⟩))] T0 [dk d D] (RI (.bool D.dn) [dk d (D)]):=Leg.Does.pack (B:=[]) λ⟨m,wv⟩=>
 Leg.Does.withinR (zX d m wv D.ar D.dn D.lf) (B:=[kx m (sG D.s),own wv D.ws.length (dy D.ws) 175 65]) (λ_ _ _ _=>trivial) (λ_ s=>s) (λv H h=>by
  obtain⟨rfl,rfl⟩:=h
  exact⟨_,λ_ s=>bo (H:=[]) (m,wv) (s),rfl,rfl⟩)
theorem Lp(d:Nat)(D:DS)(n:Int):DT 48 #[(.pointer (some ⟨d,0,none⟩)), .int .i64 n] T0 [dk d D] (c9 (λv H=>True∧H=[dk d (D.arm n)])):=Leg.Does.pack (B:=[]) λ⟨m,wv⟩=>
 Leg.Does.withinR (B2 d m wv D.ar D.dn D.lf n) (B:=[kx m (sG D.s),own wv D.ws.length (dy D.ws) 175 65]) (λ_ _ _ _=>trivial) (λ_ s=>s) (λv H h=>by
  subst h
  exact⟨_,λ_ s=>bo (H:=[]) (m,wv) s,trivial,rfl⟩)
theorem zY(d:Nat)(D:DS)(at':Int)(hD:D.Ok)(hb:D.ws.length≤1000000000):DT 104 #[(.pointer (some ⟨d,0,none⟩)), .int .i64 at'] T0 [dk d D] (RI (FH (D.read at')) [dk d (D)]):=Leg.Does.pack (B:=[]) λ⟨m,wv⟩=>
 Leg.Does.withinR (zW d m wv D.s D.ws D.ar D.dn D.lf at' hD.s hD.ws hb) (B:=[]) (λ_ _ _ _=>trivial) (λ_ s=>s) (λv H h=>by
  obtain⟨rfl,rfl⟩:=h
  exact⟨_,λ_ s=>bo (H:=[]) (m,wv) (s),rfl,rfl⟩)
theorem B8(d:Nat)(D:DS)(mask torn n:Int)(hD:D.Ok):DT 49 #[(.pointer (some ⟨d,0,none⟩)), .int .i64 mask, .int .i64 torn, .int .i64 n] T0 [dk d D] (c9 (λv H=>True∧H=[dk d (D.crash mask torn n)])):=Leg.Does.pack (B:=[]) λ⟨m,wv⟩=>
 Leg.Does.withinR (xF d m wv D.s D.ws D.ar D.dn D.lf mask torn n hD.s hD.ws) (B:=[]) (λ_ _ _ _=>trivial) (λ_ s=>s) (λv H h=>by
  subst h
  exact⟨_,λ_ s=>bo (H:=[]) (m,(.slice none 0 0:Value)) s,trivial,rfl⟩)
theorem B7(d:Nat)(D:DS)(at':Int)(x:Value)(bs:List UInt8)(hD:D.Ok)(hb:D.ws.length≤1000000000):DT 95 #[(.pointer (some ⟨d,0,none⟩)), .int .i64 at',x] (IsW x bs) [dk d D] (RI (.int .i64 (D.write at' bs).1) [dk d ((D.write at' bs).2)]):=Leg.Does.pack (B:=[]) λ⟨m,wv⟩=>
 Leg.Does.withinR (xE d m wv D.ws D.ar D.dn D.lf at' x bs hD.lf hb) (B:=[kx m (sG D.s)]) (λ_ _ h d=>h.more d) (λ_ s=>aA [0,1] rfl s) (λv H h=>by
  unfold DS.write;replace h:(if at'<0∨2048≤at'∨64<bs.length then _ else _):=h;split at h<;>rename_i h1
  · rw[if_pos h1]
    obtain⟨rfl,rfl⟩:=h;exact⟨_,λ_ s=>bo (H:=[]) (m,wv) (aA [0,1] rfl s),rfl,rfl⟩
  · rw[if_neg h1]
    split at h<;>rename_i h2
    · rw[if_pos h2]
      obtain⟨rfl,rfl⟩:=h;exact⟨_,λ_ s=>bo (H:=[]) (m,wv) (aA [0,1] rfl s),rfl,rfl⟩
    · rw[if_neg h2]
      obtain⟨rfl,wv',rfl⟩:=h
      exact⟨_,λ_ s=>bo (H:=[]) (m,wv') (aA [0,1] rfl s),rfl,rfl⟩)
theorem EX(d:Nat)(D:DS)(hD:D.Ok):DT 96 #[(.pointer (some ⟨d,0,none⟩))] T0 [dk d D] (RI (.int .i64 D.sync.1) [dk d D.sync.2]):=by
 obtain⟨s,ws,ar,lf,dn⟩:=D;cases dn
 · exact Leg.Does.pack (B:=[]) λ⟨m,wv⟩=>Leg.Does.withinR (wO d m wv s ws ar lf hD.ws) (B:=[]) (λ_ _ _ _=>trivial) (λ_ s=>s) (λv H h=>by
    obtain⟨rfl,rfl⟩:=h
    exact⟨_,λ_ s=>bo (H:=[]) (m,(.slice none 0 0:Value)) s,rfl,rfl⟩)
 · exact Leg.Does.pack (B:=[]) λ⟨m,wv⟩=>Leg.Does.withinR (tl d m wv ar lf) (B:=[kx m (sG s),own wv ws.length (dy ws) 175 65]) (λ_ _ _ _=>trivial) (λ_ s=>s) (λv H h=>by
    obtain⟨rfl,rfl⟩:=h
    exact⟨_,λ_ s=>bo (H:=[]) (m,wv) s,rfl,rfl⟩)
theorem Lo:DT 42 #[] T0 [] (c9 (λv H=>∃d,v= .pointer (some ⟨d,0,none⟩)∧H=[dk d DS.new])):=
 Leg.Does.withinR B1 (B:=[]) (λ_ _ _ _=>trivial) (λ_ s=>s) (λv H h=>by
  obtain⟨d,m,rfl,rfl⟩:=h
  exact⟨_,λ_ s=>bo (H:=[]) (m,(.slice none 0 0:Value)) (dY (List.Perm.trans (List.Perm.swap _ _ _) (List.Perm.cons _ (List.Perm.swap _ _ _))) (fq 175 65 s)),d,rfl,rfl⟩)
end Go.Proofs.YtfocodjhmkokpaaGreatDoor
end

section
namespace Wal
open Go Leg Codec Api Dsk
theorem s7{x y:Int}(k:Nat)(hx:0≤x)(hx2:x<2^k)(hy:0≤y)(h:x+y*2^k<4294967296):ig .u32 x (y*2^k)=x+y*2^k:=by
 obtain⟨a,rfl⟩:=Int.eq_ofNat_of_zero_le hx;obtain⟨b,rfl⟩:=Int.eq_ofNat_of_zero_le hy;have e2:((b:Nat):Int)*2^k=((b*2^k:Nat):Int):=by simp
 rw[e2]at h ⊢
 have ha:a<2^k:=by
  have:(((2:Nat)^k:Nat):Int)=(2:Int)^k:=by simp
  omega
 have hs:a+b*2^k<4294967296:=by omega
 have h1:(BitVec.ofInt 32 (a:Int)).toNat=a:=by rw[BitVec.toNat_ofInt];omega
 have h2:(BitVec.ofInt 32 ((b*2^k:Nat):Int)).toNat=b*2^k:=by
  rw[BitVec.toNat_ofInt];generalize b*2^k=q at*;omega
 have h3:a|||b*2^k=a+b*2^k:=by
  rw[Nat.or_comm,←Nat.shiftLeft_eq,←Nat.shiftLeft_add_eq_or_of_lt ha,lO]
 show IntKind.u32.wrap (((BitVec.ofInt 32 (a:Int))||| (BitVec.ofInt 32 ((b*2^k:Nat):Int))).toNat:Nat)=_;rw[BitVec.toNat_or,h1,h2,h3];generalize b*2^k=q at*;rw[kf (by omega) (by omega)];omega
theorem F9{x y:Int}(k:Nat)(hx:0≤x)(hx2:x<2^k)(hy:0≤y)(h:x+y*2^k<9223372036854775808):ig .i64 (y*2^k) x=x+y*2^k:=by
 obtain⟨a,rfl⟩:=Int.eq_ofNat_of_zero_le hx;obtain⟨b,rfl⟩:=Int.eq_ofNat_of_zero_le hy;have e2:((b:Nat):Int)*2^k=((b*2^k:Nat):Int):=by simp
 rw[e2]at h ⊢
 have ha:a<2^k:=by
  have:(((2:Nat)^k:Nat):Int)=(2:Int)^k:=by simp
  omega
 have h1:(BitVec.ofInt 64 (a:Int)).toNat=a:=by rw[BitVec.toNat_ofInt];omega
 have h2:(BitVec.ofInt 64 ((b*2^k:Nat):Int)).toNat=b*2^k:=by
  rw[BitVec.toNat_ofInt];generalize b*2^k=q at*;omega
 have h3:b*2^k|||a=a+b*2^k:=by
  rw[←Nat.shiftLeft_eq,←Nat.shiftLeft_add_eq_or_of_lt ha,lO]
 show IntKind.i64.wrap (((BitVec.ofInt 64 ((b*2^k:Nat):Int))||| (BitVec.ofInt 64 (a:Int))).toNat:Nat)=_;rw[BitVec.toNat_or,h1,h2,h3];generalize b*2^k=q at*;rw[bG (by omega) (by omega)];omega
theorem Fo(x:Int):0≤IntKind.u32.wrap x∧IntKind.u32.wrap x<4294967296:=by
 simp only[IntKind.wrap,IntKind.signed,IntKind.bits];simp;omega
theorem Ao(a b:Int):0≤o5 .u32 a b∧o5 .u32 a b<4294967296:=Fo _
def r8(x:Int):UInt8:=UInt8.ofNat (x%256).toNat
theorem lJ(x:Int):(((r8 x).toNat:Nat):Int)=x%256:=by
 have:(x%256).toNat<256:=by omega
 simp only[r8,UInt8.toNat_ofNat'];omega
theorem r8_wrap(x:Int):IntKind.u8.wrap x=(((r8 x).toNat:Nat):Int):=by
 rw[lJ];simp only[IntKind.wrap,IntKind.signed,IntKind.bits];simp
def D8(r:Int):Int:=if qc .u32 r 1=1 then o5 .u32 (r.fdiv 2) 3988292384 else r.fdiv 2
def l9(r:Int):Nat→Int
 |0=>r
 |k+1=>D8 (l9 r k)
def E4(r:Int)(c:UInt8):Int:=l9 (o5 .u32 r ((c.toNat:Nat):Int)) 8
def fg(r:Int)(bs:List UInt8):Int:=bs.foldl E4 r
def fQ(bs:List UInt8):Int:=o5 .u32 4294967295 (fg 4294967295 bs)
theorem Ca{r:Int}{bs:List UInt8}{k:Nat}(h:k<bs.length):fg r (bs.take (k+1))=E4 (fg r (bs.take k)) (bs.getD k 0):=by
 rw[fg,fg,bF h,eN,List.getD_eq_getElem?_getD,List.getElem?_eq_getElem h];rfl
theorem xG(r:Int)(a b:List UInt8):fg r (a++b)=fg (fg r a) b:=by simp[fg]
theorem Cb{r:Int}{ps:List (List UInt8)}{k:Nat}(h:k<ps.length):fg r (ps.take (k+1)).flatten=fg (fg r (ps.take k).flatten) ps[k]:=by
 rw[bF h,List.flatten_append,xG];simp
theorem Cc(bs:List UInt8):0≤fQ bs∧fQ bs<4294967296:=Ao _ _
def OD(r:Int):List UInt8:=[r8 r,r8 (r.fdiv 256),r8 (r.fdiv 65536),r8 (r.fdiv 16777216)]
def Ib(a b c d:UInt8):Int:=
 ig .u32 (ig .u32 (ig .u32 ((a.toNat:Nat):Int) (IntKind.u32.wrap (((b.toNat:Nat):Int)*2^8))) (IntKind.u32.wrap (((c.toNat:Nat):Int)*2^16))) (IntKind.u32.wrap (((d.toNat:Nat):Int)*2^24))
theorem JD(a b c d:UInt8):Ib a b c d=((a.toNat:Nat):Int)+((b.toNat:Nat):Int)*256+((c.toNat:Nat):Int)*65536+((d.toNat:Nat):Int)*16777216:=by
 have ha:=a.toNat_lt;have hb:=b.toNat_lt;have hc:=c.toNat_lt;have hd:=d.toNat_lt;unfold Ib;generalize a.toNat=a at*;generalize b.toNat=b at*;generalize c.toNat=c at*;generalize d.toNat=d at*;rw[kf (x:=(b:Int)*2^8) (by omega) (by omega),kf (x:=(c:Int)*2^16) (by omega) (by omega),kf (x:=(d:Int)*2^24) (by omega) (by omega)];rw[s7 8 (by omega) (by omega) (by omega) (by omega),s7 16 (by omega) (by omega) (by omega) (by omega),s7 24 (by omega) (by omega) (by omega) (by omega)];omega
def pv(bs:List UInt8):List UInt8:=bs++OD (fQ bs)
def mx(bs:List UInt8):Option (List UInt8):=
 if bs.length<4 then none
 else if fQ (bs.take (bs.length-4))=Ib ((bs.drop (bs.length-4)).getD 0 0) ((bs.drop (bs.length-4)).getD 1 0) ((bs.drop (bs.length-4)).getD 2 0) ((bs.drop (bs.length-4)).getD 3 0)then some (bs.take (bs.length-4))else none
theorem kq(bs:List UInt8):(pv bs).length=bs.length+4:=by simp[pv,OD]
theorem Ia{r:Int}(h:0≤r∧r<4294967296):Ib (r8 r) (r8 (r.fdiv 256)) (r8 (r.fdiv 65536)) (r8 (r.fdiv 16777216))=r:=by
 rw[JD,lJ,lJ,lJ,lJ,Int.fdiv_eq_ediv_of_nonneg _ (by decide),Int.fdiv_eq_ediv_of_nonneg _ (by decide),Int.fdiv_eq_ediv_of_nonneg _ (by decide)];omega
theorem qB(bs:List UInt8):mx (pv bs)=some bs:=by
 have hl:=kq bs;have e1:(pv bs).take (bs.length+4-4)=bs:=by rw[GW,pv];exact lD
 have e2:(pv bs).drop (bs.length+4-4)=OD (fQ bs):=by rw[GW,pv];exact Ct
 unfold mx;rw[hl,if_neg (by omega),e1,e2];exact if_pos (Ia (Cc bs)).symm
theorem yf{bs t:List UInt8}(h:mx bs=some t):t.length+4=bs.length:=by
 unfold mx at h;split at h
 · cases h
 · split at h
   · injection h with h;subst h;rw[bq];omega
   · cases h
def bA(n:Nat):Nat:=if n=0 then 1 else(n-1) / 52+1
theorem pw(n:Nat):0<bA n:=by unfold bA;split<;>omega
theorem vY{n:Nat}(h:n≤3000):bA n≤58:=by unfold bA;split<;>omega
theorem xu(n:Nat):n≤bA n*52:=by unfold bA;split<;>omega
def I1(n:Int):List UInt8:=[r8 (n.fdiv 16777216),r8 (n.fdiv 65536),r8 (n.fdiv 256),r8 n]
def GP(bs:List UInt8):Int:=bs.foldl (λh c=>ig .i64 (IntKind.i64.wrap (h*2^8)) ((c.toNat:Nat):Int)) 0
theorem IA{bs:List UInt8}{k:Nat}(h:k<bs.length):GP (bs.take (k+1))=ig .i64 (IntKind.i64.wrap (GP (bs.take k)*2^8)) (((bs.getD k 0).toNat:Nat):Int):=by
 rw[GP,GP,bF h,eN,List.getD_eq_getElem?_getD,List.getElem?_eq_getElem h];rfl
theorem uR{h:Int}(c:UInt8)(h0:0≤h)(h1:h<4294967296):ig .i64 (IntKind.i64.wrap (h*2^8)) ((c.toNat:Nat):Int)=h*256+((c.toNat:Nat):Int):=by
 have hc:=c.toNat_lt;generalize c.toNat=c at*;rw[bG (by omega) (by omega),F9 8 (by omega) (by omega) (by omega) (by omega)];omega
theorem IB(a b c d:UInt8):GP [a,b,c,d]=((a.toNat:Nat):Int)*16777216+((b.toNat:Nat):Int)*65536+((c.toNat:Nat):Int)*256+((d.toNat:Nat):Int):=by
 have ha:=a.toNat_lt;have hb:=b.toNat_lt;have hc:=c.toNat_lt;have hd:=d.toNat_lt;simp only[GP,List.foldl_cons,List.foldl_nil];rw[uR a (by omega) (by omega),uR b (by omega) (by omega),uR c (by omega) (by omega),uR d (by omega) (by omega)];omega
theorem JT{n:Int}(h0:0≤n)(h1:n<4294967296):GP (I1 n)=n:=by
 rw[I1,IB,lJ,lJ,lJ,lJ,Int.fdiv_eq_ediv_of_nonneg _ (by decide),Int.fdiv_eq_ediv_of_nonneg _ (by decide),Int.fdiv_eq_ediv_of_nonneg _ (by decide)];omega
def gl(b:List UInt8)(i:Nat):List UInt8:=(b.drop (i*52)).take 52
theorem s4(b:List UInt8)(i:Nat):(gl b i).length≤52:=by rw[gl,bq];omega
theorem Jm{n k:Nat}(h:k<bA n):k*52≤n:=by unfold bA at h;split at h<;>omega
theorem Jn(b:List UInt8)(k:Nat):((b.take (min ((k+1)*52) b.length)).drop (k*52))=gl b k:=by
 rw[gl,jH,e9,Nat.one_mul]
 by_cases q:k*52+52≤b.length
 · rw[Nat.min_eq_left q,cq]
 · rw[Nat.min_eq_right (by omega),aC (by rw[bN];omega),aC (by rw[bN];omega)]
theorem F5(b:List UInt8): ∀k,b.length≤k*52→((List.range k).map (gl b)).flatten=b:=by
 have key: ∀k,((List.range k).map (gl b)).flatten=b.take (k*52):=by
  intro k
  induction k with
  |zero=>simp
  |succ k ih=>
   rw[cC,el,List.flatten_append,ih,e9,Nat.one_mul,List.take_add];simp[gl]
 intro k hk;rw[key,aC hk]
def jk(number:Int)(place all:Nat)(p:List UInt8):List UInt8:=I1 number++([r8 (place:Int),r8 (all:Int),r8 (p.length:Int)]++(p++List.replicate (52-p.length) 0))
theorem iZ{number:Int}{place all:Nat}{p:List UInt8}(h:p.length≤52):(jk number place all p).length=59:=by simp[jk,I1];omega
def pn(number:Int)(place all:Nat)(p:List UInt8):jE:=pv (jk number place all p)++[1]
theorem FG{number:Int}{place all:Nat}{p:List UInt8}(h:p.length≤52):(pn number place all p).length=64:=by simp[pn,kq,iZ h]
def cr(number:Int)(b:List UInt8):List jE:=(List.range (bA b.length)).map λi=>pn number i (bA b.length) (gl b i)
def mA(number:Int)(b:List UInt8)(k:Nat):List jE:=(List.range k).map λi=>pn number i (bA b.length) (gl b i)
theorem C8(number:Int)(b:List UInt8)(k:Nat):mA number b (k+1)=mA number b k++[pn number k (bA b.length) (gl b k)]:=by simp[mA,cC]
theorem yi(number:Int)(b:List UInt8)(k:Nat):(mA number b k).length=k:=by simp[mA]
theorem Fu{number:Int}{place all:Nat}{p:List UInt8}(h:p.length≤52):
 wr (dw (I1 number++([r8 (place:Int),r8 (all:Int),r8 (p.length:Int)]++List.replicate 52 0))) 7 ((dw p).take (min p.length 52))=dw (jk number place all p):=by
 have e:(dw p).take (min p.length 52)=dw p:=aC (by rw[bj];omega);rw[e,wr,bj];have e2:(dw (I1 number++([r8 (place:Int),r8 (all:Int),r8 (p.length:Int)]++List.replicate 52 0))).take 7=dw (I1 number++[r8 (place:Int),r8 (all:Int),r8 (p.length:Int)]):=rfl
 have e3:(dw (I1 number++([r8 (place:Int),r8 (all:Int),r8 (p.length:Int)]++List.replicate 52 0))).drop (7+p.length)=dw (List.replicate (52-p.length) 0):=by
  rw[←lE];have:(dw (I1 number++([r8 (place:Int),r8 (all:Int),r8 (p.length:Int)]++List.replicate 52 0))).drop 7=dw (List.replicate 52 0):=rfl;rw[this,dw,dw,←kD,List.drop_replicate]
 rw[e2,e3,jk];simp[dw]
theorem ej(number:Int)(b:List UInt8):(cr number b).length=bA b.length:=by simp[cr]
def fe(s:jE)(number place:Int):Option (List UInt8×Int):=
 match mx (s.take 63)with
 |none=>none
 |some t=>if s.getD 63 0≠1 then none
  else if GP (t.take 4)≠number∨(((t.getD 4 0).toNat:Nat):Int)≠place∨place≥(((t.getD 5 0).toNat:Nat):Int)∨(((t.getD 6 0).toNat:Nat):Int)>52 then none
  else some ((t.drop 7).take (t.getD 6 0).toNat,(((t.getD 5 0).toNat:Nat):Int))
theorem Bl{number:Int}{place all:Nat}{p:List UInt8}(h:p.length≤52)(h0:0≤number)(h1:number<4294967296)(hp:place<all)(ha:all≤255):fe (pn number place all p) number place=some (p,(all:Int)):=by
 have e1:(pn number place all p).take 63=pv (jk number place all p):=by
  rw[pn,ct (by rw[kq,iZ h];omega),aC (by rw[kq,iZ h];omega)]
 have e2:(pn number place all p).getD 63 0=1:=by
  rw[pn,List.getD_eq_getElem?_getD,List.getElem?_append_right (by rw[kq,iZ h];omega),kq,iZ h];rfl
 have n1:(((r8 (place:Int)).toNat:Nat):Int)=place:=by rw[lJ];omega
 have n2:(((r8 (all:Int)).toNat:Nat):Int)=all:=by rw[lJ];omega
 have n3:(((r8 (p.length:Int)).toNat:Nat):Int)=p.length:=by rw[lJ];omega
 unfold fe;rw[e1,qB];simp only[e2,ne_eq,not_true_eq_false,if_false];have t4:(jk number place all p).take 4=I1 number:=rfl;have g4:(jk number place all p).getD 4 0=r8 (place:Int):=rfl;have g5:(jk number place all p).getD 5 0=r8 (all:Int):=rfl;have g6:(jk number place all p).getD 6 0=r8 (p.length:Int):=rfl;have g7:(jk number place all p).drop 7=p++List.replicate (52-p.length) 0:=rfl;rw[t4,JT h0 h1,g4,g5,g6,g7,n1,n2,n3];rw[if_neg (by omega)];have n3':(r8 (p.length:Int)).toNat=p.length:=by omega
 rw[n3'];simp
theorem qM{s:jE}{number place:Int}(h:s.getD 63 0≠1):fe s number place=none:=by
 unfold fe;split
 · rfl
 · rw[if_pos h]
theorem oa{s b:jE}{number place all:Int}(hs:s.length=64)(h:fe s number place=some (b,all)):place<all∧all≤255∧b.length≤52:=by
 unfold fe at h;split at h
 · cases h
 · rename_i t ht
   have hl:=yf ht;split at h
   · cases h
   · split at h
     · cases h
     · rename_i h2
       injection h with h
       simp only[Prod.mk.injEq]at h;obtain⟨rfl,rfl⟩:=h;have:=(t.getD 5 0).toNat_lt;rw[bq];omega
theorem zE{s:jE}{number place:Int}(h:mx (s.take 63)=none):fe s number place=none:=by simp only[fe,h]
theorem l5{s t:jE}{number place:Int}(h:mx (s.take 63)=some t)(h2:GP (t.take 4)≠number∨(((t.getD 4 0).toNat:Nat):Int)≠place∨place≥(((t.getD 5 0).toNat:Nat):Int)∨(((t.getD 6 0).toNat:Nat):Int)>52):fe s number place=none:=by
 simp only[fe,h];split
 · rfl
 · first|rfl|rw[if_pos h2]
theorem Bk{s t:jE}{number place:Int}(h:mx (s.take 63)=some t)(h1:s.getD 63 0=1)(h2: ¬(GP (t.take 4)≠number∨(((t.getD 4 0).toNat:Nat):Int)≠place∨place≥(((t.getD 5 0).toNat:Nat):Int)∨(((t.getD 6 0).toNat:Nat):Int)>52)):
 fe s number place=some ((t.drop 7).take (t.getD 6 0).toNat,(((t.getD 5 0).toNat:Nat):Int)):=by
 simp only[fe,h,h1,ne_eq,not_true_eq_false,if_false];rw[if_neg h2]
def kw(rd:Int→jE)(number at' all:Int):Nat→Option (List UInt8)
 |0=>some []
 |k+1=>match kw rd number at' all k with
  |none=>none
  |some b=>match fe (rd (at'+k)) number k with
   |none=>none
   |some (m,same)=>if same=all then some (b++m)else none
def fJ(rd:Int→jE)(number at':Int):Option (List UInt8×Int):=
 match fe (rd at') number 0 with
 |none=>none
 |some (_,all)=>(kw rd number at' all all.toNat).map λb=>(b,all)
theorem Du{rd:Int→jE}{number at' all:Int}{k:Nat}(h:kw rd number at' all k=none): ∀m,k≤m→kw rd number at' all m=none:=by
 intro m hm
 induction hm with
 |refl=>exact h
 |step _ ih=>simp only[kw,ih]
theorem wn{rd:Int→jE}{number at' all:Int}{k:Nat}(h:fe (rd (at'+k)) number k=none∨∃m same,fe (rd (at'+k)) number k=some (m,same)∧same≠all): ∀m,k<m→kw rd number at' all m=none:=by
 refine λm hm=>Du (k:=k+1) ?_ m hm
 simp only[kw];cases kw rd number at' all k with
 |none=>rfl
 |some b=>
  rcases h with h| ⟨x,same,h,h2⟩
  · simp only[h]
  · simp only[h,if_neg h2]
theorem wq{rd:Int→jE}{number at' all:Int}{k:Nat}{b x:List UInt8}(h:kw rd number at' all k=some b)(h2:fe (rd (at'+k)) number k=some (x,all)):kw rd number at' all (k+1)=some (b++x):=by
 simp only[kw,h,h2,if_true]
theorem Gi{rd:Int→jE}{number at' all:Int}{b:List UInt8}(h:fe (rd at') number 0=some (b,all)):kw rd number at' all 1=some b:=by
 have h0:kw rd number at' all 0=some []:=rfl;have:=wq (rd:=rd) (number:=number) (at':=at') (all:=all) (k:=0) h0 (x:=b) (by simpa using h)
 simpa using this
theorem qh{rd:Int→jE}{number at':Int}(h:fe (rd at') number 0=none):fJ rd number at'=none:=by simp only[fJ,h]
theorem qg{rd:Int→jE}{number at' all:Int}{b:List UInt8}(h:fe (rd at') number 0=some (b,all))(h2:kw rd number at' all all.toNat=none):fJ rd number at'=none:=by simp only[fJ,h,h2,Option.map_none]
theorem rH{rd:Int→jE}{number at' all:Int}{b c:List UInt8}(h:fe (rd at') number 0=some (b,all))(h2:kw rd number at' all all.toNat=some c):fJ rd number at'=some (c,all):=by simp only[fJ,h,h2,Option.map_some]
def fP(rd:Int→jE):Nat→Int→Int→List (List UInt8)×Int
 |0,_,used=>([],used)
 |f+1,cnt,used=>match fJ rd (cnt+1) used with
  |none=>([],used)
  |some (b,all)=>let r:=fP rd f (cnt+1) (used+all);(b::r.1,r.2)
def jj:Nat→Int→DS→Int×DS
 |0,_,D=>(0,D)
 |n+1,at',D=>if D.read at'=zs then jj n (at'+1) D else if(D.write at' []).1=0 then jj n (at'+1) (D.write at' []).2 else D.write at' []
structure OpenR where
 err:Int
 recs:List (List UInt8)
 used:Int
 D:DS
def iQ:Nat:=2049
theorem sj:iQ=2049:=rfl
def bP(D:DS):OpenR:=
 let r:=fP D.read iQ 0 0;let w:=jj (2048-r.2).toNat r.2 D
 if w.1≠0 then⟨w.1,[],0,w.2⟩else if w.2.sync.1≠0 then⟨w.2.sync.1,[],0,w.2.sync.2⟩else⟨0,r.1,r.2,w.2.sync.2⟩
def In(s:fC):Prop:=∀p∈s,0≤p.1∧p.1<2048
def DS.In(D:DS):Prop:=Wal.In D.s∧Wal.In D.ws
end Wal
end

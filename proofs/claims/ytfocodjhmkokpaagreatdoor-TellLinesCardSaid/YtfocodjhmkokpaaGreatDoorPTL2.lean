/-
  Joined texts:what a statement's proof reaches.
-/
import Derived.Laws.MakeOwn
import Derived.OwnWalk
import Derived.Lib.AppendStr
import Derived.Lib.UnsafeStr
import Derived.Lib.Builder
import Derived.Laws.Externs
import Derived.Test.YtfocodjhmkokpaaGreatDoorProg
import Derived.KernelRfl
import Derived.WalkSpells
import Derived.Test.YtfocodjhmkokpaaGreatDoorPTL1
set_option maxHeartbeats 8000000
set_option maxRecDepth 100000
set_option linter.unusedSimpArgs false
set_option linter.unusedVariables false
section
namespace Leg
open Go Codec Api
theorem yt(v:Value)(n:Nat):madeCells #[v] n=(List.replicate n v).toArray:=by
 unfold madeCells;apply Array.ext
 · simp
 · intro i h1 h2
   simp at h1;simp[Nat.mod_one]
theorem KK(n:Nat):dH (List.replicate n 0)=List.replicate n (.int .u8 0):=by simp[dH]
section
variable {P:Program} {w0:World} {F:Hl} {n:Nat} {ops:Array Oper} {Q:QQ} {D:List Deferred} {L:List (Nat×Value)} {H:List HP} {o:Oper} {l:List Oper} {d:Nat} {S:World→Prop}
theorem TL.mono{H':List HP}(m: ∀h,bD H h→bD H' h)(h:TL P w0 F n ops Q l D L H'):TL P w0 F n ops Q l D L H:=TL.weak (db _) m h
abbrev cm:= @TL.mono
theorem TL.makeB{t e:TypeId}{x y:Operand}{k k':IntKind}{a b:Int}(m c:Nat)(hw:Want n D ops o L)(ho:o.op= .makeSlice t x y)(hd:o.dst=some d)(hn:Nat.blt d n=true)(ht:P.underlying t=some (.slice e))
 (hi:(P.info? e).map (λi=>(i.zero,i.size,i.bytes))=some (some (.int .u8 0),1,1)) (hx:cB L x=some (.int k a)) (hy:cB L y=some (.int k' b)) (ha:a=(m:Int)) (hb:b=(c:Int)) (h1:m≤c) (h2:c≤281474976710656)
 (h: ∀b,TL P w0 F n ops Q l D ((d, .slice (some ⟨b,0,none⟩) m c)::L) (ah b (dH (List.replicate c 0)) e::H)):TL P w0 F n ops Q (o::l) D L H:=
 kD hw λa w f sm q=>by
  subst ha;subst hb;obtain⟨i,hie,hz0,hs,hb⟩:=info_parts hi;have hr:=run_make (P:=P) w t e i (.int .u8 0) ht hie hz0 k k' (m:Int) (c:Int) (by omega) (by omega) (by rw[hb];omega) (by omega)
  have e1:madeCells (Value.cells (.int .u8 0)) ((c:Int).toNat*i.size)=(dH (List.replicate c 0)).toArray:=by
   rw[hs,fM,Kv,KK];exact yt _ _
  rw[e1]at hr;simp only[Kv]at hr
  have r:(execOp a.eval o).run P w= .ok (.value (.slice (some ⟨w.heap.size,0,none⟩) m c)) (w.alloc (.cells (dH (List.replicate c 0)).toArray e)):=by
   simp only[execOp,ho,f.eval hx,f.eval hy,Sem.run_bind,hr,Result.andThen_ok,Sem.run_pure]
  unfold Oper.wp;rw[r,Oper.upon_value,hd];exact h _ _ _ (f.put (lb hn) _) (sm.trans ⟨rfl,rfl,rfl,by simp⟩) (q.alloc _)
def jY:Value→Nat→Nat→Value
 | .slice a m c,lo,hi=> .slice (if c=lo then a else a.map (·.add lo)) (hi-lo) (c-lo)
 |v,_,_=>v
theorem PV.sliceLH{t e:TypeId}{x y z:Operand}{a:Option Addr}{len cap lo hi:Nat}{k k':IntKind}{i j:Int}(ho:o.op= .slice t x (some y) (some z) none)(ht:P.underlying t=some (.slice e))(hs:(P.info? e).map (·.size)=some 1)
 (hx:cB L x=some (.slice a len cap)) (hy:cB L y=some (.int k i)) (hz:cB L z=some (.int k' j)) (hi':i=(lo:Int)) (hj:j=(hi:Int)) (h1:lo≤hi) (h2:hi≤cap):PV P n D L S o (jY (.slice a len cap) lo hi):=
 λb w g _=>by
  subst hi';subst hj;simp only[execOp,ho,g.eval hx,Option.map_some,Option.map_none,g.eval hy,g.eval hz,jY]
  by_cases q:cap=lo
  · have e2:hi=lo:=by omega
    subst e2;simp[Instr.sliceAt,Instr.slice,run_underlying ht,Instr.sliceBounds,Instr.sliceBound,asIntOf,ec hs,q]
  · simp[Instr.sliceAt,Instr.slice,run_underlying ht,Instr.sliceBounds,Instr.sliceBound,asIntOf,h1,h2,ec hs,q]
theorem PV.sliceH{t e:TypeId}{x z:Operand}{a:Option Addr}{len cap hi:Nat}{k':IntKind}{j:Int}(ho:o.op= .slice t x none (some z) none)(ht:P.underlying t=some (.slice e))(hs:(P.info? e).map (·.size)=some 1)
 (hx:cB L x=some (.slice a len cap)) (hz:cB L z=some (.int k' j)) (hj:j=(hi:Int)) (h2:hi≤cap):PV P n D L S o (jY (.slice a len cap) 0 hi):=
 λb w g _=>by
  subst hj;simp only[execOp,ho,g.eval hx,Option.map_some,Option.map_none,g.eval hz,jY]
  by_cases q:cap=0
  · have e2:hi=0:=by omega
    subst e2;simp[Instr.sliceAt,Instr.slice,run_underlying ht,Instr.sliceBounds,Instr.sliceBound,asIntOf,ec hs,q]
  · simp[Instr.sliceAt,Instr.slice,run_underlying ht,Instr.sliceBounds,Instr.sliceBound,asIntOf,h2,ec hs,q]
theorem PV.sliceL{t e:TypeId}{x y:Operand}{a:Option Addr}{len cap lo:Nat}{k:IntKind}{i:Int}(ho:o.op= .slice t x (some y) none none)(ht:P.underlying t=some (.slice e))(hs:(P.info? e).map (·.size)=some 1)
 (hx:cB L x=some (.slice a len cap)) (hy:cB L y=some (.int k i)) (hi:i=(lo:Int)) (h1:lo≤len):PV P n D L S o (jY (.slice a len cap) lo len):=
 λb w g _=>by
  subst hi;simp only[execOp,ho,g.eval hx,Option.map_some,Option.map_none,g.eval hy,jY]
  by_cases q:cap=lo
  · simp[Instr.sliceAt,Instr.slice,run_underlying ht,Instr.sliceBounds,Instr.sliceBound,asIntOf,h1,ec hs,q]
  · simp[Instr.sliceAt,Instr.slice,run_underlying ht,Instr.sliceBounds,Instr.sliceBound,asIntOf,h1,ec hs,q]
end
theorem IsW.form{v:Value}{bs:List UInt8}{F:Hl}(h:IsW v bs F): ∃a c,v= .slice a bs.length c∧bs.length≤c∧(bs.length=0∨c≤9223372036854775807):=by
 rcases h with(⟨rfl,rfl⟩| ⟨b,off,cap,cs,T,z,rfl,h1,h2,_⟩)| ⟨a,c,rfl,rfl⟩
 · exact⟨_,_,rfl,aL _, .inl rfl⟩
 · exact⟨_,_,rfl,h1, .inr h2⟩
 · exact⟨_,_,rfl,aM _, .inl rfl⟩
theorem IsW.lt{v:Value}{bs:List UInt8}{F:Hl}(h:IsW v bs F):bs.length≤9223372036854775807:=by
 obtain⟨a,c,_,h1,h2⟩:=h.form;omega
theorem IsW.cut{v:Value}{bs:List UInt8}{F:Hl}(h:IsW v bs F){lo hi:Nat}(h1:lo≤hi)(h2:hi≤bs.length):IsW (jY v lo hi) ((bs.take hi).drop lo) F:=by
 have hl:((bs.take hi).drop lo).length=hi-lo:=by simp;omega
 by_cases e:hi-lo=0
 · obtain⟨a,c,rfl,hc,_⟩:=h.form
   have e0:(bs.take hi).drop lo=[]:=List.eq_nil_of_length_eq_zero (by omega);rw[e0];simp only[jY,e];split
   · cases a with
     |some a=>exact .inr ⟨_,_,rfl,rfl⟩
     |none=>
      rcases h with(⟨h,rfl⟩| ⟨b,off,cap,cs,T,z,h,_⟩)| ⟨a,c,h,_⟩
      · injection h with _ _ h;subst h;exact .inl (.inl ⟨by simp,rfl⟩)
      · simp at h
      · simp at h
   · cases a with
     |some a=>exact .inr ⟨_,_,rfl,rfl⟩
     |none=>
      rcases h with(⟨h,rfl⟩| ⟨b,off,cap,cs,T,z,h,_⟩)| ⟨a,c,h,_⟩
      · injection h with _ _ h;subst h;exact .inl (.inl ⟨by simp,rfl⟩)
      · simp at h
      · simp at h
 · obtain⟨b,off,cap,cs,T,z,rfl,hb,hcs,hc⟩:=h.at (j:=0) (by omega)
   rcases h.form with⟨a,c,hv,_,hm⟩
   injection hv with _ _ hv
   subst hv;refine .inl (.inr ⟨b,off+lo,cap-lo,cs,T,z,?_,by omega,by omega,hb,λj hj=>?_⟩)
   · simp only[jY,hl,if_neg (show ¬cap=lo by omega),Option.map_some,pg]
   · rw[hl]at hj
     rw[vE,hcs (lo+j) (by omega)];congr 2;simp[List.getD_eq_getElem?_getD,List.getElem?_take,show lo+j<hi by omega]
def gI(v:Value)(bs:List UInt8)(e:Nat):HP:=λh=>
 (v= .slice none 0 0∧bs=[]∧h=em)∨∃g off cap cur,v= .slice (some ⟨g,off,none⟩) bs.length cap∧h=sg g (.cells cur e (0,0))∧bs.length≤cap∧cap≤maxLen∧off+cap≤cur.size∧(cur.toList.drop off).take bs.length=dH bs
theorem pY{v:Value}{bs:List UInt8}{e:Nat}{h:Hl}(x:ce v bs e h):gI v bs e h:=by
 rcases x with⟨_,⟨h1,h2,h3⟩| ⟨g,cap,cur,h1,h2,h3,h4,h5,h6⟩⟩
 · exact .inl ⟨h1,List.eq_nil_of_length_eq_zero h2,h3⟩
 · exact .inr ⟨g,0,cap,cur,h1,h2,h3,h4,by omega,by simpa using h6⟩
section
variable {H:List HP} {F:Hl} {v:Value} {bs:List UInt8} {e:Nat}
theorem Ap(i:Nat)(hi:Nat.blt i H.length=true)(hH:H.getD i (λ_=>True)=ce v bs e){h:Hl}(s:bD H h):bD (H.set i (gI v bs e)) h:=
 kO i (lb hi) (cD (eE i (lb hi) s) (λ_ x=>pY (by rwa [hH]at x)) λ_ x=>x)
theorem wB{lo hi nn:Nat}{bs':List UInt8}(i:Nat)(hi':Nat.blt i H.length=true)(hH:H.getD i (λ_=>True)=ce v bs e){g cap:Nat}(hv:v= .slice (some ⟨g,0,none⟩) nn cap)(h1:lo≤hi)(h2:hi≤bs.length)(h3:lo<bs.length)(hb:(bs.take hi).drop lo=bs'){h:Hl}(s:bD H h):
 bD (H.set i (gI (jY v lo hi) bs' e)) h:=by
 subst hb;have hl:((bs.take hi).drop lo).length=hi-lo:=by simp;omega
 refine kO i (lb hi') (cD (eE i (lb hi') s) (λ_ x=>?_) λ_ x=>x);rw[hH]at x;rcases x with⟨_,⟨h1,h2,_⟩| ⟨g',cap',cur,h4,h5,h6,h7,h8,h9⟩⟩
 · rw[hv]at h1;simp at h1
 · rw[hv]at h4 ⊢
   simp only[Value.slice.injEq,Option.some.injEq,Addr.mk.injEq,and_true,true_and]at h4;obtain⟨rfl,rfl,rfl⟩:=h4;refine .inr ⟨g,lo,cap-lo,cur,?_,h5,by omega,by omega,by omega,?_⟩
   · simp only[jY,hl,if_neg (show ¬cap=lo by omega),Option.map_some,pg,bf]
   · rw[hl]
     rw[fM]at h9;have e1:=congrArg (λl:List Value=>(l.take hi).drop lo) h9;simp only[Pn,Nat.min_eq_left h2]at e1;rw[←j8,e1];simp[dH,pN,k9]
theorem Sat.sub_form{w:World}(i:Nat)(s:Sat H F w)(hi:Nat.blt i H.length=true)(hH:H.getD i (λ_=>True)=gI v bs e):(v= .slice none 0 0∧bs=[])∨∃g off cap cur,v= .slice (some ⟨g,off,none⟩) bs.length cap∧w.heap[g]?=some (.cells cur e (0,0))∧bs.length≤cap∧cap≤maxLen∧off+cap≤cur.size∧(cur.toList.drop off).take bs.length=dH bs:=by
 obtain⟨h,d,e',x⟩:=s;obtain⟨h1,h2,d',rfl,a,_⟩:=eE i (lb hi) x;rw[hH]at a;rcases a with⟨x1,x2,_⟩| ⟨g,off,cap,cur,x1,x2,x3⟩
 · exact .inl ⟨x1,x2⟩
 · refine .inr ⟨g,off,cap,cur,x1,?_,x3⟩
   have:hp w g=some (.cells cur e (0,0)):=by
    rw[e',jk];exact gx (by rw[x2];simp[sg])
   exact this
theorem Sat.sub_len{w:World}(i:Nat)(s:Sat H F w)(hi:Nat.blt i H.length=true)(hH:H.getD i (λ_=>True)=gI v bs e):pq v bs.length∧v.oneCell'=true:=by
 rcases s.sub_form i hi hH with⟨rfl,rfl⟩| ⟨g,off,cap,cur,rfl,_⟩
 · exact⟨⟨_,_,rfl⟩,rfl⟩
 · exact⟨⟨_,_,rfl⟩,rfl⟩
theorem Src.sub(i:Nat)(hi:Nat.blt i H.length=true)(hH:H.getD i (λ_=>True)=gI v bs e){w:World}(s:Sat H F w):Src (Sat H F) v bs.length (dH bs) 1:=by
 refine⟨by simp[dH],?_⟩;rcases s.sub_form i hi hH with⟨rfl,rfl⟩| ⟨g,off,cap,cur,rfl,_⟩
 · exact .inl ⟨rfl,rfl⟩
 · refine .inr ⟨⟨g,off,none⟩,cap,rfl,λw s j u hj=>?_⟩
   rcases s.sub_form i hi hH with⟨h1,_⟩| ⟨g',off',cap',cur',h1,h2,h3,h4,h5,h6⟩
   · simp at h1
   · simp only[Value.slice.injEq,Option.some.injEq,Addr.mk.injEq,and_true,true_and]at h1
     obtain⟨⟨rfl,rfl⟩,rfl⟩:=h1;rw[pg];rw[←h6,List.getElem?_take]at hj;split at hj
     · simp only[World.cell?,h2,Option.isSome_none,Bool.false_eq_true,if_false]
       simpa using hj
     · cases hj
theorem AW(i:Nat){B:List HP}(hi:Nat.blt i B.length=true)(hH:B.getD i (λ_=>True)=gI v bs e): ∀g,Dj g F→bD B g→IsB v bs (jn g F):=λg _ s=>by
 obtain⟨h1,h2,d',rfl,a,_⟩:=eE i (lb hi) s;rw[hH]at a;rcases a with⟨x1,x2,_⟩| ⟨g,off,cap,cur,x1,x2,x3,x4,x5,x6⟩
 · exact .inl ⟨x1,x2⟩
 · refine .inr ⟨g,off,cap,cur.toList,e,(0,0),x1,x3,by simpa [maxLen]using x4,gx (gx (by rw[x2];simp[sg])),λj hj=>?_⟩
   have e1:=congrArg (λl:List Value=>l[j]?) x6;simp only[List.getElem?_take,if_pos hj,List.getElem?_drop]at e1;rw[e1];simp[dH,List.getD_eq_getElem?_getD,hj]
end
theorem tP{P:Program}(w:World)(t ty e:TypeId)(i:TypeInfo)(ht:P.underlying t=some (.slice e))(hi:P.info? e=some i)(g off sLen sCap:Nat)(cur:Array Value)(hg:w.heap[g]?=some (.cells cur e (0,0)))
 (a:Addr) (m c:Nat) (news:List Value) (hl:news.length=m*i.size) (hnews: ∀j u,news[j]?=some u→w.cell? (a.add j)=some u) (h1: ∀u∈news,u.oneCell'=true)
 (hroom:sLen+m≤sCap) (hfit:off+sLen*i.size+news.length≤cur.size):
 (Builtin.append_ #[t,t] ty #[.slice (some ⟨g,off,none⟩) sLen sCap, .slice (some a) m c]).run P w=
  .ok (.slice (some ⟨g,off,none⟩) (sLen+m) sCap) (w.setRow g (cur.toList.take (off+sLen*i.size)++news++cur.toList.drop (off+sLen*i.size+news.length)).toArray):=by
 have hf:=run_firstCells_some (P:=P) w i.size m a m c news hl hnews;have hst:=run_storeCells_at P g (off+sLen*i.size) e news 0 cur w hg (by simpa using hfit) h1;simp only[yS]at hst;simp[Builtin.append_,run_underlying ht,Go.sizeOf,typeInfo,hi,Builtin.lenOf,hroom,hf,Addr.add_lit,hst]
section
variable {P:Program} {w0:World} {F:Hl} {n:Nat} {ops:Array Oper} {Q:QQ} {D:List Deferred} {L:List (Nat×Value)} {H:List HP} {o:Oper} {l:List Oper} {d:Nat} {S:World→Prop}
theorem Sat.sub_open{w:World}{k:Nat}{v:Value}{bs:List UInt8}{e:TypeId}(s:Sat H F w)(hk:Nat.blt k H.length=true)(hH:H.getD k (λ_=>True)=gI v bs e):
 (v= .slice none 0 0∧bs=[]∧Sat (H.set k (ce (.slice none 0 0) [] e)) F w)∨∃g off cap cur,v= .slice (some ⟨g,off,none⟩) bs.length cap∧Sat (H.set k (yb g (.cells cur e (0,0)))) F w∧bs.length≤cap∧cap≤maxLen∧off+cap≤cur.size∧(cur.toList.drop off).take bs.length=dH bs:=by
 obtain⟨h,d,e',x⟩:=s;obtain⟨h1,h2,d',rfl,a,y⟩:=eE k (lb hk) x;rw[hH]at a;rcases a with⟨x1,x2,x3⟩| ⟨g,off,cap,cur,x1,x2,x3⟩
 · exact .inl ⟨x1,x2,_,d,e',kO k (lb hk) ⟨h1,h2,d',rfl,⟨rfl, .inl ⟨rfl,rfl,x3⟩⟩,y⟩⟩
 · exact .inr ⟨g,off,cap,cur,x1,⟨_,d,e',kO k (lb hk) ⟨h1,h2,d',rfl,x2,y⟩⟩,x3⟩
theorem Src.of_eq{S':World→Prop}{x:Value}{m size:Nat}{news:List Value}(h:Src S x m news size)(hS: ∀w,S' w→S w):Src S' x m news size:=⟨h.1,h.2.imp id λ⟨a,c,q3,q4⟩=>⟨a,c,q3,λw' s'=>q4 w' (hS w' s')⟩⟩
theorem B5{k:Nat}{q:HP}(hk:Nat.blt k H.length=true)(hH:H.getD k (λ_=>True)=q):H.set k q=H:=by
 rw[←hH,List.getD_eq_getElem?_getD,List.getElem?_eq_getElem (lb hk)];exact List.set_getElem_self _
theorem Cd{w:World}{k:Nat}{v x:Value}{bs news:List UInt8}{t ty e:TypeId}(s:Sat H F w)(ht:P.underlying t=some (.slice e))(hi:(P.info? e).map (λi=>(i.zero,i.size,i.bytes))=some (some (.int .u8 0),1,1))
 (hk:Nat.blt k H.length=true) (hH:H.getD k (λ_=>True)=gI v bs e) (hx:Src (Sat H F) x news.length (dH news) 1) (hb:bs.length+news.length≤140737488355328):
 ∃v' w',(Builtin.append_ #[t,t] ty #[v,x]).run P w= .ok v' w'∧Same w w'∧Sat (H.set k (gI v' (bs++news) e)) F w':=by
 rcases s.sub_open hk hH with⟨rfl,rfl,s1⟩| ⟨g,off,cap,cur,rfl,s1,h3,h4,h5,h6⟩
 · have hx':Src (Sat (H.set k (ce (.slice none 0 0) [] e)) F) x news.length (dH news) 1:=hx.of_eq λw' s'=>by
    have:=s'.turn (q:=gI (.slice none 0 0) [] e) k (by simpa using lb hk) λh hh=>by
     rw[fw (lb hk)]at hh;exact pY hh
    rwa [e7,B5 hk hH]at this
   obtain⟨v',w',r1,r2,r3⟩:=uN (k:=k) (nn:=0) (m:=news.length) (v:= .slice none 0 0) (xs:=dH []) (news:=dH news) (ty:=ty) s1 ht hi rfl (by decide) (by simpa using lb hk) (fw (lb hk) _) hx' (eV _) (by simp only[maxLen];simp at hb;omega) (by simp at hb;omega);refine⟨v',w',r1,r2,?_⟩;rw[e7]at r3
   have:=r3.turn (q:=gI v' ([]++news) e) k (by simpa using lb hk) λh hh=>by
    rw[fw (lb hk)]at hh;refine pY ?_;rw[←ii,bf,bK]at hh;exact hh
   rwa [e7]at this
 · obtain⟨i,hie,hz0,hsz,hby⟩:=info_parts hi
   obtain⟨hxl,hxx⟩:=hx;have hg:w.heap[g]?=some (.cells cur e (0,0)):=s1.block k (by simpa using lb hk) (fw (lb hk) _)
   by_cases hroom:bs.length+news.length≤cap
   · rcases hxx with⟨rfl,hm⟩| ⟨a0,c,rfl,hc⟩
     · have hn:news=[]:=List.eq_nil_of_length_eq_zero hm
       subst hn;refine⟨_,w,?_,pC w,by rw[aP,B5 hk hH];exact s⟩;simp[Builtin.append_,run_underlying ht,Go.sizeOf,typeInfo,hie,Builtin.lenOf,Builtin.firstCells,loadCells,loadCellsFrom,storeCells,h3]
     · have hfit:off+bs.length*i.size+(dH news).length≤cur.size:=by rw[hsz,fM,aY];omega
       refine⟨_,_,tP (P:=P) w t ty e i ht hie g off bs.length cap cur hg a0 news.length c (dH news) (by rw[hsz,aY,fM]) (λj v hj=>hc w s j v hj) (eV _) hroom hfit,⟨rfl,rfl,rfl,by simp⟩,?_⟩;have h2:=s1.write k (by simpa using lb hk) (fw (lb hk) _) (setRow_heap w g cur (cur.toList.take (off+bs.length*i.size)++dH news++cur.toList.drop (off+bs.length*i.size+(dH news).length)).toArray e _ hg) (λj hj=>setRow_other w g j _ hj);rw[e7]at h2
       have h7:=h2.turn (q:=gI (.slice (some ⟨g,off,none⟩) (bs.length+news.length) cap) (bs++news) e) k (by simpa using lb hk) (λh hh=>by
        rw[fw (lb hk)]at hh;rw[hsz,fM,aY]at hh;refine .inr ⟨g,off,cap,_,by rw[ae],hh,by rw[ae];exact hroom,h4,?_,?_⟩
        · simp only[List.size_toArray,ae,bh,bG,Array.length_toList,aY]
          rw[hsz,fM,aY]at hfit;omega
        · simp only[aS]
          rw[kC (by simp only[bh,Array.length_toList];rw[hsz,fM,aY]at hfit;omega),j8,co,h6,←aS,←ii]
          rw[cv (by rw[aY];exact aL _),az (by rw[aY];exact aL _)])
       rwa [e7]at h7
   · rcases hxx with⟨rfl,hm⟩| ⟨a0,c,rfl,hc⟩
     · omega
     · have holds: ∀j u,(dH bs)[j]?=some u→w.cell? ((⟨g,off,none⟩:Addr).add j)=some u:=λj u hj=>by
        rw[pg];rw[←h6,List.getElem?_take]at hj;split at hj
        · simpa [World.cell?,hg]using hj
        · cases hj
       have hr:=run_append_grow (P:=P) w t ty e i _ ht hie hz0 ⟨g,off,none⟩ bs.length cap (dH bs) (by rw[hsz,aY,fM]) holds a0 news.length c (dH news) (by rw[hsz,aY,fM]) (λj v hj=>hc w s j v hj) (by omega) (by omega) (growslice_fits (by omega) (by rw[hby];omega));refine⟨_,_,hr,⟨rfl,rfl,rfl,by simp⟩,Ph k (lb hk) (s.drew.alloc _) λh hh=>?_⟩;have hge:=grownCap_ge w (bs.length+news.length) cap e;refine .inr ⟨w.heap.size,0,_,_,by rw[ae],hh,by rw[ae];exact hge,grownCap_le_maxLen w (bs.length+news.length) cap e (by simp only[maxLen];omega),?_,?_⟩
       · simp only[Array.size_append,List.size_toArray,size_zeroCells,aY,bf]
         have:(Value.cells (.int .u8 0)).size=1:=rfl;rw[this,fM];omega
       · simp only[Array.toList_append,aS,aV]
         rw[←aS,←ii,←aY (bs++news)];exact l7
theorem TL.appendS{s x:Operand}{k:Nat}{v vx:Value}{bs news bs':List UInt8}{t e:TypeId}(hw:Want n D ops o L)
 (ho:o.op= .call {callee:= .builtin .append,args:=#[s,x],argTypes:=#[t,t]}) (hd:o.dst=some d) (hn:Nat.blt d n=true) (ht:P.underlying t=some (.slice e))
 (hi:(P.info? e).map (λi=>(i.zero,i.size,i.bytes))=some (some (.int .u8 0),1,1)) (hs:cB L s=some v) (hx:cB L x=some vx)
 (hk:Nat.blt k H.length=true) (hH:H.getD k (λ_=>True)=gI v bs e) (hsrc: ∀w,Sat H F w→Src (Sat H F) vx news.length (dH news) 1) (hb:bs.length+news.length≤140737488355328)
 (hxs:bs++news=bs') (h: ∀v',v'.oneCell'=true→TL P w0 F n ops Q l D ((d,v')::L) (H.set k (gI v' bs' e))):TL P w0 F n ops Q (o::l) D L H:=
 kD hw λa w f sm q=>by
  obtain⟨v',w',hr,s',q'⟩:=Cd (ty:=o.type) q ht hi hk hH (hsrc w q) hb;unfold Oper.wp execOp;simp only[ho,resolve,invoke,builtin,Sem.run_bind,Sem.run_pure,Result.andThen_ok,pI,eM,mn,f.eval hs,f.eval hx,hr];rw[Oper.upon_value,hd];subst hxs;have one:v'.oneCell'=true:=(q'.sub_len k (by simpa using hk) (fw (lb hk) _)).2;exact h v' one _ w' (f.put (lb hn) v') (sm.trans s') q'
theorem TL.subLen{v:Value}{bs:List UInt8}{e:Nat}(k:Nat)(hk:Nat.blt k H.length=true)(hH:H.getD k (λ_=>True)=gI v bs e)
 (h:pq v bs.length→v.oneCell'=true→TL P w0 F n ops Q l D L H):TL P w0 F n ops Q l D L H:=yH (λw m=>m.sub_len k hk hH) λ⟨h1,h2⟩=>h h1 h2
end
theorem tc{v:Value}{z:Array Value}(h:v.oneCell'=true)(hz:z.size=1):Instr.fill (λi=>some (i*1,1)) z [(0,v)]=some #[v]:=by
 rw[Instr.fill,zI h];simp only[gD,List.size_toArray,am,aw,bf,hz,ne_eq,not_true_eq_false,decide_false,Bool.false_or];rw[if_neg (by simp)]
 have:(#[v].zipIdx.foldl (λcs (c,j)=>cs.setIfInBounds (0+j) c) z)=#[v]:=by
  match z,hz with
  | ⟨[x]⟩,_=>rfl
 simp only[bf]at this;simp only[Instr.fill];rw[this]
theorem CM{x:Value}{bs:List UInt8}{F:Hl}(hx:IsW x bs F)(i:Nat){g T:Nat}{B:List HP}(hi:Nat.blt i B.length=true)(e:B.getD i (λ_=>True)=ah g [x] T): ∀h,Dj h F→bD B h→Pp (.slice (some ⟨g,0,none⟩) 1 1) [bs] (jn h F):=λh d s=>
 .inr (.inr ⟨g,0,1,[x],T,(0,0),rfl,aL _,by decide,sN i hi e h d s,λj hj=>by
  obtain rfl:j=0:=by simpa using hj
  exact⟨[x],rfl,rfl,x,rfl,hx.more d⟩⟩)
theorem CK(i n:Nat){g T:Nat}{bs:List UInt8}{B:List HP}{F:Hl}(hn:bs.length=n)(hl:n≤9223372036854775807)(hi:Nat.blt i B.length=true)(e:B.getD i (λ_=>True)=ah g (dH bs) T): ∀h,Dj h F→bD B h→IsB (.slice (some ⟨g,0,none⟩) n n) bs (jn h F):=by
 subst hn;exact Lw i hl hi e
def eD(us:List Value)(ls:List (List UInt8))(e:Nat):HP:=λh=>us.length=ls.length∧bD (List.zipWith (λu l=>gI u l e) us ls) h
abbrev mq(te e:Nat)(v:Value)(ls:List (List UInt8)):HP:=pack λus:List Value=>[own v ls.length us te 1,eD us ls e]
theorem vU{α β γ:Type}(f:α→β→γ): ∀(us:List α) (ls:List β) (u:α) (l:β),us.length=ls.length→List.zipWith f (us++[u]) (ls++[l])=List.zipWith f us ls++[f u l]
 | [],[],_,_,_=>rfl
 | [],_::_,_,_,h=>by simp at h
 |_::_,[],_,_,h=>by simp at h
 |x::us,y::ls,u,l,h=>by simp[vU f us ls u l (by simpa using h)]
theorem uu{us:List Value}{ls:List (List UInt8)}{e:Nat}{u:Value}{l:List UInt8}{H:List HP}{h:Hl}(s:bD (eD us ls e::gI u l e::H) h):bD (eD (us++[u]) (ls++[l]) e::H) h:=by
 have t:=mV.2 s;refine cD t (λh' x=>?_) λ_ x=>x
 obtain⟨h1,h2,d,rfl,⟨hl,a⟩,b⟩:=x;refine⟨by simp[hl],?_⟩;rw[vU _ _ _ _ _ hl];exact(bZ _ _).2 ⟨h1,h2,d,rfl,a,rE b⟩
theorem zK{e:Nat}{H:List HP}{h:Hl}(s:bD H h):bD (eD [] [] e::H) h:=⟨em,h,DR h,(rc h).symm,⟨rfl,trivial⟩,s⟩
theorem xR: ∀(us:List Value) (ls:List (List UInt8)) (e:Nat) (h:Hl),us.length=ls.length→bD (List.zipWith (λu l=>gI u l e) us ls) h→∀(j:Nat) (hj:j<ls.length),∃u,us[j]?=some u∧∃h1 h2,Dj h1 h2∧h=jn h1 h2∧gI u ls[j] e h1
 | [],[],_,_,_,_,j,hj=>by simp at hj
 | [],_::_,_,_,h,_,_,_=>by simp at h
 |_::_,[],_,_,h,_,_,_=>by simp at h
 |u::us,l::ls,e,h,hl,s,0,_=>by
  obtain⟨h1,h2,d,rfl,a,_⟩:=s;exact⟨u,rfl,h1,h2,d,rfl,a⟩
 |u::us,l::ls,e,h,hl,s,j+1,hj=>by
  obtain⟨h1,h2,d,rfl,_,b⟩:=s;obtain⟨u',e1,g1,g2,d',rfl,a⟩:=xR us ls e h2 (by simpa using hl) b j (by simpa using hj);refine⟨u',by simpa using e1,g1,jn h1 g2,?_,?_,a⟩
  · obtain⟨q1,q2⟩:=nH.1 d
    exact nH.2 ⟨q1.symm,d'⟩
  · rw[nB d,jk,nB (nH.1 d).2]
theorem BN{v:Value}{bs:List UInt8}{e:Nat}{h1 G:Hl}(a:gI v bs e h1)(hG:Le h1 G):IsB v bs G:=by
 rcases a with⟨x1,x2,_⟩| ⟨g,off,cap,cur,x1,x2,x3,x4,x5,x6⟩
 · exact .inl ⟨x1,x2⟩
 · refine .inr ⟨g,off,cap,cur.toList,e,(0,0),x1,x3,by simpa [maxLen]using x4,hG _ _ (by rw[x2];simp[sg]),λj hj=>?_⟩
   have e1:=congrArg (λl:List Value=>l[j]?) x6;simp only[List.getElem?_take,if_pos hj,List.getElem?_drop]at e1;rw[e1];simp[dH,List.getD_eq_getElem?_getD,hj]
theorem uI(te e:Nat){H:List HP}{h:Hl}(s:bD H h):bD (mq te e (.slice none 0 0) []::H) h:=bp (p:=λus:List Value=>[own (.slice none 0 0) 0 us te 1,eD us [] e]) [] (fR te 1 (zK s))
theorem uK{te e:Nat}{v' u:Value}{us:List Value}{ls:List (List UInt8)}{l:List UInt8}{H:List HP}{h:Hl}(s:bD (own v' (ls.length+1) (us++[u]) te 1::eD us ls e::gI u l e::H) h):bD (mq te e v' (ls++[l])::H) h:=
 bp (p:=λus:List Value=>[own v' (ls++[l]).length us te 1,eD us (ls++[l]) e]) (us++[u]) (cD s (λ_ x=>by simpa using x) λ_ x=>uu x)
section
variable {P:Program} {w0:World} {F:Hl} {n:Nat} {ops:Array Oper} {Q:QQ} {D:List Deferred} {L:List (Nat×Value)} {H:List HP} {l:List Oper}
theorem TL.recsOpen{te e:Nat}{v:Value}{ls:List (List UInt8)}(h: ∀us,TL P w0 F n ops Q l D L (own v ls.length us te 1::eD us ls e::H)):TL P w0 F n ops Q l D L (mq te e v ls::H):=
 QJ (λ_ s=>fu s) h
abbrev MN:= @TL.recsOpen
theorem uJ{te e:Nat}{v:Value}{ls:List (List UInt8)}{h:Hl}(s:mq te e v ls h):pq v ls.length∧v.oneCell'=true:=by
 obtain⟨us,g1,g2,d2,rfl,a1,_⟩:=s;rcases a1 with⟨q0,⟨q1,q2,_⟩| ⟨g,cap,cur,q1,_⟩⟩
 · subst q1
   have:ls=[]:=List.eq_nil_of_length_eq_zero q2;subst this;exact⟨⟨_,_,rfl⟩,rfl⟩
 · subst q1;exact⟨⟨_,_,rfl⟩,rfl⟩
theorem TL.recsLen{te e:Nat}{v:Value}{ls:List (List UInt8)}(k:Nat)(hk:Nat.blt k H.length=true)(hH:H.getD k (λ_=>True)=mq te e v ls)(h:pq v ls.length→v.oneCell'=true→TL P w0 F n ops Q l D L H):TL P w0 F n ops Q l D L H:=
 yH (p:=pq v ls.length∧v.oneCell'=true) (λw ⟨h,d,e',x⟩=>by
  obtain⟨h1,h2,d',rfl,a,_⟩:=eE k (lb hk) x;rw[hH]at a
  exact uJ a) λ⟨h1,h2⟩=>h h1 h2
end
end Leg
namespace Leg
open Go Codec Api
section
variable {P:Program} {w0:World} {F:Hl} {n:Nat} {L:List (Nat×Value)} {H:List HP}
theorem TE.ret3{fn:Func}{post:Ending→List HP→Prop}{t t' t'':Nat}{v v' v'':Value}(hr:fn.results=#[.tmp t, .tmp t', .tmp t''])(e:lk L t=some v)(e':lk L t'=some v')(e'':lk L t''=some v'')(h:post (.returned (.tuple #[v,v',v''])) H):
 TE w0 F n (bodyPost P fn (jL post w0 F)) .ret [] L H:=λa w f s m=>by
 refine bodyPost_ret (results_tmp3 hr _ _ _) f.2.1 ⟨s,H,m,?_⟩;have h1:=f.eval (x:= .tmp t) e;have h2:=f.eval (x:= .tmp t') e';have h3:=f.eval (x:= .tmp t'') e'';rw[show a.tmps.getD t undef=v from h1,show a.tmps.getD t' undef=v' from h2,show a.tmps.getD t'' undef=v'' from h3];exact h
abbrev nj:= @TE.ret3
end
theorem rq{l:List UInt8}{j:Nat}(h:j<l.length):(dH l)[j]?=some (.int .u8 (((l.getD j 0).toNat:Nat):Int)):=by simp[dH,List.getD_eq_getElem?_getD,h]
theorem LK{a:Addr}{m c k:Nat}(hc:0<c):jY (.slice (some a) m c) 0 k= .slice (some a) k c:=by
 simp only[jY,if_neg (show ¬c=0 by omega),Option.map_some,Nat.sub_zero];rfl
end Leg
namespace Leg
open Go Codec Api
section
variable {P:Program} {w0:World} {F:Hl} {n:Nat} {ops:Array Oper} {Q:QQ} {D:List Deferred} {L:List (Nat×Value)} {H:List HP} {o:Oper} {l:List Oper} {d:Nat} {S:World→Prop}
end
theorem An(bs:List UInt8):Lib.strCells ⟨bs.toArray⟩=dH bs:=by simp[Lib.strCells,dH]
theorem sH(bs:List UInt8):(⟨bs.toArray⟩:ByteArray).size=bs.length:=by simp[ByteArray.size]
section
variable {P:Program} {w0:World} {F:Hl} {n:Nat} {ops:Array Oper} {Q:QQ} {D:List Deferred} {L:List (Nat×Value)} {H:List HP} {o:Oper} {l:List Oper} {d:Nat} {S:World→Prop}
theorem Cc{w:World}{k nn:Nat}{v:Value}{xs:List Value}{bs:List UInt8}{t u ty e:Nat}(s:Sat H F w)(ht:P.underlying t=some (.slice e))(hu:P.underlying u=some .string)
 (hi:(P.info? e).map (λi=>(i.zero,i.size,i.bytes))=some (some (.int .u8 0),1,1)) (hk:k<H.length) (hH:H.getD k (λ_=>True)=own v nn xs e 1) (hb:nn+bs.length≤maxLen) (hby:nn+bs.length≤140737488355328):
 ∃v' w',(Builtin.append_ #[t,u] ty #[v,lH bs]).run P w= .ok v' w'∧Same w w'∧Sat (H.set k (own v' (nn+bs.length) (xs++dH bs) e 1)) F w':=by
 obtain⟨i,hie,hz0,hs1,hb1⟩:=info_parts hi;have hlx:=s.own_len hk hH;have hsz:=sH bs;have hsc:=An bs;have hll:(xs++dH bs).length=(nn+bs.length)*1:=by rw[ae,hlx,aY,fg];omega
 have hsmall:nn+bs.length≤9223372036854775807:=by simp only[maxLen]at hb;omega
 have hz1:(Value.int IntKind.u8 0).cells.size=1:=rfl
 have fresh: ∀old,old<nn+bs.length→(∀h,yb w.heap.size (.cells (xs.toArray++(dH bs).toArray++Builtin.zeroCells (Value.int .u8 0).cells (grownCap w (nn+bs.length) old e- (nn+bs.length))) e) h→
  own (.slice (some ⟨w.heap.size,0,none⟩) (nn+bs.length) (grownCap w (nn+bs.length) old e)) (nn+bs.length) (xs++dH bs) e 1 h):=λold _ h hh=>by
  have hge:=grownCap_ge w (nn+bs.length) old e;refine⟨hll, .inr ⟨_,_,_,rfl,hh,hge,grownCap_le_maxLen w (nn+bs.length) old e hb,?_,?_⟩⟩
  · simp only[Array.size_append,List.size_toArray,size_zeroCells,hz1,hlx,aY]
    omega
  · simp only[Array.toList_append,aS]
    rw[←aS,←hll];exact l7
 have same: ∀ob,Same w (w.drew.alloc ob):=λob=>⟨rfl,rfl,rfl,by simp⟩
 have u0:bs.length=0→dH bs=[]:=λhm=>List.eq_nil_of_length_eq_zero (by rw[aY];exact hm)
 rcases s.own_form hk hH with⟨rfl,rfl,rfl⟩| ⟨g,cap,rfl⟩
 · by_cases hm:bs.length=0
   · have hn:=u0 hm
     refine⟨.slice none 0 0,w,?_,pC w,s.turn k hk (λh hh=>by rw[hH]at hh;rw[hm,hn];simpa using hh)⟩;have hf:=Lib.run_firstCells_string (P:=P) w 1 ⟨bs.toArray⟩;rw[hsz,hm]at hf;simp[Builtin.append_,run_underlying ht,run_underlying hu,Go.sizeOf,typeInfo,hie,hs1,Builtin.lenOf,hsz,hm,hf]
   · have hr:=run_append_nil_string (P:=P) w t u ty e i (.int .u8 0) ht hu hie hz0 ⟨bs.toArray⟩ (by rw[hsz];omega) (by rw[hsz];omega) (by rw[hsz,hb1];omega)
     have e1:((⟨bs.toArray⟩:ByteArray).data.map λb=>Value.int .u8 b.toNat)=(dH bs).toArray:=by
      rw[←hsc];apply Array.ext';simp[Lib.strCells]
     rw[e1,hsz]at hr;refine⟨_,_,hr,same _,?_⟩;have:=fresh 0 (by omega);simp only[bf,bK,Array.empty_append]at this ⊢;exact Ph k hk (s.drew.alloc _) this
 · obtain⟨cur,hH1,hnc,hcm,hcs,htake⟩:=s.own_open hk hH
   have hlen:k< (H.set k (yb g (.cells cur e (0,0)))).length:=by simpa using hk
   have hg:=hH1.block k hlen (fw hk _);have hcs':cur.size=cap:=by simpa using hcs
   by_cases hroom:nn+bs.length≤cap
   · have hr:=Lib.run_append_room_string (P:=P) w t u ty e i ht hu hie hs1 g nn cap cur hg ⟨bs.toArray⟩ (by rw[hsz];exact hroom) (by rw[hsz];omega)
     rw[hsz,hsc]at hr;have h2:=hH1.write k hlen (fw hk _) (setRow_heap w g cur (cur.toList.take nn++dH bs++cur.toList.drop (nn+bs.length)).toArray e _ hg) (λj hj=>setRow_other w g j _ hj);rw[e7]at h2
     have h3:=h2.turn (q:=own (.slice (some ⟨g,0,none⟩) (nn+bs.length) cap) (nn+bs.length) (xs++dH bs) e 1) k (by simpa using hk) (λh hh=>by
      rw[fw hk]at hh;refine⟨hll, .inr ⟨g,cap,_,rfl,hh,hroom,hcm,?_,?_⟩⟩
      · simp only[List.size_toArray,ae,bh,bG,Array.length_toList,aY]
        omega
      · have ht':cur.toList.take nn=xs:=by simpa using htake
        rw[ht',←hll]
        exact l7)
     rw[e7]at h3;exact⟨_,_,hr,⟨rfl,rfl,rfl,by simp⟩,h3⟩
   · have holds: ∀j u,xs[j]?=some u→w.cell? ((⟨g,0,none⟩:Addr).add j)=some u:=λj u hj=>by
      rw[pg];subst htake;rw[List.getElem?_take]at hj;split at hj
      · simpa [World.cell?,hg]using hj
      · cases hj
     have hr:=Lib.run_append_grow_string (P:=P) w t u ty e i (.int .u8 0) ht hu hie hz0 ⟨g,0,none⟩ nn cap xs (by rw[hs1];simpa using hlx) holds ⟨bs.toArray⟩ (by rw[hsz];omega) (by rw[hsz];omega) (by rw[hsz,hb1];exact growslice_fits (by omega) (by omega));rw[hsz,hsc]at hr;exact⟨_,_,hr,same _,Ph k hk (s.drew.alloc _) (fresh cap (by omega))⟩
theorem TL.appendT{s x:Operand}{k:Nat}{v:Value}{bs ys:List UInt8}{t u e:Nat}(hw:Want n D ops o L)
 (ho:o.op= .call {callee:= .builtin .append,args:=#[s,x],argTypes:=#[t,u]}) (hd:o.dst=some d) (hn:Nat.blt d n=true) (ht:P.underlying t=some (.slice e)) (hu:P.underlying u=some .string)
 (hi:(P.info? e).map (λi=>(i.zero,i.size,i.bytes))=some (some (.int .u8 0),1,1)) (hs:cB L s=some v) (hx:cB L x=some (lH ys))
 (hk:Nat.blt k H.length=true) (hH:H.getD k (λ_=>True)=ce v bs e) (hb:bs.length+ys.length≤maxLen) (hby:bs.length+ys.length≤140737488355328)
 (h: ∀v',v'.oneCell'=true→TL P w0 F n ops Q l D ((d,v')::L) (H.set k (ce v' (bs++ys) e))):TL P w0 F n ops Q (o::l) D L H:=
 kD hw λa w f sm q=>by
  obtain⟨v',w',hr,s',q'⟩:=Cc (ty:=o.type) (bs:=ys) q ht hu hi (lb hk) hH hb hby
  have e2:own v' (bs.length+ys.length) (dH bs++dH ys) e 1=ce v' (bs++ys) e:=by
   unfold ce;rw[ae,ii]
  have one:v'.oneCell'=true:=by
   rcases q'.own_form (i:=k) (by simpa using lb hk) (fw (lb hk) _)with⟨rfl,_⟩| ⟨g,c,rfl⟩<;>rfl
  rw[e2]at q';unfold Oper.wp execOp;simp only[ho,resolve,invoke,builtin,Sem.run_bind,Sem.run_pure,Result.andThen_ok,pI,eM,mn,f.eval hs,f.eval hx,hr];rw[Oper.upon_value,hd];exact h v' one _ w' (f.put (lb hn) v') (sm.trans s') q'
end
section
variable {P:Program} {w0:World} {F:Hl} {n:Nat} {ops:Array Oper} {Q:QQ} {D:List Deferred} {L:List (Nat×Value)} {H:List HP} {o:Oper} {l:List Oper} {d:Nat} {S:World→Prop}
theorem HX{w:World}{g:Nat}{cur:Array Value}{e:TypeId}(hg:w.heap[g]?=some (.cells cur e (0,0))){m:Nat}(hm:0<m):(w.freeze ⟨g,0,none⟩ m).heap[g]?=some (.cells cur e (0,m))∧(∀j,j≠g→(w.freeze ⟨g,0,none⟩ m).heap[j]?=w.heap[j]?)∧Same w (w.freeze ⟨g,0,none⟩ m):=by
 unfold World.freeze;rw[if_neg (by omega)];refine⟨?_,λj hj=>?_,⟨rfl,rfl,rfl,by simp⟩⟩
 · simp only[Array.getElem?_modify,hg]
   simp
 · simp only[Array.getElem?_modify]
   rw[if_neg (λe=>hj e.symm)]
theorem TL.unsafeStr{x y:Operand}{k g cap:Nat}{bs:List UInt8}{pt it e:TypeId}(hw:Want n D ops o L)(ho:o.op= .call {callee:= .builtin .unsafeString,args:=#[x,y],argTypes:=#[pt,it]})(hd:o.dst=some d)(hn:Nat.blt d n=true)
 (hp:P.underlying pt=some (.pointer e)) (hc:P.cellsOf e=1) (hx:cB L x=some (.pointer (some ⟨g,0,none⟩))) (hy:cB L y=some (.int .i64 ((bs.length:Nat):Int)))
 (hk:Nat.blt k H.length=true) (hH:H.getD k (λ_=>True)=ce (.slice (some ⟨g,0,none⟩) bs.length cap) bs e) (h0:0<bs.length) (h63:bs.length≤9223372036854775807)
 (h:TL P w0 F n ops Q l D ((d,lH bs)::L) (H.set k (λ_=>True))):TL P w0 F n ops Q (o::l) D L H:=
 kD hw λa w f sm q=>by
  obtain⟨cur,hH1,hnc,hcm,hcs,htake⟩:=q.own_open (lb hk) hH;have hlen:k< (H.set k (yb g (.cells cur e (0,0)))).length:=by simpa using lb hk
  have hg:=hH1.block k hlen (fw (lb hk) _);have hcs':cur.size=cap:=by simpa using hcs
  have hcell: ∀j x,bs[j]?=some x→w.cell? ((⟨g,0,none⟩:Addr).add j)=some (.int .u8 x.toNat):=λj x hj=>by
   rw[pg];have hj':(dH bs)[j]?=some (.int .u8 ((x.toNat:Nat):Int)):=by simp[dH,hj]
   rw[←htake,List.getElem?_take]at hj';split at hj'
   · simpa [World.cell?,hg]using hj'
   · cases hj'
  have hr:=Lib.run_unsafeString_row (P:=P) w pt it o.type e hp hc g cur.size (by simp[World.shape?,hg]) bs (λe=>by rw[e]at h0;exact absurd h0 (by decide)) (by omega) h63 hcell;obtain⟨h1,h2,h3⟩:=HX hg h0;have q':=hH1.write k hlen (fw (lb hk) _) h1 h2;rw[e7]at q';have q2:=q'.turn (q:=λ_=>True) k (by simpa using lb hk) (λ_ _=>trivial);rw[e7]at q2;unfold Oper.wp execOp;simp only[ho,resolve,invoke,builtin,Sem.run_bind,Sem.run_pure,Result.andThen_ok,pI,eM,mn,f.eval hx,f.eval hy,hr];rw[Oper.upon_value,hd];exact h _ _ (f.put (lb hn) (lH bs)) (sm.trans h3) q2
theorem PV.sliceData{t:TypeId}{x:Operand}{g m cap:Nat}(ho:o.op= .call {callee:= .builtin .unsafeSliceData,args:=#[x],argTypes:=#[t]})(hx:cB L x=some (.slice (some ⟨g,0,none⟩) m cap))(hc:0<cap):PV P n D L S o (.pointer (some ⟨g,0,none⟩)):=λa w f _=>by
 have:=Lib.run_unsafeSliceData_row (P:=P) (w:=w) #[t] o.type ⟨g,0,none⟩ m cap (by omega);simp[execOp,ho,resolve,invoke,builtin,f.eval hx,this]
end
section
variable {P:Program} {w0:World} {F:Hl} {n:Nat} {ops:Array Oper} {Q:QQ} {D:List Deferred} {L:List (Nat×Value)} {H:List HP} {o:Oper} {l:List Oper} {d:Nat} {S:World→Prop}
theorem KO(bs:List UInt8)(a b:Nat):(⟨bs.toArray⟩:ByteArray).extract a b=⟨((bs.take b).drop a).toArray⟩:=by
 apply ByteArray.ext;simp[ByteArray.data_extract,j8]
theorem PV.strTo{t:TypeId}{x z:Operand}{bs:List UInt8}{hi:Nat}{k':IntKind}{j:Int}(ho:o.op= .slice t x none (some z) none)(ht:P.underlying t=some .string)(hx:cB L x=some (lH bs))(hz:cB L z=some (.int k' j))(hj:j=(hi:Int))(h2:hi≤bs.length):PV P n D L S o (lH (bs.take hi)):=
 λb w g _=>by
  subst hj;simp only[execOp,ho,g.eval hx,Option.map_some,Option.map_none,g.eval hz];have hs:=sH bs;simp[Instr.sliceAt,Instr.slice,run_underlying ht,Instr.sliceBounds,Instr.sliceBound,asIntOf,hs,h2,KO]
theorem PV.strLen{t:TypeId}{x:Operand}{bs:List UInt8}(ho:o.op= .call {callee:= .builtin .len,args:=#[x],argTypes:=#[t]})(ht:P.underlying t=some .string)(hx:cB L x=some (lH bs)):PV P n D L S o (.int .i64 ((bs.length:Nat):Int)):=λb w g _=>by
 have hs:=sH bs;simp[execOp,ho,resolve,g.eval hx,invoke,builtin,Builtin.len_,run_underlying ht,goInt,hs]
abbrev QL:= @PV.strLen
theorem PV.toUnsafe{t t' u e:TypeId}{x:Operand}{b j m:Nat}{cs:List Value}{z:Nat×Nat}(ho:o.op= .convert t t' x)(ht:P.underlying t=some (.pointer u))(ht':P.underlying t'=some .unsafePointer)(hs:(P.info? u).map (·.size)=some (m+1))(hx:cB L x=some (.pointer (some ⟨b,j,none⟩)))
 (hR:Rd S b (.cells cs.toArray e z)) (hj:j<cs.length):PV P n D L S o (.pointer (some ⟨b,j,none⟩)):=λa w g q=>by
 obtain⟨i,hu,hi0⟩:=Option.map_eq_some_iff.1 hs;have hi:i.size≠0:=by rw[hi0];exact Nat.succ_ne_zero m
 have hb:=hR w q;have:=Lib.run_to_unsafe (P:=P) w ⟨b,j,none⟩ ht ht' hu hi (e:=e) (cells:=cs.length) (by simp[World.shape?,hb]) hj;simp[execOp,ho,g.eval hx,this]
theorem PV.ofUnsafe{t t' u e:TypeId}{x:Operand}{b j k:Nat}{cs:List Value}{z:Nat×Nat}(ho:o.op= .convert t t' x)(ht:P.underlying t=some .unsafePointer)(ht':P.underlying t'=some (.pointer u))(hs:(P.info? u).map (·.size)=some k)(hx:cB L x=some (.pointer (some ⟨b,j,none⟩)))
 (hR:Rd S b (.cells cs.toArray e z)) (hl:liesAt P P.depth e (cs.length / P.cellsOf e) j u 1=true):PV P n D L S o (.pointer (some ⟨b,j,none⟩)):=λa w g q=>by
 obtain⟨i,hu,_⟩:=Option.map_eq_some_iff.1 hs;have hb:=hR w q;have:=Lib.run_from_unsafe (P:=P) w ⟨b,j,none⟩ ht ht' hu (e:=e) (cells:=cs.length) (by simp[World.shape?,hb]) hl;simp[execOp,ho,g.eval hx,this]
theorem PV.ptrNeqSame{t t' te k:TypeId}{x y:Operand}{a:Addr}(ho:o.op= .binOp .neq t x y t')(ht:P.underlying t=some (.pointer te))(hs:(P.info? te).map (·.size)=some k)(hx:cB L x=some (.pointer (some a)))(hy:cB L y=some (.pointer (some a))):PV P n D L S o (.bool false):=
 fO ho hx hy (λw=>by
  obtain⟨i,hi,_⟩:=Option.map_eq_some_iff.1 hs;have:=Lib.run_neq_ptr_same (P:=P) w a ht hi
  simpa [eqGuard]using this)
theorem PV.noEscape {f : FuncId} {fn : Func} {x : Operand} {ts : Array TypeId} {v : Value} (ho : o.op = .call { callee := .value (.func f), args := #[x], argTypes := ts }) (hf : P.funcs[f]? = some fn) (hname : (fn.name == "runtime.NumGoroutine") = false) (hb : fn.body.isNone = true) (hn : Extern.findNext fn = none)
 (he:Extern.find fn=some Extern.AbiNoEscape.same) (hx:cB L x=some v):PV P n D L S o v:=λa w g _=>by
 have h:=run_callFunc_extern hf hname hb hn he #[v] w;rw[Lib.run_noEscape]at h;have hr:(callFunc f #[v]).run P w= .ok (.value v) w:=h;have e:(#[x].map a.eval)=#[v]:=by simp[g.eval hx]
 simp only[execOp,ho,resolve];rw[e];simp[Act.eval,Deferred.ofValue,invoke,hr]
end
end Leg
end

namespace Go.Proofs.YtfocodjhmkokpaaGreatDoor
abbrev Y3:=Tryz.underlying3
abbrev Y4:=Tryz.underlying4
abbrev Y5:=Tryz.underlying5
abbrev Y9:=Tryz.underlying9
abbrev Kq:=Tryz.underlying22
abbrev NH:=Tryz.underlying25
abbrev uA:=Tryz.underlying28
abbrev jO:=Tryz.underlying30
abbrev eH:=Tryz.underlying32
abbrev mM:=Tryz.underlying35
abbrev Bo:=Tryz.underlying36
abbrev MM:=Tryz.underlying37
abbrev dV:=Tryz.underlying39
abbrev iO:=Tryz.underlying41
abbrev DI:=Tryz.underlying43
abbrev Ii:=Tryz.underlying47
abbrev fE:=Tryz.underlying53
abbrev ng:=Tryz.underlying61
abbrev ff:=Tryz.underlying63
abbrev KE:=Tryz.underlying67
abbrev Ih:=Tryz.underlying68
abbrev L1:=Tryz.underlying69
abbrev vw:=Tryz.underlying70
abbrev PF:=Tryz.underlying71
abbrev pL:=Tryz.underlying73
abbrev Ig:=Tryz.underlying75
abbrev NG:=Tryz.underlying78
abbrev kf:=Tryz.underlying80
abbrev pK:=Tryz.underlying82
abbrev pA:=Tryz.underlying83
abbrev Pf:=Tryz.underlying85
abbrev de:=Tryz.underlying87
abbrev KC:=Tryz.underlying94
abbrev ML:=Tryz.underlying98
abbrev yG:=Tryz.underlying100
abbrev DK:=Tryz.underlying102
abbrev FJ:=Tryz.underlying113
abbrev Bn:=Tryz.underlying131
abbrev yF:=Tryz.underlying137
abbrev iS:=Tryz.underlying138
abbrev gL:=Tryz.underlying140
abbrev vA:=Tryz.underlying141
abbrev ef:=Tryz.underlying146
abbrev be:=Tryz.underlying163
abbrev pB:=Tryz.underlying173
abbrev pi:=Tryz.underlying175
abbrev vz:=Tryz.underlying182
abbrev DJ:=Tryz.underlying184
abbrev qV:=Tryz.underlying186
abbrev jB:=Tryz.underlying207
abbrev Bm:=Tryz.underlying219
abbrev Ij:=Tryz.underlying221
abbrev L2:=Tryz.underlying237
abbrev Kp:=Tryz.underlying247
abbrev Bl:=Tryz.underlying254
end Go.Proofs.YtfocodjhmkokpaaGreatDoor
section
namespace Go.Proofs.YtfocodjhmkokpaaGreatDoor
open Go Leg
theorem aR:(Tryz.prog.info? 3).map (·.size)=some 1:=by kernel_rfl
theorem oD:(Tryz.prog.info? 3).map (λi=>(i.zero,i.size,i.bytes))=some (some (.int .i64 0),1,8):=by kernel_rfl
theorem lc:(Tryz.prog.info? 4).map (·.size)=some 1:=by kernel_rfl
theorem z4:(Tryz.prog.info? 4).map (·.zero)=some (some (.bool false)):=by kernel_rfl
theorem jK:(Tryz.prog.info? 5).map (·.size)=some 1:=by kernel_rfl
theorem yc:(Tryz.prog.info? 5).map (λi=>(i.zero,i.size,i.bytes))=some (some (.int .u8 0),1,1):=by kernel_rfl
theorem GK:(Tryz.prog.info? 25).map (·.size)=some 1:=by kernel_rfl
theorem kh:(Tryz.prog.info? 28).map (·.size)=some 1:=by kernel_rfl
theorem eW:(Tryz.prog.info? 30).map (·.size)=some 5:=by kernel_rfl
theorem NU:(Tryz.prog.info? 30).map (·.zero)=some (some (.agg #[.int .i64 0, .int .i64 0, .int .i64 0, .int .i64 0, .int .i64 0])):=by kernel_rfl
theorem bg:(Tryz.prog.info? 32).map (·.size)=some 7:=by kernel_rfl
theorem sh:(Tryz.prog.info? 32).map (·.zero)=some (some (.agg #[.int .i64 0, .int .i64 0, .int .i64 0, .int .i64 0, .int .i64 0, .int .i64 0, .int .i64 0])):=by kernel_rfl
theorem fy:(Tryz.prog.info? 35).map (·.size)=some 7:=by kernel_rfl
theorem Kx:(Tryz.prog.info? 35).map (·.zero)=some (some (.agg #[.int .i64 0, .int .i64 0, .int .i64 0, .int .i64 0, .int .i64 0, .int .i64 0, .int .i64 0])):=by kernel_rfl
theorem lG:(Tryz.prog.info? 36).map (·.size)=some 28:=by kernel_rfl
theorem BJ:(Tryz.prog.info? 37).map (·.size)=some 140:=by kernel_rfl
theorem ba:(Tryz.prog.info? 39).map (·.size)=some 174:=by kernel_rfl
theorem uB:(Tryz.prog.info? 39).map (·.zero)=some (some (.agg (Api.ints Api.RowT.zero.flat).toArray)):=by kernel_rfl
theorem yk:(Tryz.prog.info? 43).map (·.size)=some 1:=by kernel_rfl
theorem MX:(Tryz.prog.info? 45).map (·.size)=some 1:=by kernel_rfl
theorem Al:(Tryz.prog.info? 47).map (·.size)=some 3:=by kernel_rfl
theorem HT:(Tryz.prog.info? 47).map (λi=>(i.zero,i.size,i.bytes))=some (some (.agg #[.int .i64 0, .int .i64 0, .int .i64 0]),3,24):=by kernel_rfl
theorem PH:(Tryz.prog.info? 47).map (·.zero)=some (some (.agg #[.int .i64 0, .int .i64 0, .int .i64 0])):=by kernel_rfl
theorem kL:(Tryz.prog.info? 53).map (·.size)=some 1:=by kernel_rfl
theorem HS:(Tryz.prog.info? 53).map (λi=>(i.zero,i.size,i.bytes))=some (some (.slice none 0 0),1,24):=by kernel_rfl
theorem z53:(Tryz.prog.info? 53).map (·.zero)=some (some (.slice none 0 0)):=by kernel_rfl
theorem fq:(Tryz.prog.info? 61).map (·.size)=some 3:=by kernel_rfl
theorem PA:(Tryz.prog.info? 61).map (·.zero)=some (some (.agg #[.int .i64 0, .int .i64 0, .int .i64 0])):=by kernel_rfl
theorem qT:(Tryz.prog.info? 63).map (·.size)=some 11:=by kernel_rfl
theorem HQ:(Tryz.prog.info? 63).map (λi=>(i.zero,i.size,i.bytes))=some (some (.agg #[.int .i64 0, .int .i64 0, .int .i64 0, .int .i64 0, .int .i64 0, .int .i64 0, .int .i64 0, .int .i64 0, .int .i64 0, .int .i64 0, .int .i64 0]),11,88):=by kernel_rfl
theorem PG:(Tryz.prog.info? 63).map (·.zero)=some (some (.agg #[.int .i64 0, .int .i64 0, .int .i64 0, .int .i64 0, .int .i64 0, .int .i64 0, .int .i64 0, .int .i64 0, .int .i64 0, .int .i64 0, .int .i64 0])):=by kernel_rfl
theorem BI:(Tryz.prog.info? 67).map (·.size)=some 1:=by kernel_rfl
theorem vi:(Tryz.prog.info? 68).map (·.size)=some 1:=by kernel_rfl
theorem Ak:(Tryz.prog.info? 69).map (·.size)=some 5:=by kernel_rfl
theorem pw:(Tryz.prog.info? 70).map (·.size)=some 5:=by kernel_rfl
theorem QI:(Tryz.prog.info? 70).map (·.zero)=some (some (.agg #[.pointer none, .pointer none, .pointer none, .pointer none, .pointer none])):=by kernel_rfl
theorem KN:(Tryz.prog.info? 71).map (·.size)=some 5:=by kernel_rfl
theorem PL:(Tryz.prog.info? 74).map (·.size)=some 1:=by kernel_rfl
theorem MW:(Tryz.prog.info? 76).map (·.size)=some 5:=by kernel_rfl
theorem cw:(Tryz.prog.info? 80).map (·.size)=some 2:=by kernel_rfl
theorem Pz:(Tryz.prog.info? 80).map (·.zero)=some (some (.agg #[.int .i64 0, .int .i64 0])):=by kernel_rfl
theorem fG:(Tryz.prog.info? 82).map (·.size)=some 8:=by kernel_rfl
theorem Ir:(Tryz.prog.info? 82).map (·.zero)=some (some (.agg #[.int .i64 0, .int .i64 0, .int .i64 0, .int .i64 0, .int .i64 0, .int .i64 0, .int .i64 0, .int .i64 0])):=by kernel_rfl
theorem mU:(Tryz.prog.info? 83).map (·.size)=some 1:=by kernel_rfl
theorem QH:(Tryz.prog.info? 94).map (·.zero)=some (some (.agg #[.int .i64 0, .int .i64 0, .int .i64 0, .int .i64 0, .int .i64 0, .int .i64 0, .int .i64 0, .int .i64 0, .int .i64 0, .int .i64 0, .int .i64 0, .int .i64 0, .int .i64 0, .int .i64 0, .int .i64 0, .int .i64 0, .int .i64 0, .int .i64 0, .int .i64 0, .int .i64 0, .int .i64 0, .int .i64 0, .int .i64 0, .int .i64 0, .int .i64 0, .int .i64 0, .int .i64 0, .int .i64 0, .int .i64 0, .int .i64 0, .int .i64 0, .int .i64 0, .int .i64 0, .int .i64 0, .int .i64 0])):=by kernel_rfl
theorem IL:(Tryz.prog.info? 98).map (·.size)=some 1:=by kernel_rfl
theorem wt:(Tryz.prog.info? 100).map (·.size)=some 2:=by kernel_rfl
theorem IM:(Tryz.prog.info? 131).map (·.size)=some 1:=by kernel_rfl
theorem Mc:(Tryz.prog.info? 132).map (·.size)=some 5:=by kernel_rfl
theorem Mb:(Tryz.prog.info? 133).map (·.size)=some 25:=by kernel_rfl
theorem BK:(Tryz.prog.info? 137).map (·.size)=some 1:=by kernel_rfl
theorem gH:(Tryz.prog.info? 138).map (·.size)=some 1:=by kernel_rfl
theorem fH:(Tryz.prog.info? 146).map (·.size)=some 189:=by kernel_rfl
theorem Is:(Tryz.prog.info? 146).map (·.zero)=some (some (.agg (Api.ints Api.RecT.zero.flat).toArray)):=by kernel_rfl
theorem cd:(Tryz.prog.info? 163).map (·.size)=some 192:=by kernel_rfl
theorem mw:(Tryz.prog.info? 163).map (·.zero)=some (some (.agg (Api.ints Api.MsgT.zero.flat).toArray)):=by kernel_rfl
theorem jF:(Tryz.prog.info? 173).map (·.size)=some 64:=by kernel_rfl
theorem z173:(Tryz.prog.info? 173).map (·.zero)=some (some (.agg #[.int .u8 0, .int .u8 0, .int .u8 0, .int .u8 0, .int .u8 0, .int .u8 0, .int .u8 0, .int .u8 0, .int .u8 0, .int .u8 0, .int .u8 0, .int .u8 0, .int .u8 0, .int .u8 0, .int .u8 0, .int .u8 0, .int .u8 0, .int .u8 0, .int .u8 0, .int .u8 0, .int .u8 0, .int .u8 0, .int .u8 0, .int .u8 0, .int .u8 0, .int .u8 0, .int .u8 0, .int .u8 0, .int .u8 0, .int .u8 0, .int .u8 0, .int .u8 0, .int .u8 0, .int .u8 0, .int .u8 0, .int .u8 0, .int .u8 0, .int .u8 0, .int .u8 0, .int .u8 0, .int .u8 0, .int .u8 0, .int .u8 0, .int .u8 0, .int .u8 0, .int .u8 0, .int .u8 0, .int .u8 0, .int .u8 0, .int .u8 0, .int .u8 0, .int .u8 0, .int .u8 0, .int .u8 0, .int .u8 0, .int .u8 0, .int .u8 0, .int .u8 0, .int .u8 0, .int .u8 0, .int .u8 0, .int .u8 0, .int .u8 0, .int .u8 0])):=by kernel_rfl
theorem mp:(Tryz.prog.info? 175).map (·.size)=some 65:=by kernel_rfl
theorem mr:(Tryz.prog.info? 175).map (λi=>(i.zero,i.size,i.bytes))=some (some (.agg #[.int .i64 0, .int .u8 0, .int .u8 0, .int .u8 0, .int .u8 0, .int .u8 0, .int .u8 0, .int .u8 0, .int .u8 0, .int .u8 0, .int .u8 0, .int .u8 0, .int .u8 0, .int .u8 0, .int .u8 0, .int .u8 0, .int .u8 0, .int .u8 0, .int .u8 0, .int .u8 0, .int .u8 0, .int .u8 0, .int .u8 0, .int .u8 0, .int .u8 0, .int .u8 0, .int .u8 0, .int .u8 0, .int .u8 0, .int .u8 0, .int .u8 0, .int .u8 0, .int .u8 0, .int .u8 0, .int .u8 0, .int .u8 0, .int .u8 0, .int .u8 0, .int .u8 0, .int .u8 0, .int .u8 0, .int .u8 0, .int .u8 0, .int .u8 0, .int .u8 0, .int .u8 0, .int .u8 0, .int .u8 0, .int .u8 0, .int .u8 0, .int .u8 0, .int .u8 0, .int .u8 0, .int .u8 0, .int .u8 0, .int .u8 0, .int .u8 0, .int .u8 0, .int .u8 0, .int .u8 0, .int .u8 0, .int .u8 0, .int .u8 0, .int .u8 0, .int .u8 0]),65,72):=by kernel_rfl
theorem Gw:(Tryz.prog.info? 175).map (·.zero)=some (some (.agg #[.int .i64 0, .int .u8 0, .int .u8 0, .int .u8 0, .int .u8 0, .int .u8 0, .int .u8 0, .int .u8 0, .int .u8 0, .int .u8 0, .int .u8 0, .int .u8 0, .int .u8 0, .int .u8 0, .int .u8 0, .int .u8 0, .int .u8 0, .int .u8 0, .int .u8 0, .int .u8 0, .int .u8 0, .int .u8 0, .int .u8 0, .int .u8 0, .int .u8 0, .int .u8 0, .int .u8 0, .int .u8 0, .int .u8 0, .int .u8 0, .int .u8 0, .int .u8 0, .int .u8 0, .int .u8 0, .int .u8 0, .int .u8 0, .int .u8 0, .int .u8 0, .int .u8 0, .int .u8 0, .int .u8 0, .int .u8 0, .int .u8 0, .int .u8 0, .int .u8 0, .int .u8 0, .int .u8 0, .int .u8 0, .int .u8 0, .int .u8 0, .int .u8 0, .int .u8 0, .int .u8 0, .int .u8 0, .int .u8 0, .int .u8 0, .int .u8 0, .int .u8 0, .int .u8 0, .int .u8 0, .int .u8 0, .int .u8 0, .int .u8 0, .int .u8 0, .int .u8 0])):=by kernel_rfl
theorem uF:(Tryz.prog.info? 182).map (·.size)=some 1:=by kernel_rfl
theorem PJ:(Tryz.prog.info? 219).map (·.zero)=some (some (.agg #[.slice none 0 0])):=by kernel_rfl
theorem NZ:(Tryz.prog.info? 221).map (·.size)=some 0:=by kernel_rfl
theorem PI:(Tryz.prog.info? 221).map (·.zero)=some (some (.agg #[])):=by kernel_rfl
theorem NV:(Tryz.prog.info? 247).map (·.zero)=some (some (.agg #[.slice none 0 0])):=by kernel_rfl
theorem QS:Named Tryz.prog 7:=⟨Tryz.f7,Tryz.func7,by kernel_rfl,by kernel_rfl⟩
theorem QR:Named Tryz.prog 8:=⟨Tryz.f8,Tryz.func8,by kernel_rfl,by kernel_rfl⟩
theorem QP:Named Tryz.prog 9:=⟨Tryz.f9,Tryz.func9,by kernel_rfl,by kernel_rfl⟩
theorem O0:Named Tryz.prog 11:=⟨Tryz.f11,Tryz.func11,by kernel_rfl,by kernel_rfl⟩
theorem Lm:Named Tryz.prog 12:=⟨Tryz.f12,Tryz.func12,by kernel_rfl,by kernel_rfl⟩
theorem Qo:Named Tryz.prog 13:=⟨Tryz.f13,Tryz.func13,by kernel_rfl,by kernel_rfl⟩
theorem Ll:Named Tryz.prog 14:=⟨Tryz.f14,Tryz.func14,by kernel_rfl,by kernel_rfl⟩
theorem HC:Named Tryz.prog 15:=⟨Tryz.f15,Tryz.func15,by kernel_rfl,by kernel_rfl⟩
theorem OF:Named Tryz.prog 16:=⟨Tryz.f16,Tryz.func16,by kernel_rfl,by kernel_rfl⟩
theorem Oz:Named Tryz.prog 17:=⟨Tryz.f17,Tryz.func17,by kernel_rfl,by kernel_rfl⟩
theorem Qn:Named Tryz.prog 18:=⟨Tryz.f18,Tryz.func18,by kernel_rfl,by kernel_rfl⟩
theorem Ov:Named Tryz.prog 19:=⟨Tryz.f19,Tryz.func19,by kernel_rfl,by kernel_rfl⟩
theorem Ot:Named Tryz.prog 20:=⟨Tryz.f20,Tryz.func20,by kernel_rfl,by kernel_rfl⟩
theorem Qm:Named Tryz.prog 21:=⟨Tryz.f21,Tryz.func21,by kernel_rfl,by kernel_rfl⟩
theorem Ql:Named Tryz.prog 22:=⟨Tryz.f22,Tryz.func22,by kernel_rfl,by kernel_rfl⟩
theorem Qk:Named Tryz.prog 23:=⟨Tryz.f23,Tryz.func23,by kernel_rfl,by kernel_rfl⟩
theorem Oj:Named Tryz.prog 25:=⟨Tryz.f25,Tryz.func25,by kernel_rfl,by kernel_rfl⟩
theorem Jj:Named Tryz.prog 28:=⟨Tryz.f28,Tryz.func28,by kernel_rfl,by kernel_rfl⟩
theorem Cr:Named Tryz.prog 29:=⟨Tryz.f29,Tryz.func29,by kernel_rfl,by kernel_rfl⟩
theorem qb:Named Tryz.prog 30:=⟨Tryz.f30,Tryz.func30,by kernel_rfl,by kernel_rfl⟩
theorem Qj:Named Tryz.prog 31:=⟨Tryz.f31,Tryz.func31,by kernel_rfl,by kernel_rfl⟩
theorem Oi:Named Tryz.prog 32:=⟨Tryz.f32,Tryz.func32,by kernel_rfl,by kernel_rfl⟩
theorem Qi:Named Tryz.prog 33:=⟨Tryz.f33,Tryz.func33,by kernel_rfl,by kernel_rfl⟩
theorem Lk:Named Tryz.prog 34:=⟨Tryz.f34,Tryz.func34,by kernel_rfl,by kernel_rfl⟩
theorem Nn:Named Tryz.prog 35:=⟨Tryz.f35,Tryz.func35,by kernel_rfl,by kernel_rfl⟩
theorem Qh:Named Tryz.prog 36:=⟨Tryz.f36,Tryz.func36,by kernel_rfl,by kernel_rfl⟩
theorem Qg:Named Tryz.prog 37:=⟨Tryz.f37,Tryz.func37,by kernel_rfl,by kernel_rfl⟩
theorem Qf:Named Tryz.prog 38:=⟨Tryz.f38,Tryz.func38,by kernel_rfl,by kernel_rfl⟩
theorem EJ:Named Tryz.prog 39:=⟨Tryz.f39,Tryz.func39,by kernel_rfl,by kernel_rfl⟩
theorem Qd:Named Tryz.prog 41:=⟨Tryz.f41,Tryz.func41,by kernel_rfl,by kernel_rfl⟩
theorem Oh:Named Tryz.prog 42:=⟨Tryz.f42,Tryz.func42,by kernel_rfl,by kernel_rfl⟩
theorem Nl:Named Tryz.prog 43:=⟨Tryz.f43,Tryz.func43,by kernel_rfl,by kernel_rfl⟩
theorem Qc:Named Tryz.prog 45:=⟨Tryz.f45,Tryz.func45,by kernel_rfl,by kernel_rfl⟩
theorem Qb:Named Tryz.prog 46:=⟨Tryz.f46,Tryz.func46,by kernel_rfl,by kernel_rfl⟩
theorem Qa:Named Tryz.prog 47:=⟨Tryz.f47,Tryz.func47,by kernel_rfl,by kernel_rfl⟩
theorem P9:Named Tryz.prog 48:=⟨Tryz.f48,Tryz.func48,by kernel_rfl,by kernel_rfl⟩
theorem Og:Named Tryz.prog 49:=⟨Tryz.f49,Tryz.func49,by kernel_rfl,by kernel_rfl⟩
theorem Of:Named Tryz.prog 50:=⟨Tryz.f50,Tryz.func50,by kernel_rfl,by kernel_rfl⟩
theorem Oe:Named Tryz.prog 53:=⟨Tryz.f53,Tryz.func53,by kernel_rfl,by kernel_rfl⟩
theorem Od:Named Tryz.prog 54:=⟨Tryz.f54,Tryz.func54,by kernel_rfl,by kernel_rfl⟩
theorem P8:Named Tryz.prog 55:=⟨Tryz.f55,Tryz.func55,by kernel_rfl,by kernel_rfl⟩
theorem Ji:Named Tryz.prog 56:=⟨Tryz.f56,Tryz.func56,by kernel_rfl,by kernel_rfl⟩
theorem Nk:Named Tryz.prog 57:=⟨Tryz.f57,Tryz.func57,by kernel_rfl,by kernel_rfl⟩
theorem Nj:Named Tryz.prog 58:=⟨Tryz.f58,Tryz.func58,by kernel_rfl,by kernel_rfl⟩
theorem Jh:Named Tryz.prog 59:=⟨Tryz.f59,Tryz.func59,by kernel_rfl,by kernel_rfl⟩
theorem P7:Named Tryz.prog 60:=⟨Tryz.f60,Tryz.func60,by kernel_rfl,by kernel_rfl⟩
theorem Lj:Named Tryz.prog 61:=⟨Tryz.f61,Tryz.func61,by kernel_rfl,by kernel_rfl⟩
theorem Oc:Named Tryz.prog 62:=⟨Tryz.f62,Tryz.func62,by kernel_rfl,by kernel_rfl⟩
theorem P6:Named Tryz.prog 65:=⟨Tryz.f65,Tryz.func65,by kernel_rfl,by kernel_rfl⟩
theorem P5:Named Tryz.prog 66:=⟨Tryz.f66,Tryz.func66,by kernel_rfl,by kernel_rfl⟩
theorem Nh:Named Tryz.prog 67:=⟨Tryz.f67,Tryz.func67,by kernel_rfl,by kernel_rfl⟩
theorem P0:Named Tryz.prog 68:=⟨Tryz.f68,Tryz.func68,by kernel_rfl,by kernel_rfl⟩
theorem PZ:Named Tryz.prog 69:=⟨Tryz.f69,Tryz.func69,by kernel_rfl,by kernel_rfl⟩
theorem qa:Named Tryz.prog 71:=⟨Tryz.f71,Tryz.func71,by kernel_rfl,by kernel_rfl⟩
theorem PY:Named Tryz.prog 72:=⟨Tryz.f72,Tryz.func72,by kernel_rfl,by kernel_rfl⟩
theorem Oa:Named Tryz.prog 73:=⟨Tryz.f73,Tryz.func73,by kernel_rfl,by kernel_rfl⟩
theorem ug:Named Tryz.prog 74:=⟨Tryz.f74,Tryz.func74,by kernel_rfl,by kernel_rfl⟩
theorem Ng:Named Tryz.prog 75:=⟨Tryz.f75,Tryz.func75,by kernel_rfl,by kernel_rfl⟩
theorem EI:Named Tryz.prog 76:=⟨Tryz.f76,Tryz.func76,by kernel_rfl,by kernel_rfl⟩
theorem EH:Named Tryz.prog 77:=⟨Tryz.f77,Tryz.func77,by kernel_rfl,by kernel_rfl⟩
theorem PX:Named Tryz.prog 78:=⟨Tryz.f78,Tryz.func78,by kernel_rfl,by kernel_rfl⟩
theorem N9:Named Tryz.prog 79:=⟨Tryz.f79,Tryz.func79,by kernel_rfl,by kernel_rfl⟩
theorem N8:Named Tryz.prog 80:=⟨Tryz.f80,Tryz.func80,by kernel_rfl,by kernel_rfl⟩
theorem PW:Named Tryz.prog 81:=⟨Tryz.f81,Tryz.func81,by kernel_rfl,by kernel_rfl⟩
theorem N7:Named Tryz.prog 82:=⟨Tryz.f82,Tryz.func82,by kernel_rfl,by kernel_rfl⟩
theorem Nf:Named Tryz.prog 83:=⟨Tryz.f83,Tryz.func83,by kernel_rfl,by kernel_rfl⟩
theorem Li:Named Tryz.prog 84:=⟨Tryz.f84,Tryz.func84,by kernel_rfl,by kernel_rfl⟩
theorem Nd:Named Tryz.prog 85:=⟨Tryz.f85,Tryz.func85,by kernel_rfl,by kernel_rfl⟩
theorem Nc:Named Tryz.prog 86:=⟨Tryz.f86,Tryz.func86,by kernel_rfl,by kernel_rfl⟩
theorem Lh:Named Tryz.prog 87:=⟨Tryz.f87,Tryz.func87,by kernel_rfl,by kernel_rfl⟩
theorem Nb:Named Tryz.prog 88:=⟨Tryz.f88,Tryz.func88,by kernel_rfl,by kernel_rfl⟩
theorem ub:Named Tryz.prog 89:=⟨Tryz.f89,Tryz.func89,by kernel_rfl,by kernel_rfl⟩
theorem m4:Named Tryz.prog 90:=⟨Tryz.f90,Tryz.func90,by kernel_rfl,by kernel_rfl⟩
theorem Na:Named Tryz.prog 91:=⟨Tryz.f91,Tryz.func91,by kernel_rfl,by kernel_rfl⟩
theorem Lg:Named Tryz.prog 92:=⟨Tryz.f92,Tryz.func92,by kernel_rfl,by kernel_rfl⟩
theorem M9:Named Tryz.prog 93:=⟨Tryz.f93,Tryz.func93,by kernel_rfl,by kernel_rfl⟩
theorem PT:Named Tryz.prog 94:=⟨Tryz.f94,Tryz.func94,by kernel_rfl,by kernel_rfl⟩
theorem M8:Named Tryz.prog 95:=⟨Tryz.f95,Tryz.func95,by kernel_rfl,by kernel_rfl⟩
theorem M7:Named Tryz.prog 96:=⟨Tryz.f96,Tryz.func96,by kernel_rfl,by kernel_rfl⟩
theorem Ld:Named Tryz.prog 97:=⟨Tryz.f97,Tryz.func97,by kernel_rfl,by kernel_rfl⟩
theorem N6:Named Tryz.prog 98:=⟨Tryz.f98,Tryz.func98,by kernel_rfl,by kernel_rfl⟩
theorem Lc:Named Tryz.prog 99:=⟨Tryz.f99,Tryz.func99,by kernel_rfl,by kernel_rfl⟩
theorem Ct:Named Tryz.prog 100:=⟨Tryz.f100,Tryz.func100,by kernel_rfl,by kernel_rfl⟩
theorem O3:Named Tryz.prog 103:=⟨Tryz.f103,Tryz.func103,by kernel_rfl,by kernel_rfl⟩
theorem Jw:Named Tryz.prog 104:=⟨Tryz.f104,Tryz.func104,by kernel_rfl,by kernel_rfl⟩
theorem MC:Named Tryz.prog 105:=⟨Tryz.f105,Tryz.func105,by kernel_rfl,by kernel_rfl⟩
theorem O2:Named Tryz.prog 106:=⟨Tryz.f106,Tryz.func106,by kernel_rfl,by kernel_rfl⟩
theorem O1:Named Tryz.prog 107:=⟨Tryz.f107,Tryz.func107,by kernel_rfl,by kernel_rfl⟩
theorem MB:Named Tryz.prog 108:=⟨Tryz.f108,Tryz.func108,by kernel_rfl,by kernel_rfl⟩
theorem MA:Named Tryz.prog 109:=⟨Tryz.f109,Tryz.func109,by kernel_rfl,by kernel_rfl⟩
theorem OY:Named Tryz.prog 110:=⟨Tryz.f110,Tryz.func110,by kernel_rfl,by kernel_rfl⟩
theorem OX:Named Tryz.prog 111:=⟨Tryz.f111,Tryz.func111,by kernel_rfl,by kernel_rfl⟩
theorem OW:Named Tryz.prog 112:=⟨Tryz.f112,Tryz.func112,by kernel_rfl,by kernel_rfl⟩
theorem Mz:Named Tryz.prog 113:=⟨Tryz.f113,Tryz.func113,by kernel_rfl,by kernel_rfl⟩
theorem xa:Named Tryz.prog 114:=⟨Tryz.f114,Tryz.func114,by kernel_rfl,by kernel_rfl⟩
theorem My:Named Tryz.prog 115:=⟨Tryz.f115,Tryz.func115,by kernel_rfl,by kernel_rfl⟩
theorem Jv:Named Tryz.prog 116:=⟨Tryz.f116,Tryz.func116,by kernel_rfl,by kernel_rfl⟩
theorem Mx:Named Tryz.prog 117:=⟨Tryz.f117,Tryz.func117,by kernel_rfl,by kernel_rfl⟩
theorem OV:Named Tryz.prog 118:=⟨Tryz.f118,Tryz.func118,by kernel_rfl,by kernel_rfl⟩
theorem OU:Named Tryz.prog 119:=⟨Tryz.f119,Tryz.func119,by kernel_rfl,by kernel_rfl⟩
theorem OT:Named Tryz.prog 120:=⟨Tryz.f120,Tryz.func120,by kernel_rfl,by kernel_rfl⟩
theorem OS:Named Tryz.prog 121:=⟨Tryz.f121,Tryz.func121,by kernel_rfl,by kernel_rfl⟩
theorem OR:Named Tryz.prog 122:=⟨Tryz.f122,Tryz.func122,by kernel_rfl,by kernel_rfl⟩
theorem Ju:Named Tryz.prog 123:=⟨Tryz.f123,Tryz.func123,by kernel_rfl,by kernel_rfl⟩
theorem OQ:Named Tryz.prog 124:=⟨Tryz.f124,Tryz.func124,by kernel_rfl,by kernel_rfl⟩
theorem OP:Named Tryz.prog 125:=⟨Tryz.f125,Tryz.func125,by kernel_rfl,by kernel_rfl⟩
theorem F6:Named Tryz.prog 126:=⟨Tryz.f126,Tryz.func126,by kernel_rfl,by kernel_rfl⟩
theorem Cs:Named Tryz.prog 127:=⟨Tryz.f127,Tryz.func127,by kernel_rfl,by kernel_rfl⟩
theorem jh:Named Tryz.prog 128:=⟨Tryz.f128,Tryz.func128,by kernel_rfl,by kernel_rfl⟩
theorem Mw:Named Tryz.prog 129:=⟨Tryz.f129,Tryz.func129,by kernel_rfl,by kernel_rfl⟩
theorem F5:Named Tryz.prog 130:=⟨Tryz.f130,Tryz.func130,by kernel_rfl,by kernel_rfl⟩
theorem Mv:Named Tryz.prog 131:=⟨Tryz.f131,Tryz.func131,by kernel_rfl,by kernel_rfl⟩
theorem F4:Named Tryz.prog 132:=⟨Tryz.f132,Tryz.func132,by kernel_rfl,by kernel_rfl⟩
theorem OO:Named Tryz.prog 133:=⟨Tryz.f133,Tryz.func133,by kernel_rfl,by kernel_rfl⟩
theorem jI:Named Tryz.prog 134:=⟨Tryz.f134,Tryz.func134,by kernel_rfl,by kernel_rfl⟩
theorem Mu:Named Tryz.prog 135:=⟨Tryz.f135,Tryz.func135,by kernel_rfl,by kernel_rfl⟩
theorem ON:Named Tryz.prog 136:=⟨Tryz.f136,Tryz.func136,by kernel_rfl,by kernel_rfl⟩
theorem Mt:Named Tryz.prog 139:=⟨Tryz.f139,Tryz.func139,by kernel_rfl,by kernel_rfl⟩
theorem Jt:Named Tryz.prog 140:=⟨Tryz.f140,Tryz.func140,by kernel_rfl,by kernel_rfl⟩
theorem jg:Named Tryz.prog 141:=⟨Tryz.f141,Tryz.func141,by kernel_rfl,by kernel_rfl⟩
theorem Js:Named Tryz.prog 142:=⟨Tryz.f142,Tryz.func142,by kernel_rfl,by kernel_rfl⟩
theorem qc:Named Tryz.prog 143:=⟨Tryz.f143,Tryz.func143,by kernel_rfl,by kernel_rfl⟩
theorem zk:Named Tryz.prog 144:=⟨Tryz.f144,Tryz.func144,by kernel_rfl,by kernel_rfl⟩
theorem Jr:Named Tryz.prog 145:=⟨Tryz.f145,Tryz.func145,by kernel_rfl,by kernel_rfl⟩
theorem Jq:Named Tryz.prog 146:=⟨Tryz.f146,Tryz.func146,by kernel_rfl,by kernel_rfl⟩
theorem Jp:Named Tryz.prog 147:=⟨Tryz.f147,Tryz.func147,by kernel_rfl,by kernel_rfl⟩
theorem Ms:Named Tryz.prog 148:=⟨Tryz.f148,Tryz.func148,by kernel_rfl,by kernel_rfl⟩
theorem Jo:Named Tryz.prog 149:=⟨Tryz.f149,Tryz.func149,by kernel_rfl,by kernel_rfl⟩
theorem Jn:Named Tryz.prog 150:=⟨Tryz.f150,Tryz.func150,by kernel_rfl,by kernel_rfl⟩
theorem OM:Named Tryz.prog 151:=⟨Tryz.f151,Tryz.func151,by kernel_rfl,by kernel_rfl⟩
theorem OL:Named Tryz.prog 152:=⟨Tryz.f152,Tryz.func152,by kernel_rfl,by kernel_rfl⟩
theorem OK:Named Tryz.prog 153:=⟨Tryz.f153,Tryz.func153,by kernel_rfl,by kernel_rfl⟩
theorem OJ:Named Tryz.prog 154:=⟨Tryz.f154,Tryz.func154,by kernel_rfl,by kernel_rfl⟩
theorem OI:Named Tryz.prog 155:=⟨Tryz.f155,Tryz.func155,by kernel_rfl,by kernel_rfl⟩
theorem OH:Named Tryz.prog 156:=⟨Tryz.f156,Tryz.func156,by kernel_rfl,by kernel_rfl⟩
theorem Mr:Named Tryz.prog 157:=⟨Tryz.f157,Tryz.func157,by kernel_rfl,by kernel_rfl⟩
theorem OG:Named Tryz.prog 159:=⟨Tryz.f159,Tryz.func159,by kernel_rfl,by kernel_rfl⟩
theorem OE:Named Tryz.prog 160:=⟨Tryz.f160,Tryz.func160,by kernel_rfl,by kernel_rfl⟩
theorem OD:Named Tryz.prog 161:=⟨Tryz.f161,Tryz.func161,by kernel_rfl,by kernel_rfl⟩
theorem OC:Named Tryz.prog 162:=⟨Tryz.f162,Tryz.func162,by kernel_rfl,by kernel_rfl⟩
theorem OB:Named Tryz.prog 163:=⟨Tryz.f163,Tryz.func163,by kernel_rfl,by kernel_rfl⟩
theorem OA:Named Tryz.prog 164:=⟨Tryz.f164,Tryz.func164,by kernel_rfl,by kernel_rfl⟩
theorem Mp:Named Tryz.prog 165:=⟨Tryz.f165,Tryz.func165,by kernel_rfl,by kernel_rfl⟩
theorem Mo:Named Tryz.prog 170:=⟨Tryz.f170,Tryz.func170,by kernel_rfl,by kernel_rfl⟩
theorem Mn:Named Tryz.prog 171:=⟨Tryz.f171,Tryz.func171,by kernel_rfl,by kernel_rfl⟩
theorem Oy:Named Tryz.prog 172:=⟨Tryz.f172,Tryz.func172,by kernel_rfl,by kernel_rfl⟩
theorem Ox:Named Tryz.prog 173:=⟨Tryz.f173,Tryz.func173,by kernel_rfl,by kernel_rfl⟩
theorem jV:Named Tryz.prog 174:=⟨Tryz.f174,Tryz.func174,by kernel_rfl,by kernel_rfl⟩
theorem Jm:Named Tryz.prog 175:=⟨Tryz.f175,Tryz.func175,by kernel_rfl,by kernel_rfl⟩
theorem zj:Named Tryz.prog 176:=⟨Tryz.f176,Tryz.func176,by kernel_rfl,by kernel_rfl⟩
theorem Jl:Named Tryz.prog 177:=⟨Tryz.f177,Tryz.func177,by kernel_rfl,by kernel_rfl⟩
theorem Jk:Named Tryz.prog 178:=⟨Tryz.f178,Tryz.func178,by kernel_rfl,by kernel_rfl⟩
theorem m5:Named Tryz.prog 179:=⟨Tryz.f179,Tryz.func179,by kernel_rfl,by kernel_rfl⟩
theorem Mm:Named Tryz.prog 180:=⟨Tryz.f180,Tryz.func180,by kernel_rfl,by kernel_rfl⟩
theorem Ml:Named Tryz.prog 182:=⟨Tryz.f182,Tryz.func182,by kernel_rfl,by kernel_rfl⟩
theorem Mk:Named Tryz.prog 183:=⟨Tryz.f183,Tryz.func183,by kernel_rfl,by kernel_rfl⟩
theorem w9:Named Tryz.prog 184:=⟨Tryz.f184,Tryz.func184,by kernel_rfl,by kernel_rfl⟩
theorem Mj:Named Tryz.prog 190:=⟨Tryz.f190,Tryz.func190,by kernel_rfl,by kernel_rfl⟩
theorem Mi:Named Tryz.prog 191:=⟨Tryz.f191,Tryz.func191,by kernel_rfl,by kernel_rfl⟩
theorem Ou:Named Tryz.prog 192:=⟨Tryz.f192,Tryz.func192,by kernel_rfl,by kernel_rfl⟩
theorem Oq:Named Tryz.prog 212:=⟨Tryz.f212,Tryz.func212,by kernel_rfl,by kernel_rfl⟩
theorem Oo:Named Tryz.prog 215:=⟨Tryz.f215,Tryz.func215,by kernel_rfl,by kernel_rfl⟩
theorem On:Named Tryz.prog 216:=⟨Tryz.f216,Tryz.func216,by kernel_rfl,by kernel_rfl⟩
theorem Om:Named Tryz.prog 217:=⟨Tryz.f217,Tryz.func217,by kernel_rfl,by kernel_rfl⟩
theorem Ol:Named Tryz.prog 218:=⟨Tryz.f218,Tryz.func218,by kernel_rfl,by kernel_rfl⟩
abbrev DT:=Leg.Does Tryz.prog
abbrev NM:=Leg.Named Tryz.prog
theorem nk {f : FuncId} {fn : Func} (h : Tryz.prog.funcs[f]? = some fn) (a : (fn.name == "runtime.NumGoroutine") = false := by kernel_rfl) (b : fn.body.isNone = false := by kernel_rfl) : NM f := ⟨fn, h, a, b⟩
end Go.Proofs.YtfocodjhmkokpaaGreatDoor
end

section
namespace Dsk
open Go Leg Codec Api
abbrev jP:=List UInt8
def zs:jP:=List.replicate 64 0
def Ca(b:jP):Value:= .agg (dH b).toArray
abbrev fC:=List (Int×jP)
def jb(s:fC)(k:Int):jP:=match s with
 | []=>zs
 | (a,b)::s=>if k=a then b else jb s k
def nY(s:fC)(k:Int)(v:jP):fC:=match s with
 | []=>[(k,v)]
 | (a,b)::s=>if k=a then(a,v)::s else(a,b)::nY s k v
theorem IU(s:fC)(k j:Int)(v:jP):jb (nY s k v) j=if j=k then v else jb s j:=by
 induction s with
 |nil=>simp[nY,jb]
 |cons p s ih=>
  obtain⟨a,b⟩:=p;simp only[nY]
  by_cases h:k=a
  · subst h
    rw[if_pos rfl]
    by_cases h2:j=k
    · simp[jb,h2]
    · simp[jb,h2]
  · rw[if_neg h]
    simp only[jb]
    by_cases h2:j=a
    · subst h2
      rw[if_pos rfl,if_pos rfl,if_neg (by omega)]
    · rw[if_neg h2,if_neg h2,ih]
def rP(s:fC):List (Int×Value):=s.map λp=>(p.1,Ca p.2)
theorem xp(s:fC)(k:Int):(HM (rP s) k).getD (Ca zs)=Ca (jb s k):=by
 induction s with
 |nil=>rfl
 |cons p s ih=>
  obtain⟨a,b⟩:=p;simp only[rP,eM,HM,jb]at ih ⊢;split
  · rfl
  · exact ih
theorem JG(s:fC)(k:Int)(v:jP):xo (rP s) k (Ca v)=rP (nY s k v):=by
 induction s with
 |nil=>rfl
 |cons p s ih=>
  obtain⟨a,b⟩:=p;simp only[rP,eM,xo,nY]at ih ⊢;split
  · rfl
  · rw[ih];rfl
def c7(p:Int×jP):List Value:= .int .i64 p.1::dH p.2
def dI(ws:fC):List Value:=ws.flatMap c7
def eP(b:List UInt8):jP:=b++List.replicate (64-b.length) 0
theorem dD{b:List UInt8}(h:b.length≤64):(eP b).length=64:=by simp[eP];omega
def Whole(s:fC):Prop:=∀p∈s,p.2.length=64
theorem ck{p:Int×jP}(h:p.2.length=64):(c7 p).length=65:=by simp[c7,dH,h]
theorem Gz{ws:fC}(h:Whole ws){k:Nat}(hk:k<ws.length):((dI ws).drop (k*65)).take 65=c7 ws[k]:=by
 induction ws generalizing k with
 |nil=>simp at hk
 |cons p ws ih=>
  have h1:=ck (h p (by simp));simp only[dI,cV]at ih ⊢;cases k with
  |zero=>
   simp only[gD,aV,oB];rw[cv (by omega),az (by omega)]
  |succ k=>
   rw[ir,cL (by omega),h1,show(k+1)*65-65=k*65 by omega,bK]
   simpa using ih (λq hq=>h q (by simp[hq])) (by simpa using hk)
theorem cx{s:fC}(h:Whole s)(k:Int):(jb s k).length=64:=by
 induction s with
 |nil=>simp[jb,zs]
 |cons p s ih=>
  obtain⟨a,b⟩:=p;simp only[jb];split
  · exact h (a,b) (by simp)
  · exact ih λq hq=>h q (by simp[hq])
theorem Whole.put{s:fC}(h:Whole s)(k:Int){v:jP}(hv:v.length=64):Whole (nY s k v):=by
 induction s with
 |nil=>intro p hp;simp only[nY,cG]at hp;subst hp;exact hv
 |cons p s ih=>
  obtain⟨a,b⟩:=p;intro q hq;simp only[nY]at hq;split at hq
  · rcases bJ.1 hq with rfl|hq
    · exact hv
    · exact h q (by simp[hq])
  · rcases bJ.1 hq with rfl|hq
    · exact h (a,b) (by simp)
    · exact ih (λq hq=>h q (by simp[hq])) q hq
theorem Whole.add{s:fC}(h:Whole s)(k:Int){v:jP}(hv:v.length=64):Whole (s++[(k,v)]):=λp hp=>by
 rcases ci.1 hp with hp|hp
 · exact h p hp
 · simp only[cG]at hp;subst hp;exact hv
section
variable {P:Program} {n:Nat} {D:List Deferred} {L:List (Nat×Value)} {S:World→Prop} {o:Oper}
theorem PV.mapNil{t t' k e m:TypeId}{x y:Operand}(ho:o.op= .binOp .eql t x y t')(hu:P.underlying t=some (.map k e))(hx:cB L x=some (.map (some m)))(hy:cB L y=some (.map none)):PV P n D L S o (.bool false):=
 fO ho hx hy λw=>by
  have e:(Op.equal t (.map (some m)) (.map none)).run P w= .ok false w:=run_equalIn_map_nil w 9999 t k e (some m) hu;simp[eqGuard,binOp,e]
end
end Dsk
namespace Dsk
open Go Leg Codec Api
theorem zV{k:Int}{b:List UInt8}(h:b.length≤64):wr (.int .i64 k::dH zs) 1 ((dH b).take (min b.length 64))=c7 (k,eP b):=by
 have e:(dH b).take (min b.length 64)=dH b:=az (by rw[aY];omega);rw[e,wr,aY]
 have e2:(Value.int IntKind.i64 k::dH zs).drop (1+b.length)=dH (List.replicate (64-b.length) 0):=by
  rw[show 1+b.length=b.length+1 by omega,ia];rw[dH,dH,zs,←k9,List.drop_replicate]
 rw[e2];simp only[c7,eP,dH,cz,List.take_succ_cons,List.take_zero,iu,bK]
theorem JN(vs:List Value): ∀(j:Nat) (pre zeros:List Value),pre.length=j→zeros.length=vs.length→
 ((vs.zipIdx j).foldl (λ(cs:Array Value) (c,i)=>cs.setIfInBounds (0+i) c) (pre++zeros).toArray)=(pre++vs).toArray:=by
 induction vs with
 |nil=>intro j pre zeros _ h;rw[List.eq_nil_of_length_eq_zero h];rfl
 |cons v vs ih=>
  intro j pre zeros hp hz
  match zeros,hz with
  |z::zeros,hz=>
   rw[List.zipIdx_cons,List.foldl_cons]
   have e:(pre++z::zeros).toArray.setIfInBounds (0+j) v=((pre++[v])++zeros).toArray:=by
    rw[bf,List.setIfInBounds_toArray,gp _ _ (by omega),hp,yR,cb,aS];rfl
   simp only[e];rw[ih (j+1) (pre++[v]) zeros (by simp[hp]) (by simpa using hz),aS];rfl
theorem Ff{zeros:Array Value}{vs:List Value}(h:zeros.size=vs.length):Instr.fill (λi=>some (i*vs.length,vs.length)) zeros [(0, .agg vs.toArray)]=some vs.toArray:=by
 have e:=JN vs 0 [] zeros.toList rfl (by simpa using h);simp only[bK,Array.toArray_toList]at e;simp only[Instr.fill,Value.cells,List.size_toArray,gD,bf,ne_eq,not_true_eq_false,false_or,decide_false,Bool.false_or];rw[if_neg (by simp[h])];rw[←Array.foldl_toList,Array.toList_zipIdx];simp only[bf]at e;rw[e]
theorem kd{zeros:Array Value}{vs:List Value}{size:Nat}(h:vs.length=size)(hz:zeros.size=size):Instr.fill (λi=>some (i*size,size)) zeros [(0, .agg vs.toArray)]=some vs.toArray:=by
 subst h;exact Ff hz
theorem iC(p:Int×jP): ∀u∈c7 p,u.oneCell'=true:=by
 intro u hu;rcases bJ.1 hu with rfl|hu
 · rfl
 · exact eV _ u hu
end Dsk
namespace Leg
open Go
section
variable {P:Program} {w0:World} {F:Hl} {n:Nat} {ops:Array Oper} {Q:QQ} {D:List Deferred} {L:List (Nat×Value)} {H:List HP} {l:List Oper}
end
end Leg
namespace Dsk
open Go Leg Codec Api
def k8(ws:fC)(k:Nat):Int×jP:=ws.getD k (0,zs)
theorem we{ws:fC}{k:Nat}(hk:k<ws.length):k8 ws k=ws[k]:=by simp[k8,List.getD_eq_getElem?_getD,hk]
theorem dO{ws:fC}(h:Whole ws){k:Nat}(hk:k<ws.length):(k8 ws k).2.length=64:=by rw[we hk];exact h _ (cH hk)
theorem qF{ws:fC}(h:Whole ws){k:Nat}(hk:k<ws.length):((dI ws).drop (k*65)).take 65=c7 (k8 ws k):=by rw[we hk];exact Gz h hk
theorem GB{ws:fC}(h:Whole ws){k:Nat}(hk:k<ws.length):(dI ws)[k*65]?=some (.int .i64 (k8 ws k).1):=by
 have e:=congrArg (λl:List Value=>l[0]?) (qF h hk)
 simpa [c7]using e
theorem GA{ws:fC}(h:Whole ws){k:Nat}(hk:k<ws.length):((dI ws).drop (k*65+1)).take 64=dH (k8 ws k).2:=by
 have e:=congrArg (λl:List Value=>l.drop 1) (qF h hk);simp only[j8,j9,c7,ia,aV]at e;exact e
theorem vX{p:Int×jP}(h:p.2.length=64):((c7 p).drop 1).take 64=dH p.2:=by
 simp only[c7,ia,aV];exact az (by rw[aY,h];exact aL _)
theorem By{p:Int×jP}{c:Nat}(h:p.2.length=64)(hc:c≤64):((c7 p).drop 1).take (min c 64)=(dH p.2).take c:=by
 simp only[c7,ia,aV];congr 1;omega
theorem IJ{l:List Value}{n:Nat}(h:l.length=n):(l.drop 0).take n=l:=by rw[aV,az (by omega)]
def CG(s ws:fC):Nat→fC
 |0=>s
 |k+1=>nY (CG s ws k) (k8 ws k).1 (k8 ws k).2
theorem Whole.lay{s ws:fC}(h:Whole s)(hw:Whole ws): ∀k,k≤ws.length→Whole (CG s ws k)
 |0,_=>h
 |k+1,hk=>(Whole.lay h hw k (by omega)).put _ (dO hw (by omega))
def sD(old new:jP)(c:Nat):jP:=new.take c++old.drop c
theorem qI{old new:jP}{c:Nat}(h1:old.length=64)(h2:new.length=64):(sD old new c).length=64:=by simp[sD];omega
def qo(n:Int):Nat:=(min (max n 0) 64).toNat
theorem LJ(n:Int):min (max n 0) 64=((qo n:Nat):Int):=by unfold qo;omega
theorem th(n:Int):qo n≤64:=by unfold qo;omega
def mL(mask torn:Int)(c:Nat)(s:fC)(k:Nat)(p:Int×jP):fC:=
 if(k:Int)=torn then nY s p.1 (sD (jb s p.1) p.2 c)else if mask.fdiv (2^ (k%32))%2=1 then nY s p.1 p.2 else s
def nc(mask torn:Int)(c:Nat)(s ws:fC):Nat→fC
 |0=>s
 |k+1=>mL mask torn c (nc mask torn c s ws k) k (k8 ws k)
theorem Whole.crash{mask torn:Int}{c:Nat}{s ws:fC}(h:Whole s)(hw:Whole ws): ∀k,k≤ws.length→Whole (nc mask torn c s ws k)
 |0,_=>h
 |k+1,hk=>by
  have ih:=Whole.crash (mask:=mask) (torn:=torn) (c:=c) h hw k (by omega);simp only[nc,mL];split
  · exact ih.put _ (qI (cx ih _) (dO hw (by omega)))
  · split
    · exact ih.put _ (dO hw (by omega))
    · exact ih
def jd(s ws:fC)(at':Int):Nat→jP
 |0=>jb s at'
 |k+1=>if(k8 ws k).1=at' then(k8 ws k).2 else jd s ws at' k
theorem ze{s ws:fC}(h:Whole s)(hw:Whole ws)(at':Int): ∀k,k≤ws.length→(jd s ws at' k).length=64
 |0,_=>cx h _
 |k+1,hk=>by
  simp only[jd];split
  · exact dO hw (by omega)
  · exact ze h hw at' k (by omega)
theorem G9{s ws:fC}{at':Int}{k:Nat}(h:(k8 ws k).1=at'):jd s ws at' (k+1)=(k8 ws k).2:=by simp[jd,h]
theorem Ew{s ws:fC}{at':Int}{k:Nat}(h:(k8 ws k).1≠at'):jd s ws at' (k+1)=jd s ws at' k:=by simp[jd,h]
theorem GG{old new:jP}{c m:Nat}(hc:c≤64)(h1:old.length=64)(h2:new.length=64)(hm:m=c):wr (dH old) 0 (((dH new).take c).take m)=dH (sD old new c):=by
 subst hm;have:((dH new).take m).length=m:=by rw[bh,aY];omega
 rw[az (by omega),wr,this,List.take_zero,bK,bf];simp[dH,sD,pN,k9]
structure DS where
 s:fC
 ws:fC
 ar:Bool
 lf:Int
 dn:Bool
structure DS.Ok(D:DS):Prop where
 s:Whole D.s
 ws:Whole D.ws
 lf:0≤D.lf∧D.lf≤9223372036854775807
def DS.new:DS:=⟨[],[],false,0,false⟩
def DS.arm(D:DS)(n:Int):DS:= {D with ar:=true,lf:=max n 0}
def DS.write(D:DS)(at':Int)(bs:List UInt8):Int×DS:=
 if at'<0∨2048≤at'∨64<bs.length then(5,D)
 else if D.dn=true∨(D.ar=true∧D.lf=0)then(4,{D with dn:=true})
 else(0,{D with ws:=D.ws++[(at',eP bs)],lf:=if D.ar=true then D.lf-1 else D.lf,dn:=false})
def DS.sync(D:DS):Int×DS:=if D.dn=true then(4,D)else(0,{D with s:=CG D.s D.ws D.ws.length,ws:=[]})
def DS.crash(D:DS)(mask torn n:Int):DS:=⟨nc mask torn (qo n) D.s D.ws D.ws.length,[],false,0,false⟩
def DS.read(D:DS)(at':Int):jP:=jd D.s D.ws at' D.ws.length
theorem mH:Whole []:=λ_ h=>absurd h (by simp)
theorem DS.new_ok:DS.new.Ok:=⟨mH,mH,⟨by decide,by decide⟩⟩
theorem DS.write_ok{D:DS}(h:D.Ok)(at':Int)(bs:List UInt8):(D.write at' bs).2.Ok:=by
 unfold DS.write;split
 · exact h
 · split
   · exact⟨h.s,h.ws,h.lf⟩
   · rename_i h1 h2
     refine⟨h.s,h.ws.add _ (dD (by omega)),?_⟩;have:=h.lf;show 0≤(if D.ar=true then D.lf-1 else D.lf)∧(if D.ar=true then D.lf-1 else D.lf)≤9223372036854775807;split<;>rename_i h3
     · have:D.lf≠0:=λq=>h2 (.inr ⟨h3,q⟩)
       exact⟨by omega,by omega⟩
     · exact this
theorem DS.sync_ok{D:DS}(h:D.Ok):D.sync.2.Ok:=by
 unfold DS.sync;split
 · exact h
 · exact⟨h.s.lay h.ws _ (aL _),mH,h.lf⟩
theorem DS.crash_ok{D:DS}(h:D.Ok)(mask torn n:Int):(D.crash mask torn n).Ok:=⟨h.s.crash h.ws _ (aL _),mH,⟨by simp[DS.crash],by simp[DS.crash]⟩⟩
theorem DS.read_len{D:DS}(h:D.Ok)(at':Int):(D.read at').length=64:=ze h.s h.ws _ _ (aL _)
abbrev l9:= @DS.read_len
theorem DS.write_ws{D:DS}{at':Int}{bs:List UInt8}:(D.write at' bs).2.ws.length≤D.ws.length+1:=by
 unfold DS.write;split
 · simp
 · split
   · simp
   · simp
abbrev O9(DT WT:Nat)(d:Nat)(D:DS):HP:=pack λx:Nat×Value=>[ah d [.map (some x.1),x.2, .bool D.ar, .int .i64 D.lf, .bool D.dn] DT,jW x.1 (rP D.s),own x.2 D.ws.length (dI D.ws) WT 65]
end Dsk
end

section
namespace Go.Proofs.YtfocodjhmkokpaaGreatDoor
open Go Leg Codec Api Dsk
theorem A5(d m:Nat)(wv:Value)(ar dn:Bool)(lf:Int):
 DT 53 #[(.pointer (some ⟨d,0,none⟩))] T0 [ah d [(.map (some m)),wv,(.bool (ar)),(.int .i64 (lf)),(.bool (dn))] 140] (RI (.bool dn) [ah d [(.map (some m)),wv,(.bool (ar)),(.int .i64 (lf)),(.bool (dn))] 140]):=by
 refine BD 7 Tryz.func53 rfl rfl rfl λw0 F hF=>sr λ_ J1=>PS ?_
 refine nx J1 (sr λ_ J2=>P2 ?_);refine FA 4 gL lc ?_;refine LA 0 Y4 ?_;refine PS ?_;exact nx J2 (ai (WK [0] (av rfl rfl ⟨rfl,rfl⟩)))
theorem C8(d m:Nat)(wv:Value)(ar dn:Bool)(lf n:Int):
 DT 48 #[(.pointer (some ⟨d,0,none⟩)),(.int .i64 (n))] T0 [ah d [(.map (some m)),wv,(.bool (ar)),(.int .i64 (lf)),(.bool (dn))] 140] (dm (λ_ H=>H=[ah d [(.map (some m)),wv,(.bool true),(.int .i64 ((max n 0))),(.bool (dn))] 140])):=by
 refine BD 12 Tryz.func48 rfl rfl rfl λw0 F hF=>ad (P3 ?_)
 refine tp (yP rfl rfl rfl) ?_;refine PS ?_;refine FA 2 gL lc ?_;refine S0 0 lc ?_;refine PS ?_;refine FA 3 gL aR ?_;refine S0 0 aR ?_;exact ap (WK [0] (bu rfl rfl))
theorem C7:
 DT 42 #[] T0 [] (dm (λv H=>∃d m,v= .pointer (some ⟨d,0,none⟩)∧H=[ah d [(.map (some m)),(.slice none 0 0),(.bool false),(.int .i64 0),(.bool false)] 140,jW m ([])])):=by
 refine BD 4 Tryz.func42 rfl rfl rfl λw0 F hF=>sr λ_ J1=>PS ?_
 refine nx J1 (sr λ_ J2=>TL.makeMap (aa rfl) rfl rfl rfl (λm1=>BV #[(.map (some m1)),(.slice none 0 0),(.bool false),(.int .i64 0),(.bool false)] ?_));refine XB λb3=>?_
 refine PS ?_;exact nx J2 (ai (WK [0,0] (av rfl rfl ⟨b3,m1,rfl,rfl⟩)))
theorem A3(d m:Nat)(wv:Value)(s:fC)(ar dn:Bool)(lf at':Int)(hs:Whole s):
 DT 94 #[(.pointer (some ⟨d,0,none⟩)),(.int .i64 (at'))] T0 [ah d [(.map (some m)),wv,(.bool (ar)),(.int .i64 (lf)),(.bool (dn))] 140,jW m (rP s)] (RI (Ca (jb s at')) [ah d [(.map (some m)),wv,(.bool (ar)),(.int .i64 (lf)),(.bool (dn))] 140,jW m (rP s)]):=by
 refine BD 11 Tryz.func94 rfl rfl rfl λw0 F hF=>sr λ_ J1=>XA z173 λb4=>?_
 refine nx J1 (sr λ_ J2=>P2 ?_);refine FA 0 gL BK ?_;refine LA 1 yF ?_;refine PS ?_;refine tp (PV.lookup rfl yF Y3 z173 rfl rfl (RdM.own 2 rfl rfl) (xp _ _)) ?_;exact bO (vs:=dH (jb s at')) (i:=0) (aa rfl) rfl rfl rfl rfl rfl (by rw[aY,cx hs];exact jF) (eV _) rfl rfl (by rw[aY,cx hs];exact aL _) (gh (by rw[aY,cx hs];rfl)) rfl (nx J2 (ai (yI (H':=[ah d [(.map (some m)),wv,(.bool (ar)),(.int .i64 (lf)),(.bool (dn))] 140,jW m (rP s)]) rfl rfl pB rfl jF (RO 0) (by rw[aY];exact cx hs _) (λ_ s=>ak [1,1] rfl s) ⟨rfl,rfl⟩)))
theorem dp:Tryz.prog.follows .mixedOrders=true:=by kernel_rfl
theorem o8(d m:Nat)(wv:Value)(s:fC)(ar dn:Bool)(lf at':Int)(b:List UInt8)(hb:b.length=64):
 DT 93 #[(.pointer (some ⟨d,0,none⟩)),(.int .i64 (at')),(.agg (dH b).toArray)] T0 [ah d [(.map (some m)),wv,(.bool (ar)),(.int .i64 (lf)),(.bool (dn))] 140,jW m (rP s)] (dm (λ_ H=>H=[ah d [(.map (some m)),wv,(.bool (ar)),(.int .i64 (lf)),(.bool (dn))] 140,jW m (rP (nY s at' b))])):=by
 refine BD 21 Tryz.func93 rfl rfl rfl λw0 F hF=>sr λ_ J1=>XY (dH b) λb5=>?_
 refine nx J1 (ab λ_ J2=>sr λ_ J3=>P2 ?_);refine FA 0 gL BK ?_;refine LA 1 yF ?_;refine tp (PV.mapNil rfl yF rfl rfl) ?_;refine nx J3 (CN (qx J2 (D2 1 0 dp ?_)));refine PD 0 ?_;refine PD 1 ?_;refine FD 2 0 gL BK ?_;refine LX 3 yF (.map (some m)) ?_ (hc:=by exact rfl);refine PD 4 ?_;refine ta 5 rfl (aN (vs:=dH b) rfl pB rfl jF rfl (λ_ h=>h.2.2.1) (by rw[aY];exact hb) (by rw[aV,az (by rw[aY,hb];exact aL _)])) ?_;refine AL 6 ?_;exact TL.mapUpdate (i:=2) (H':=[ah b5 (dH b) 173,ah d [(.map (some m)),wv,(.bool (ar)),(.int .i64 (lf)),(.bool (dn))] 140,jW m (rP (nY s at' b))]) (aa rfl) rfl rfl yF Y3 rfl rfl rfl rfl rfl (congrArg (λq=>List.set _ 2 (jW m q)) (JG _ _ _)) (EN (DN (WK [1,1] (bu rfl rfl))))
theorem yx(d m:Nat)(wv:Value)(ws:fC)(ar dn:Bool)(lf at':Int)(x:Value)(bs:List UInt8)(hl:0≤lf∧lf≤9223372036854775807)(hw:ws.length≤1000000000):
 DT 95 #[(.pointer (some ⟨d,0,none⟩)),(.int .i64 (at')),x] (IsW x bs) [ah d [(.map (some m)),wv,(.bool (ar)),(.int .i64 (lf)),(.bool (dn))] 140,own wv (ws.length) (dI ws) 175 65] (dm (λv H=>if at'<0∨2048≤at'∨64<bs.length then v= .int .i64 5∧H=[ah d [(.map (some m)),wv,(.bool (ar)),(.int .i64 (lf)),(.bool (dn))] 140,own wv (ws.length) (dI ws) 175 65]else if dn=true∨(ar=true∧lf=0)then v= .int .i64 4∧H=[ah d [(.map (some m)),wv,(.bool (ar)),(.int .i64 (lf)),(.bool true)] 140,own wv (ws.length) (dI ws) 175 65]else v= .int .i64 0∧∃wv',H=[ah d [(.map (some m)),wv',(.bool (ar)),(.int .i64 ((if ar=true then lf-1 else lf))),(.bool false)] 140,own wv' ((ws++[(at',eP bs)]).length) (dI (ws++[(at',eP bs)])) 175 65])):=by
 refine BD 64 Tryz.func95 rfl rfl rfl λw0 F hF=>sr λ_ J1=>PS ?_
 refine nx J1 (ab λ_ J2=>sr λ_ J3=>P2 ?_);refine ao ?_ ?_<;>intro h9;refine PS ?_;refine UT ?_;refine UT ?_;refine P2 ?_
 iterate 3 refine UT ?_
 refine PS ?_;refine nx J3 (CY (sr λ_ J4=>PS ?_));refine nx J4 (ai (af (WK [0,0] (av rfl rfl ?_))));show(if _ then _ else _)
 first
  | (rw[if_pos (by omega)];exact⟨rfl,rfl⟩)
  | (rw[if_neg (by omega),if_pos (by simp_all)];exact⟨rfl,by simp_all<;>rfl⟩)
  | (rw[if_neg (by omega),if_neg (by simp_all)];exact⟨rfl,v61,by simp_all<;>rfl⟩)
 refine P3 ?_;refine ao ?_ ?_<;>intro h12;refine P2 ?_
 iterate 3 refine UT ?_
 refine PS ?_;refine nx J3 (CY (sr λ_ J5=>PS ?_));refine nx J5 (ai (af (WK [0,0] (av rfl rfl ?_))));show(if _ then _ else _)
 first
  | (rw[if_pos (by omega)];exact⟨rfl,rfl⟩)
  | (rw[if_neg (by omega),if_pos (by simp_all)];exact⟨rfl,by simp_all<;>rfl⟩)
  | (rw[if_neg (by omega),if_neg (by simp_all)];exact⟨rfl,v61,by simp_all<;>rfl⟩)
 refine P3 ?_;refine tq (df rfl fE rfl hF.len) ?_;refine PS ?_;refine ao ?_ ?_<;>intro h17;refine PS ?_;refine nx J3 (CY (sr λ_ J6=>PS ?_));refine nx J6 (ai (af (WK [0,0] (av rfl rfl ?_))));show(if _ then _ else _)
 first
  | (rw[if_pos (by omega)];exact⟨rfl,rfl⟩)
  | (rw[if_neg (by omega),if_pos (by simp_all)];exact⟨rfl,by simp_all<;>rfl⟩)
  | (rw[if_neg (by omega),if_neg (by simp_all)];exact⟨rfl,v61,by simp_all<;>rfl⟩)
 refine PS ?_;refine nx J3 (CN (qx J2 (ab λ_ J7=>sr λ_ J8=>P2 ?_)));refine FA 2 gL lc ?_;refine LA 0 Y4 ?_;refine bc ?_ ?_<;>intro h22;refine P3 ?_;refine FA 3 gL aR ?_;refine LA 0 Y3 ?_;refine PS ?_;refine ao ?_ ?_<;>intro h28;refine PS ?_;refine nx J8 (CY (ad (P2 ?_)));refine FA 4 gL lc ?_;refine S0 0 lc ?_;refine nx J7 (ab λ_ J9=>sr λ_ J10=>P2 ?_);refine FA 4 gL lc ?_;refine LA 0 Y4 ?_;refine nx J10 (CY (sr λ_ J11=>PS ?_));refine nx J11 (ai (af (WK [0,0] (av rfl rfl ?_))));show(if _ then _ else _)
 first
  | (rw[if_pos (by omega)];exact⟨rfl,rfl⟩)
  | (rw[if_neg (by omega),if_pos (by simp_all)];exact⟨rfl,by simp_all<;>rfl⟩)
  | (rw[if_neg (by omega),if_neg (by simp_all)];exact⟨rfl,v61,by simp_all<;>rfl⟩)
 refine PS ?_;refine nx J8 (CN (qx J7 (ab λ_ J12=>sr λ_ J13=>P2 ?_)));refine FA 4 gL lc ?_;refine LA 0 Y4 ?_;refine bc ?_ ?_<;>intro h36;refine nx J13 (CY (sr λ_ J14=>PS ?_));refine nx J14 (ai (af (WK [0,0] (av rfl rfl ?_))));show(if _ then _ else _)
 first
  | (rw[if_pos (by omega)];exact⟨rfl,rfl⟩)
  | (rw[if_neg (by omega),if_pos (by simp_all)];exact⟨rfl,by simp_all<;>rfl⟩)
  | (rw[if_neg (by omega),if_neg (by simp_all)];exact⟨rfl,v61,by simp_all<;>rfl⟩)
 refine nx J13 (CN (qx J12 (ab λ_ J15=>sr λ_ J16=>P2 ?_)));refine FA 2 gL lc ?_;refine LA 0 Y4 ?_;refine bc ?_ ?_<;>intro h40;refine nx J16 (CY (ad (P2 ?_)));refine FA 3 gL aR ?_;refine LA 0 Y3 ?_;refine tp (iz rfl rfl rfl (bH (by omega) (by omega))) ?_;refine PS ?_;refine FA 3 gL aR ?_;refine S0 0 aR ?_;refine nx J15 (sr λ_ J17=>PS ?_);refine BV (((.int .i64 (at'))::List.replicate 64 (.int .u8 0)).toArray) ?_;refine XA Gw λb7=>?_
 refine bO (vs:=((.int .i64 (at'))::List.replicate 64 (.int .u8 0))) (i:=0) (aa rfl) rfl rfl rfl rfl rfl mp (by simp[Value.oneCell']) rfl rfl (Lt rfl) rfl rfl (nx J17 (sr λ_ J18=>FA 1 pi jF ?_));refine tp (l5 rfl pB jK rfl) ?_;refine PS ?_;refine NR (i:=0) (m:=bs.length) (news:=(dH bs)) (H':=[ah b7 (c7 (at',eP bs)) 175,ah d [(.map (some m)),wv,(.bool (ar)),(.int .i64 (lf-1)),(.bool (dn))] 140,own wv (ws.length) (dI ws) 175 65]) (aa rfl) rfl rfl rfl fE jK rfl rfl rfl rfl (λ_ _=>hF.src (λ_ h=>eb h)) (eV _) (by show 1+min bs.length 64≤65;omega) (zV (by omega)) rfl (nx J18 (ab λ_ J19=>D1 0 dp ?_));refine PD 0 ?_;refine PD 1 ?_;refine PD 2 ?_;refine FD 3 1 gL gH ?_;refine ta 5 rfl (aN (vs:=c7 (at',eP bs)) rfl pi rfl mp rfl (λ_ h=>h.2.1) (ck (dD (by omega))) (by rw[aV,az (by rw[(ck (dD (by omega)))];exact aL _)])) ?_;refine cE [4,6] (by kernel_rfl) rfl (aF rfl ?_ ?_);refine LA 1 iS ?_;refine EN (AL 6 ?_);refine aQ (cells:=(c7 (at',eP bs)).toArray) (aa rfl) rfl rfl rfl iS mr rfl rfl rfl (kd (ck (dD (by omega))) (by simp)) (λb60=>?_);change TL _ _ _ _ _ _ _ _ _ [ah b60 (c7 (at',eP bs)) 175,ah b7 (c7 (at',eP bs)) 175,ah d [(.map (some m)),wv,(.bool (ar)),(.int .i64 (lf-1)),(.bool (dn))] 140,own wv (ws.length) (dI ws) 175 65];refine EN (AL 7 ?_)
 refine cj (k:=3) (news:=c7 (at',eP bs)) (nn':=(ws++[(at',eP bs)]).length) (xs':=dI (ws++[(at',eP bs)])) (aa rfl) rfl rfl rfl iS mr rfl rfl rfl rfl rfl rfl (λ_ _=>gW (ck (dD (by omega))) (RO 0) (by rw[aV,az (aL _)])) (iC _) (by simp only[maxLen];omega) (by omega) (by simp) (by simp[dI]) (λv61 ov61=>EN (PD 8 ?_));refine FD 9 1 gL gH ?_;refine AL 10 ?_;refine bz (i:=2) (aa rfl) rfl rfl rfl rfl ov61 gH rfl rfl (lb rfl) rfl rfl (EN (DN (ac J19 (sr λ_ J20=>PS ?_))));refine nx J20 (ai (WK [2,2] (av rfl rfl ?_)));show(if _ then _ else _)
 first
  | (rw[if_pos (by omega)];exact⟨rfl,rfl⟩)
  | (rw[if_neg (by omega),if_pos (by simp_all)];exact⟨rfl,by simp_all<;>rfl⟩)
  | (rw[if_neg (by omega),if_neg (by simp_all)];exact⟨rfl,v61,by simp_all<;>rfl⟩)
 refine aF rfl ?_ ?_;refine aQ (cells:=(c7 (at',eP bs)).toArray) (aa rfl) rfl rfl rfl iS mr rfl rfl rfl (kd (ck (dD (by omega))) (by simp)) (λb60=>?_);change TL _ _ _ _ _ _ _ _ _ [ah b60 (c7 (at',eP bs)) 175,ah b7 (c7 (at',eP bs)) 175,ah d [(.map (some m)),wv,(.bool (ar)),(.int .i64 (lf-1)),(.bool (dn))] 140,own wv (ws.length) (dI ws) 175 65];refine EN (AL 4 ?_);refine LA 2 iS ?_;refine EN (AL 7 ?_);refine cj (k:=3) (news:=c7 (at',eP bs)) (nn':=(ws++[(at',eP bs)]).length) (xs':=dI (ws++[(at',eP bs)])) (aa rfl) rfl rfl rfl iS mr rfl rfl rfl rfl rfl rfl (λ_ _=>gW (ck (dD (by omega))) (RO 0) (by rw[aV,az (aL _)])) (iC _) (by simp only[maxLen];omega) (by omega) (by simp) (by simp[dI]) (λv61 ov61=>EN (PD 8 ?_));refine FD 9 1 gL gH ?_;refine AL 10 ?_;refine bz (i:=2) (aa rfl) rfl rfl rfl rfl ov61 gH rfl rfl (lb rfl) rfl rfl (EN (DN (ac J19 (sr λ_ J21=>PS ?_))));refine nx J21 (ai (WK [2,2] (av rfl rfl ?_)));show(if _ then _ else _)
 first
  | (rw[if_pos (by omega)];exact⟨rfl,rfl⟩)
  | (rw[if_neg (by omega),if_pos (by simp_all)];exact⟨rfl,by simp_all<;>rfl⟩)
  | (rw[if_neg (by omega),if_neg (by simp_all)];exact⟨rfl,v61,by simp_all<;>rfl⟩)
 exact bB;refine nx J16 (CN (qx J15 (sr λ_ J22=>PS ?_)));refine BV (((.int .i64 (at'))::List.replicate 64 (.int .u8 0)).toArray) ?_;refine XA Gw λb7=>?_
 refine bO (vs:=((.int .i64 (at'))::List.replicate 64 (.int .u8 0))) (i:=0) (aa rfl) rfl rfl rfl rfl rfl mp (by simp[Value.oneCell']) rfl rfl (Lt rfl) rfl rfl (nx J22 (sr λ_ J23=>FA 1 pi jF ?_));refine tp (l5 rfl pB jK rfl) ?_;refine PS ?_;refine NR (i:=0) (m:=bs.length) (news:=(dH bs)) (H':=[ah b7 (c7 (at',eP bs)) 175,ah d [(.map (some m)),wv,(.bool (ar)),(.int .i64 (lf)),(.bool (dn))] 140,own wv (ws.length) (dI ws) 175 65]) (aa rfl) rfl rfl rfl fE jK rfl rfl rfl rfl (λ_ _=>hF.src (λ_ h=>eb h)) (eV _) (by show 1+min bs.length 64≤65;omega) (zV (by omega)) rfl (nx J23 (ab λ_ J24=>D1 0 dp ?_));refine PD 0 ?_;refine PD 1 ?_;refine PD 2 ?_;refine FD 3 1 gL gH ?_;refine ta 5 rfl (aN (vs:=c7 (at',eP bs)) rfl pi rfl mp rfl (λ_ h=>h.2.1) (ck (dD (by omega))) (by rw[aV,az (by rw[(ck (dD (by omega)))];exact aL _)])) ?_;refine cE [4,6] (by kernel_rfl) rfl (aF rfl ?_ ?_);refine LA 1 iS ?_;refine EN (AL 6 ?_);refine aQ (cells:=(c7 (at',eP bs)).toArray) (aa rfl) rfl rfl rfl iS mr rfl rfl rfl (kd (ck (dD (by omega))) (by simp)) (λb60=>?_);change TL _ _ _ _ _ _ _ _ _ [ah b60 (c7 (at',eP bs)) 175,ah b7 (c7 (at',eP bs)) 175,ah d [(.map (some m)),wv,(.bool (ar)),(.int .i64 (lf)),(.bool (dn))] 140,own wv (ws.length) (dI ws) 175 65];refine EN (AL 7 ?_)
 refine cj (k:=3) (news:=c7 (at',eP bs)) (nn':=(ws++[(at',eP bs)]).length) (xs':=dI (ws++[(at',eP bs)])) (aa rfl) rfl rfl rfl iS mr rfl rfl rfl rfl rfl rfl (λ_ _=>gW (ck (dD (by omega))) (RO 0) (by rw[aV,az (aL _)])) (iC _) (by simp only[maxLen];omega) (by omega) (by simp) (by simp[dI]) (λv61 ov61=>EN (PD 8 ?_));refine FD 9 1 gL gH ?_;refine AL 10 ?_;refine bz (i:=2) (aa rfl) rfl rfl rfl rfl ov61 gH rfl rfl (lb rfl) rfl rfl (EN (DN (ac J24 (sr λ_ J25=>PS ?_))));refine nx J25 (ai (WK [2,2] (av rfl rfl ?_)));show(if _ then _ else _)
 first
  | (rw[if_pos (by omega)];exact⟨rfl,rfl⟩)
  | (rw[if_neg (by omega),if_pos (by simp_all)];exact⟨rfl,by simp_all<;>rfl⟩)
  | (rw[if_neg (by omega),if_neg (by simp_all)];exact⟨rfl,v61,by simp_all<;>rfl⟩)
 refine aF rfl ?_ ?_;refine aQ (cells:=(c7 (at',eP bs)).toArray) (aa rfl) rfl rfl rfl iS mr rfl rfl rfl (kd (ck (dD (by omega))) (by simp)) (λb60=>?_);change TL _ _ _ _ _ _ _ _ _ [ah b60 (c7 (at',eP bs)) 175,ah b7 (c7 (at',eP bs)) 175,ah d [(.map (some m)),wv,(.bool (ar)),(.int .i64 (lf)),(.bool (dn))] 140,own wv (ws.length) (dI ws) 175 65];refine EN (AL 4 ?_);refine LA 2 iS ?_;refine EN (AL 7 ?_);refine cj (k:=3) (news:=c7 (at',eP bs)) (nn':=(ws++[(at',eP bs)]).length) (xs':=dI (ws++[(at',eP bs)])) (aa rfl) rfl rfl rfl iS mr rfl rfl rfl rfl rfl rfl (λ_ _=>gW (ck (dD (by omega))) (RO 0) (by rw[aV,az (aL _)])) (iC _) (by simp only[maxLen];omega) (by omega) (by simp) (by simp[dI]) (λv61 ov61=>EN (PD 8 ?_));refine FD 9 1 gL gH ?_;refine AL 10 ?_;refine bz (i:=2) (aa rfl) rfl rfl rfl rfl ov61 gH rfl rfl (lb rfl) rfl rfl (EN (DN (ac J24 (sr λ_ J26=>PS ?_))));refine nx J26 (ai (WK [2,2] (av rfl rfl ?_)));show(if _ then _ else _)
 first
  | (rw[if_pos (by omega)];exact⟨rfl,rfl⟩)
  | (rw[if_neg (by omega),if_pos (by simp_all)];exact⟨rfl,by simp_all<;>rfl⟩)
  | (rw[if_neg (by omega),if_neg (by simp_all)];exact⟨rfl,v61,by simp_all<;>rfl⟩)
 exact bB;refine PS ?_
 iterate 5 refine UF ?_
 refine PS ?_;refine nx J8 (CN (qx J7 (ab λ_ J27=>sr λ_ J28=>P2 ?_)));refine FA 4 gL lc ?_;refine LA 0 Y4 ?_;refine bc ?_ ?_<;>intro h36;refine nx J28 (CY (sr λ_ J29=>PS ?_));refine nx J29 (ai (af (WK [0,0] (av rfl rfl ?_))));show(if _ then _ else _)
 first
  | (rw[if_pos (by omega)];exact⟨rfl,rfl⟩)
  | (rw[if_neg (by omega),if_pos (by simp_all)];exact⟨rfl,by simp_all<;>rfl⟩)
  | (rw[if_neg (by omega),if_neg (by simp_all)];exact⟨rfl,v61,by simp_all<;>rfl⟩)
 refine nx J28 (CN (qx J27 (ab λ_ J30=>sr λ_ J31=>P2 ?_)));refine FA 2 gL lc ?_;refine LA 0 Y4 ?_;refine bc ?_ ?_<;>intro h40;refine nx J31 (CY (ad (P2 ?_)));refine FA 3 gL aR ?_;refine LA 0 Y3 ?_;refine tp (iz rfl rfl rfl (bH (by omega) (by omega))) ?_;refine PS ?_;refine FA 3 gL aR ?_;refine S0 0 aR ?_;refine nx J30 (sr λ_ J32=>PS ?_);refine BV (((.int .i64 (at'))::List.replicate 64 (.int .u8 0)).toArray) ?_;refine XA Gw λb7=>?_
 refine bO (vs:=((.int .i64 (at'))::List.replicate 64 (.int .u8 0))) (i:=0) (aa rfl) rfl rfl rfl rfl rfl mp (by simp[Value.oneCell']) rfl rfl (Lt rfl) rfl rfl (nx J32 (sr λ_ J33=>FA 1 pi jF ?_));refine tp (l5 rfl pB jK rfl) ?_;refine PS ?_;refine NR (i:=0) (m:=bs.length) (news:=(dH bs)) (H':=[ah b7 (c7 (at',eP bs)) 175,ah d [(.map (some m)),wv,(.bool (ar)),(.int .i64 (lf-1)),(.bool (dn))] 140,own wv (ws.length) (dI ws) 175 65]) (aa rfl) rfl rfl rfl fE jK rfl rfl rfl rfl (λ_ _=>hF.src (λ_ h=>eb h)) (eV _) (by show 1+min bs.length 64≤65;omega) (zV (by omega)) rfl (nx J33 (ab λ_ J34=>D1 0 dp ?_));refine PD 0 ?_;refine PD 1 ?_;refine PD 2 ?_;refine FD 3 1 gL gH ?_;refine ta 5 rfl (aN (vs:=c7 (at',eP bs)) rfl pi rfl mp rfl (λ_ h=>h.2.1) (ck (dD (by omega))) (by rw[aV,az (by rw[(ck (dD (by omega)))];exact aL _)])) ?_;refine cE [4,6] (by kernel_rfl) rfl (aF rfl ?_ ?_);refine LA 1 iS ?_;refine EN (AL 6 ?_);refine aQ (cells:=(c7 (at',eP bs)).toArray) (aa rfl) rfl rfl rfl iS mr rfl rfl rfl (kd (ck (dD (by omega))) (by simp)) (λb60=>?_);change TL _ _ _ _ _ _ _ _ _ [ah b60 (c7 (at',eP bs)) 175,ah b7 (c7 (at',eP bs)) 175,ah d [(.map (some m)),wv,(.bool (ar)),(.int .i64 (lf-1)),(.bool (dn))] 140,own wv (ws.length) (dI ws) 175 65];refine EN (AL 7 ?_)
 refine cj (k:=3) (news:=c7 (at',eP bs)) (nn':=(ws++[(at',eP bs)]).length) (xs':=dI (ws++[(at',eP bs)])) (aa rfl) rfl rfl rfl iS mr rfl rfl rfl rfl rfl rfl (λ_ _=>gW (ck (dD (by omega))) (RO 0) (by rw[aV,az (aL _)])) (iC _) (by simp only[maxLen];omega) (by omega) (by simp) (by simp[dI]) (λv61 ov61=>EN (PD 8 ?_));refine FD 9 1 gL gH ?_;refine AL 10 ?_;refine bz (i:=2) (aa rfl) rfl rfl rfl rfl ov61 gH rfl rfl (lb rfl) rfl rfl (EN (DN (ac J34 (sr λ_ J35=>PS ?_))));refine nx J35 (ai (WK [2,2] (av rfl rfl ?_)));show(if _ then _ else _)
 first
  | (rw[if_pos (by omega)];exact⟨rfl,rfl⟩)
  | (rw[if_neg (by omega),if_pos (by simp_all)];exact⟨rfl,by simp_all<;>rfl⟩)
  | (rw[if_neg (by omega),if_neg (by simp_all)];exact⟨rfl,v61,by simp_all<;>rfl⟩)
 refine aF rfl ?_ ?_;refine aQ (cells:=(c7 (at',eP bs)).toArray) (aa rfl) rfl rfl rfl iS mr rfl rfl rfl (kd (ck (dD (by omega))) (by simp)) (λb60=>?_);change TL _ _ _ _ _ _ _ _ _ [ah b60 (c7 (at',eP bs)) 175,ah b7 (c7 (at',eP bs)) 175,ah d [(.map (some m)),wv,(.bool (ar)),(.int .i64 (lf-1)),(.bool (dn))] 140,own wv (ws.length) (dI ws) 175 65];refine EN (AL 4 ?_);refine LA 2 iS ?_;refine EN (AL 7 ?_);refine cj (k:=3) (news:=c7 (at',eP bs)) (nn':=(ws++[(at',eP bs)]).length) (xs':=dI (ws++[(at',eP bs)])) (aa rfl) rfl rfl rfl iS mr rfl rfl rfl rfl rfl rfl (λ_ _=>gW (ck (dD (by omega))) (RO 0) (by rw[aV,az (aL _)])) (iC _) (by simp only[maxLen];omega) (by omega) (by simp) (by simp[dI]) (λv61 ov61=>EN (PD 8 ?_));refine FD 9 1 gL gH ?_;refine AL 10 ?_;refine bz (i:=2) (aa rfl) rfl rfl rfl rfl ov61 gH rfl rfl (lb rfl) rfl rfl (EN (DN (ac J34 (sr λ_ J36=>PS ?_))));refine nx J36 (ai (WK [2,2] (av rfl rfl ?_)));show(if _ then _ else _)
 first
  | (rw[if_pos (by omega)];exact⟨rfl,rfl⟩)
  | (rw[if_neg (by omega),if_pos (by simp_all)];exact⟨rfl,by simp_all<;>rfl⟩)
  | (rw[if_neg (by omega),if_neg (by simp_all)];exact⟨rfl,v61,by simp_all<;>rfl⟩)
 exact bB;refine nx J31 (CN (qx J30 (sr λ_ J37=>PS ?_)));refine BV (((.int .i64 (at'))::List.replicate 64 (.int .u8 0)).toArray) ?_;refine XA Gw λb7=>?_
 refine bO (vs:=((.int .i64 (at'))::List.replicate 64 (.int .u8 0))) (i:=0) (aa rfl) rfl rfl rfl rfl rfl mp (by simp[Value.oneCell']) rfl rfl (Lt rfl) rfl rfl (nx J37 (sr λ_ J38=>FA 1 pi jF ?_));refine tp (l5 rfl pB jK rfl) ?_;refine PS ?_;refine NR (i:=0) (m:=bs.length) (news:=(dH bs)) (H':=[ah b7 (c7 (at',eP bs)) 175,ah d [(.map (some m)),wv,(.bool (ar)),(.int .i64 (lf)),(.bool (dn))] 140,own wv (ws.length) (dI ws) 175 65]) (aa rfl) rfl rfl rfl fE jK rfl rfl rfl rfl (λ_ _=>hF.src (λ_ h=>eb h)) (eV _) (by show 1+min bs.length 64≤65;omega) (zV (by omega)) rfl (nx J38 (ab λ_ J39=>D1 0 dp ?_));refine PD 0 ?_;refine PD 1 ?_;refine PD 2 ?_;refine FD 3 1 gL gH ?_;refine ta 5 rfl (aN (vs:=c7 (at',eP bs)) rfl pi rfl mp rfl (λ_ h=>h.2.1) (ck (dD (by omega))) (by rw[aV,az (by rw[(ck (dD (by omega)))];exact aL _)])) ?_;refine cE [4,6] (by kernel_rfl) rfl (aF rfl ?_ ?_);refine LA 1 iS ?_;refine EN (AL 6 ?_);refine aQ (cells:=(c7 (at',eP bs)).toArray) (aa rfl) rfl rfl rfl iS mr rfl rfl rfl (kd (ck (dD (by omega))) (by simp)) (λb60=>?_);change TL _ _ _ _ _ _ _ _ _ [ah b60 (c7 (at',eP bs)) 175,ah b7 (c7 (at',eP bs)) 175,ah d [(.map (some m)),wv,(.bool (ar)),(.int .i64 (lf)),(.bool (dn))] 140,own wv (ws.length) (dI ws) 175 65];refine EN (AL 7 ?_)
 refine cj (k:=3) (news:=c7 (at',eP bs)) (nn':=(ws++[(at',eP bs)]).length) (xs':=dI (ws++[(at',eP bs)])) (aa rfl) rfl rfl rfl iS mr rfl rfl rfl rfl rfl rfl (λ_ _=>gW (ck (dD (by omega))) (RO 0) (by rw[aV,az (aL _)])) (iC _) (by simp only[maxLen];omega) (by omega) (by simp) (by simp[dI]) (λv61 ov61=>EN (PD 8 ?_));refine FD 9 1 gL gH ?_;refine AL 10 ?_;refine bz (i:=2) (aa rfl) rfl rfl rfl rfl ov61 gH rfl rfl (lb rfl) rfl rfl (EN (DN (ac J39 (sr λ_ J40=>PS ?_))));refine nx J40 (ai (WK [2,2] (av rfl rfl ?_)));show(if _ then _ else _)
 first
  | (rw[if_pos (by omega)];exact⟨rfl,rfl⟩)
  | (rw[if_neg (by omega),if_pos (by simp_all)];exact⟨rfl,by simp_all<;>rfl⟩)
  | (rw[if_neg (by omega),if_neg (by simp_all)];exact⟨rfl,v61,by simp_all<;>rfl⟩)
 refine aF rfl ?_ ?_;refine aQ (cells:=(c7 (at',eP bs)).toArray) (aa rfl) rfl rfl rfl iS mr rfl rfl rfl (kd (ck (dD (by omega))) (by simp)) (λb60=>?_);change TL _ _ _ _ _ _ _ _ _ [ah b60 (c7 (at',eP bs)) 175,ah b7 (c7 (at',eP bs)) 175,ah d [(.map (some m)),wv,(.bool (ar)),(.int .i64 (lf)),(.bool (dn))] 140,own wv (ws.length) (dI ws) 175 65];refine EN (AL 4 ?_);refine LA 2 iS ?_;refine EN (AL 7 ?_);refine cj (k:=3) (news:=c7 (at',eP bs)) (nn':=(ws++[(at',eP bs)]).length) (xs':=dI (ws++[(at',eP bs)])) (aa rfl) rfl rfl rfl iS mr rfl rfl rfl rfl rfl rfl (λ_ _=>gW (ck (dD (by omega))) (RO 0) (by rw[aV,az (aL _)])) (iC _) (by simp only[maxLen];omega) (by omega) (by simp) (by simp[dI]) (λv61 ov61=>EN (PD 8 ?_));refine FD 9 1 gL gH ?_;refine AL 10 ?_;refine bz (i:=2) (aa rfl) rfl rfl rfl rfl ov61 gH rfl rfl (lb rfl) rfl rfl (EN (DN (ac J39 (sr λ_ J41=>PS ?_))));refine nx J41 (ai (WK [2,2] (av rfl rfl ?_)));show(if _ then _ else _)
 first
  | (rw[if_pos (by omega)];exact⟨rfl,rfl⟩)
  | (rw[if_neg (by omega),if_pos (by simp_all)];exact⟨rfl,by simp_all<;>rfl⟩)
  | (rw[if_neg (by omega),if_neg (by simp_all)];exact⟨rfl,v61,by simp_all<;>rfl⟩)
 exact bB
theorem um(d m:Nat)(wv:Value)(ar:Bool)(lf:Int):
 DT 96 #[(.pointer (some ⟨d,0,none⟩))] T0 [ah d [(.map (some m)),wv,(.bool (ar)),(.int .i64 (lf)),(.bool true)] 140] (RI (.int .i64 4) [ah d [(.map (some m)),wv,(.bool (ar)),(.int .i64 (lf)),(.bool true)] 140]):=by
 refine BD 28 Tryz.func96 rfl rfl rfl λw0 F hF=>sr λ_ J1=>PS ?_
 refine nx J1 (ab λ_ J2=>sr λ_ J3=>P2 ?_);refine FA 4 gL lc ?_;refine LA 0 Y4 ?_;refine nx J3 (CY (sr λ_ J4=>PS ?_));exact nx J4 (ai (af (WK [0] (av rfl rfl ⟨rfl,rfl⟩))))
theorem xH(d m:Nat)(wv:Value)(s ws:fC)(ar:Bool)(lf:Int)(hw:Whole ws):
 DT 96 #[(.pointer (some ⟨d,0,none⟩))] T0 [ah d [(.map (some m)),wv,(.bool (ar)),(.int .i64 (lf)),(.bool false)] 140,jW m (rP s),own wv (ws.length) (dI ws) 175 65] (RI (.int .i64 0) [ah d [(.map (some m)),(.slice none 0 0),(.bool (ar)),(.int .i64 (lf)),(.bool false)] 140,jW m (rP (CG s ws ws.length)),own (.slice none 0 0) 0 [] 175 65]):=by
 refine BD 28 Tryz.func96 rfl rfl rfl λw0 F hF=>sr λ_ J1=>gT 2 rfl rfl (λhwl _=>PS ?_)
 refine nx J1 (ab λ_ J2=>sr λ_ J3=>P2 ?_);refine FA 4 gL lc ?_;refine LA 0 Y4 ?_;refine nx J3 (CN (qx J2 (ab λ_ J4=>sr λ_ J5=>P2 ?_)));refine FA 1 gL gH ?_;refine LA 0 iS ?_;refine tp (df rfl iS rfl hwl) ?_;refine PS ?_;refine nx J5 (au ?_)
 refine bn (α:=(Nat)×(fC)) (λ⟨k,s'⟩=>k≤ws.length∧s'=CG s ws k) (λ⟨k,s'⟩=>[(0,(.pointer (some ⟨d,0,none⟩))),(2,(.int .i64 0)),(12,wv),(13,(.int .i64 (((ws.length:Nat):Int)))),(14,(.int .i64 (((k:Nat):Int))))]) (λ⟨k,s'⟩=>[ah d [(.map (some m)),wv,(.bool (ar)),(.int .i64 (lf)),(.bool false)] 140,jW m (rP s'),own wv (ws.length) (dI ws) 175 65]) (λ⟨k,s'⟩=>ws.length-k) (0,s)
  ⟨aM _,rfl⟩ SB
  (λ_ s=>s) (λ⟨k,s'⟩ hinv=>?_)
 obtain⟨hk,hs'⟩:=hinv;refine sr λ_ J6=>PS ?_
 refine ao ?_ ?_<;>intro h15;refine hY 2 rfl rfl (by omega) (λg cap hv hcap=>nx J6 (ab λ_ J7=>CY (qx J7 (ab λ_ J8=>au (sr λ_ J9=>tp (bd (r:=k*65) hv rfl iS mp rfl rfl (by omega) (by omega) (by omega)) ?_)))));refine tp (sj (vs:=c7 (k8 ws k)) rfl pi rfl mp rfl (fD 2 rfl hv rfl) (ck (dO hw (by omega))) (qF hw (by omega))) ?_;refine XA Gw λb4=>?_
 refine bO (vs:=c7 (k8 ws k)) (i:=0) (aa rfl) rfl rfl rfl rfl rfl (by rw[ck (dO hw (by omega))];exact mp) (iC _) rfl rfl (by rw[ck (dO hw (by omega))];exact aL _) (gh (Eq.trans (rfl:_=65) (by rw[ck (dO hw (by omega))]:(c7 (k8 ws k)).length=65).symm)) rfl (nx J9 (ad (PS ?_)));refine FA 0 pi aR ?_;refine LA 0 Y3 ?_;refine FA 1 pi jF ?_;refine tp (aN (vs:=dH (k8 ws k).2) rfl pB rfl jF rfl (RO 0) (by rw[aY];exact dO hw (by omega)) (vX (dO hw (by omega)))) ?_;refine CR M9 (o8 d m wv s' ar false lf ((k8 ws k).1) (k8 ws k).2 (by exact dO hw (by omega))) (SM [1,1]) λvR HR hR=>?_
 subst hR;refine ap (ag (ac J8 (ad (AD ?_))));refine PS ?_;refine ap ?_
 exact aI ((k+1,nY s' (k8 ws k).1 (k8 ws k).2):(Nat)×(fC)) ⟨by omega,by rw[hs'];rfl⟩ (by show ws.length- (k+1)<ws.length-k;omega)
  SB
  (λ_ s=>ak [0,0,1] rfl s)
 refine nx J6 (ab λ_ J10=>CN (aX (aA (aA (bl (ac J4 (sr λ_ J11=>P2 ?_)))))));refine FA 1 gL gH ?_;refine S0 0 gH ?_;refine nx J11 (sr λ_ J12=>PS ?_);refine nx J12 (ai (aE (H':=[ah d [(.map (some m)),(.slice none 0 0),(.bool (ar)),(.int .i64 (lf)),(.bool false)] 140,jW m (rP s'),own (.slice none 0 0) 0 [] 175 65]) (db _) (λ_ s=>ei (List.Perm.trans (List.Perm.swap _ _ _) (List.Perm.cons _ (List.Perm.swap _ _ _))) (fR 175 65 (ak [0,0] rfl s))) (av rfl rfl ?_)));obtain rfl:k=ws.length:=by omega
 subst hs';exact⟨rfl,rfl⟩
theorem A4(d m:Nat)(wv:Value)(s ws:fC)(ar dn:Bool)(lf at':Int)(hs2:Whole s)(hw:Whole ws)(hb:ws.length≤1000000000):
 DT 104 #[(.pointer (some ⟨d,0,none⟩)),(.int .i64 (at'))] T0 [ah d [(.map (some m)),wv,(.bool (ar)),(.int .i64 (lf)),(.bool (dn))] 140,jW m (rP s),own wv (ws.length) (dI ws) 175 65] (RI (Ca (jd s ws at' ws.length)) [ah d [(.map (some m)),wv,(.bool (ar)),(.int .i64 (lf)),(.bool (dn))] 140,jW m (rP s),own wv (ws.length) (dI ws) 175 65]):=by
 refine BD 40 Tryz.func104 rfl rfl rfl λw0 F hF=>sr λ_ J1=>gT 2 rfl rfl (λhwl _=>XA z173 λb4=>?_)
 refine nx J1 (ab λ_ J2=>sr λ_ J3=>P2 ?_);refine FA 1 gL gH ?_;refine LA 1 iS ?_;refine tp (df rfl iS rfl hwl) ?_;refine tp (iz rfl rfl rfl (bH (by omega) (by omega))) ?_;refine PS ?_;refine nx J3 (au ?_)
 refine bn (α:=(Int)) (λp=> -1≤p∧p<ws.length∧jd s ws at' (p+1).toNat=jd s ws at' ws.length) (λp=>[(0,(.pointer (some ⟨d,0,none⟩))),(1,(.int .i64 (at'))),(4,(.pointer (some ⟨b4,0,none⟩))),(5,(.int .i64 (p)))]) (λp=>[ah b4 [(.int .u8 0),(.int .u8 0),(.int .u8 0),(.int .u8 0),(.int .u8 0),(.int .u8 0),(.int .u8 0),(.int .u8 0),(.int .u8 0),(.int .u8 0),(.int .u8 0),(.int .u8 0),(.int .u8 0),(.int .u8 0),(.int .u8 0),(.int .u8 0),(.int .u8 0),(.int .u8 0),(.int .u8 0),(.int .u8 0),(.int .u8 0),(.int .u8 0),(.int .u8 0),(.int .u8 0),(.int .u8 0),(.int .u8 0),(.int .u8 0),(.int .u8 0),(.int .u8 0),(.int .u8 0),(.int .u8 0),(.int .u8 0),(.int .u8 0),(.int .u8 0),(.int .u8 0),(.int .u8 0),(.int .u8 0),(.int .u8 0),(.int .u8 0),(.int .u8 0),(.int .u8 0),(.int .u8 0),(.int .u8 0),(.int .u8 0),(.int .u8 0),(.int .u8 0),(.int .u8 0),(.int .u8 0),(.int .u8 0),(.int .u8 0),(.int .u8 0),(.int .u8 0),(.int .u8 0),(.int .u8 0),(.int .u8 0),(.int .u8 0),(.int .u8 0),(.int .u8 0),(.int .u8 0),(.int .u8 0),(.int .u8 0),(.int .u8 0),(.int .u8 0),(.int .u8 0)] 173,ah d [(.map (some m)),wv,(.bool (ar)),(.int .i64 (lf)),(.bool (dn))] 140,jW m (rP s),own wv (ws.length) (dI ws) 175 65]) (λp=>(p+1).toNat) (((ws.length:Nat):Int)-1)
  ⟨by omega,by omega,by congr 1;omega⟩ SB
  (λ_ s=>s) (λp hinv=>?_)
 obtain⟨hp1,hp2,hp3⟩:=hinv;refine ab λ_ J4=>sr λ_ J5=>P2 ?_
 refine ao ?_ ?_<;>intro h13;refine hY 3 rfl rfl (by omega) (λg cap hv hcap=>nx J5 (CY (qx J4 (ab λ_ J6=>au (sr λ_ J7=>P2 ?_)))));refine FA 1 gL gH ?_;refine LA 1 iS ?_;refine PS ?_;refine tp (bd (r:=p.toNat*65) hv rfl iS mp rfl rfl (by omega) (by omega) (by omega)) ?_;refine tp (aZ (r:=p.toNat*65) rfl pi rfl aR rfl rfl) ?_;refine tp (ca (v:=(.int .i64 ((k8 ws p.toNat).1))) rfl Y3 rfl rfl (fD 3 rfl hv rfl) (GB hw (by omega))) ?_;refine P2 ?_;refine ao ?_ ?_<;>intro h25;refine nx J7 (CY (sr λ_ J8=>P2 ?_));refine FA 1 gL gH ?_;refine LA 1 iS ?_;refine PS ?_;refine tp (bd (r:=p.toNat*65) hv rfl iS mp rfl rfl (by omega) (by omega) (by omega)) ?_;refine tp (aZ (r:=p.toNat*65+1) rfl pi rfl jF rfl rfl) ?_;refine tp (sj (vs:=dH (k8 ws p.toNat).2) rfl pB rfl jF rfl (fD 3 rfl hv rfl) (by rw[aY];exact dO hw (by omega)) (GA hw (by omega))) ?_;refine bO (vs:=dH (k8 ws p.toNat).2) (i:=0) (aa rfl) rfl rfl rfl rfl rfl (by rw[aY,dO hw (by omega)];exact jF) (eV _) rfl rfl (by rw[aY,dO hw (by omega)];exact aL _) (gh (Eq.trans (rfl:_=64) (by rw[aY,dO hw (by omega)]:(dH (k8 ws p.toNat).2).length=64).symm)) rfl (nx J8 (ai (aH (af (af (aH (af (yI (H':=[ah d [(.map (some m)),wv,(.bool (ar)),(.int .i64 (lf)),(.bool (dn))] 140,jW m (rP s),own wv (ws.length) (dI ws) 175 65]) rfl rfl pB rfl jF (RO 0) (by rw[aY];exact dO hw (by omega)) (λ_ s=>ak [1,1,1] rfl s) ?_))))))));have e:=G9 (s:=s) h25
 rw[show p.toNat+1=(p+1).toNat by omega,hp3]at e;exact⟨by rw[e];rfl,rfl⟩;refine nx J7 (CN (aT (ag (ac J6 (ad (PS ?_))))));refine tp (iz rfl rfl rfl (bH (by omega) (by omega))) ?_;refine PS ?_;refine ap ?_
 exact aI ((p-1):(Int)) ⟨by omega,by omega,by rw[←hp3,show(p+1).toNat=p.toNat+1 by omega,Ew h25];congr 1;omega⟩ (by show(p-1+1).toNat< (p+1).toNat;omega)
  SB
  (λ_ s=>s)
 refine nx J5 (CN (aX (aA (aA (bl (ac J2 (sr λ_ J9=>P2 ?_)))))));refine FA 0 gL BK ?_;refine LA 1 yF ?_;refine PS ?_;refine tp (PV.lookup rfl yF Y3 z173 rfl rfl (RdM.own 2 rfl rfl) (xp _ _)) ?_;refine bO (vs:=dH (jb s at')) (i:=0) (aa rfl) rfl rfl rfl rfl rfl (by rw[aY,cx hs2];exact jF) (eV _) rfl rfl (by rw[aY,cx hs2];exact aL _) (gh (Eq.trans (rfl:_=64) (by rw[aY,cx hs2]:(dH (jb s at')).length=64).symm)) rfl (nx J9 (ai (yI (H':=[ah d [(.map (some m)),wv,(.bool (ar)),(.int .i64 (lf)),(.bool (dn))] 140,jW m (rP s),own wv (ws.length) (dI ws) 175 65]) rfl rfl pB rfl jF (RO 0) (by rw[aY];exact cx hs2 _) (λ_ s=>ak [1,1,1] rfl s) ?_)));rw[show(p+1).toNat=0 by omega]at hp3;exact⟨by rw[←hp3];rfl,rfl⟩
theorem yy(d m:Nat)(wv:Value)(s ws:fC)(ar dn:Bool)(lf mask torn n:Int)(hs1:Whole s)(hw:Whole ws):
 DT 49 #[(.pointer (some ⟨d,0,none⟩)),(.int .i64 (mask)),(.int .i64 (torn)),(.int .i64 (n))] T0 [ah d [(.map (some m)),wv,(.bool (ar)),(.int .i64 (lf)),(.bool (dn))] 140,jW m (rP s),own wv (ws.length) (dI ws) 175 65] (dm (λ_ H=>H=[ah d [(.map (some m)),(.slice none 0 0),(.bool false),(.int .i64 0),(.bool false)] 140,jW m (rP (nc mask torn (qo n) s ws ws.length)),own (.slice none 0 0) 0 [] 175 65])):=by
 refine BD 70 Tryz.func49 rfl rfl rfl λw0 F hF=>sr λ_ J1=>gT 2 rfl rfl (λhwl _=>PS ?_)
 refine tp (yP rfl rfl rfl) ?_;refine tp (Gu (v':=(.int .i64 (((qo n:Nat):Int)))) (PV.minI rfl rfl rfl) (congrArg (Value.int .i64) (LJ n))) ?_;refine PS ?_;refine nx J1 (ab λ_ J2=>sr λ_ J3=>P2 ?_);refine FA 1 gL gH ?_;refine LA 0 iS ?_;refine tp (df rfl iS rfl hwl) ?_;refine PS ?_;refine nx J3 (au ?_)
 refine bn (α:=(Nat)×(fC)) (λ⟨k,s'⟩=>k≤ws.length∧s'=nc mask torn (qo n) s ws k) (λ⟨k,s'⟩=>[(0,(.pointer (some ⟨d,0,none⟩))),(1,(.int .i64 (mask))),(2,(.int .i64 (torn))),(3,(.int .i64 (((qo n:Nat):Int)))),(17,wv),(18,(.int .i64 (((ws.length:Nat):Int)))),(19,(.int .i64 (((k:Nat):Int))))]) (λ⟨k,s'⟩=>[ah d [(.map (some m)),wv,(.bool (ar)),(.int .i64 (lf)),(.bool (dn))] 140,jW m (rP s'),own wv (ws.length) (dI ws) 175 65]) (λ⟨k,s'⟩=>ws.length-k) (0,s)
  ⟨aM _,rfl⟩ SB
  (λ_ s=>s) (λ⟨k,s'⟩ hinv=>?_)
 obtain⟨hk,hs'⟩:=hinv;have hs2:Whole s':=by rw[hs'];exact hs1.crash hw k hk
 have hcn:=th n;refine sr λ_ J4=>PS ?_
 refine ao ?_ ?_<;>intro h20;refine hY 2 rfl rfl (by omega) (λg cap hv hcap=>nx J4 (ab λ_ J5=>CY (qx J5 (ab λ_ J6=>au (sr λ_ J7=>PS ?_)))));refine tp (bd (r:=k*65) hv rfl iS mp rfl rfl (by omega) (by omega) (by omega)) ?_;refine tp (sj (vs:=c7 (k8 ws k)) rfl pi rfl mp rfl (fD 2 rfl hv rfl) (ck (dO hw (by omega))) (qF hw (by omega))) ?_;refine XA Gw λb9=>?_
 refine PS ?_;refine bO (vs:=c7 (k8 ws k)) (i:=0) (aa rfl) rfl rfl rfl rfl rfl (by rw[ck (dO hw (by omega))];exact mp) (iC _) rfl rfl (by rw[ck (dO hw (by omega))];exact aL _) (gh (Eq.trans (rfl:_=65) (by rw[ck (dO hw (by omega))]:(c7 (k8 ws k)).length=65).symm)) rfl (nx J7 (sr λ_ J8=>P3 ?_));refine ao ?_ ?_<;>intro h26;refine nx J8 (CY (ab λ_ J9=>oz (λw=>Frm F w∧w.heap[d]?=some (.cells ([(.map (some m)),wv,(.bool (ar)),(.int .i64 (lf)),(.bool (dn))]).toArray 140 (0,0))∧Hm m (rP s') w∧w.heap[b9]?=some (.cells (c7 (k8 ws k)).toArray 175 (0,0))∧True) dp rfl (λ_ s=>⟨eb s,s.block 1 (lb rfl) rfl,s.map 2 rfl rfl,s.block 0 (lb rfl) rfl,trivial⟩) (PD 0 ?_)));refine PD 1 ?_;refine FD 2 0 gL BK ?_;refine LX 3 yF (.map (some m)) ?_ (hc:=by exact rfl);refine FD 4 0 pi aR ?_;refine LX 5 Y3 (.int .i64 ((k8 ws k).1)) ?_ (hc:=by exact rfl);refine ta 6 rfl (PV.lookup rfl yF Y3 z173 rfl rfl (λ_ h=>h.2.2.1) (xp _ _)) ?_;refine AL 7 ?_;refine XA z173 λb10=>?_
 refine ap (nl (λ_ s=>⟨eb s,s.block 2 (lb rfl) rfl,s.map 3 rfl rfl,s.block 1 (lb rfl) rfl,trivial⟩) (AL 8 ?_));refine bO (vs:=dH (jb s' ((k8 ws k).1))) (i:=0) (aa rfl) rfl rfl rfl rfl rfl (by rw[aY,cx hs2];exact jF) (eV _) rfl rfl (by rw[aY,cx hs2];exact aL _) (gh (Eq.trans (rfl:_=64) (by rw[aY,cx hs2]:(dH (jb s' ((k8 ws k).1))).length=64).symm)) rfl (ap (nl (λ_ s=>⟨eb s,s.block 2 (lb rfl) rfl,s.map 3 rfl rfl,s.block 1 (lb rfl) rfl,trivial⟩) (DN (ac J9 (ab λ_ J10=>D1 1 dp ?_)))));refine PD 0 ?_;refine ta 1 rfl (QD (k:=qo n) rfl pB jK rfl rfl (by omega) (by omega) rfl) ?_;refine FD 2 1 pi jF ?_;refine PD 3 ?_;refine ta 4 rfl (QD (k:=qo n) rfl pB jK rfl rfl (by omega) (by omega) rfl) ?_;refine AL 5 ?_;refine NR (i:=0) (m:=qo n) (news:=((dH (k8 ws k).2).take (qo n))) (H':=[ah b10 (dH (sD (jb s' ((k8 ws k).1)) (k8 ws k).2 (qo n))) 173,ah b9 (c7 (k8 ws k)) 175,ah d [(.map (some m)),wv,(.bool (ar)),(.int .i64 (lf)),(.bool (dn))] 140,jW m (rP s'),own wv (ws.length) (dI ws) 175 65]) (aa rfl) rfl rfl rfl fE jK rfl rfl rfl rfl (λ_ _=>gW (by rw[bh,aY,dO hw (by omega)];have:=th n;omega) (RO 1) (by rw[bh,aY,dO hw (by omega)];exact By (dO hw (by omega)) (th n))) (λu hu=>eV _ u (ey hu)) (by rw[aY,cx hs2];have:=th n;omega) (GG (th n) (cx hs2 _) (dO hw (by omega)) (by omega)) rfl (EN (DN (ac J10 (ad (PS ?_)))));refine FA 0 pi aR ?_;refine LA 1 Y3 ?_
 refine tp (aN (vs:=dH (sD (jb s' ((k8 ws k).1)) (k8 ws k).2 (qo n))) rfl pB rfl jF rfl (RO 0) (by rw[aY];exact qI (cx hs2 _) (dO hw (by omega))) (IJ (by rw[aY];exact qI (cx hs2 _) (dO hw (by omega))))) ?_;refine CR M9 (o8 d m wv s' ar (dn) lf ((k8 ws k).1) (sD (jb s' ((k8 ws k).1)) (k8 ws k).2 (qo n)) (by exact qI (cx hs2 _) (dO hw (by omega)))) (SM [2,2]) λvR HR hR=>?_
 subst hR;refine ap (ag (ac J6 (ad (AD ?_))));refine PS ?_;refine ap ?_
 exact aI ((k+1,nY s' (k8 ws k).1 (sD (jb s' (k8 ws k).1) (k8 ws k).2 (qo n))):(Nat)×(fC)) ⟨by omega,by rw[hs',nc,mL,if_pos h26]⟩ (by show ws.length- (k+1)<ws.length-k;omega)
  SB
  (λ_ s=>ak [0,0,2] rfl s)
 refine nx J8 (CN (sr λ_ J11=>P2 ?_));refine tp (PV.rem (r:=((k%32:Nat):Int)) rfl rfl rfl (by omega) (by rw[show(32:Int)=((32:Nat):Int)from rfl,←Int.ofNat_tmod])) ?_;refine tp (j5 (r:=mask.fdiv (2^ (k%32))) rfl rfl rfl (by omega) (by congr 2;show min ((k%32:Nat):Int).toNat 64=k%32;omega)) ?_;refine tp (pG (r:=mask.fdiv (2^ (k%32))%2) rfl rfl rfl (Qu _)) ?_;refine PS ?_;refine ao ?_ ?_<;>intro h50;refine nx J11 (CY (ad (PS ?_)));refine FA 0 pi aR ?_;refine LA 0 Y3 ?_;refine FA 1 pi jF ?_;refine tp (aN (vs:=dH (k8 ws k).2) rfl pB rfl jF rfl (RO 0) (by rw[aY];exact dO hw (by omega)) (vX (dO hw (by omega)))) ?_;refine CR M9 (o8 d m wv s' ar (dn) lf ((k8 ws k).1) (k8 ws k).2 (by exact dO hw (by omega))) (SM [1,1]) λvR HR hR=>?_
 subst hR;refine ap (ag (ac J6 (ad (AD ?_))));refine PS ?_;refine ap ?_
 exact aI ((k+1,nY s' (k8 ws k).1 (k8 ws k).2):(Nat)×(fC)) ⟨by omega,by rw[hs',nc,mL,if_neg h26,if_pos h50]⟩ (by show ws.length- (k+1)<ws.length-k;omega)
  SB
  (λ_ s=>ak [0,0,1] rfl s)
 refine nx J11 (CN (aT (ag (ac J6 (ad (AD ?_))))));refine PS ?_;refine ap ?_
 exact aI ((k+1,s'):(Nat)×(fC)) ⟨by omega,by rw[nc,mL,if_neg h26,if_neg h50];exact hs'⟩ (by show ws.length- (k+1)<ws.length-k;omega)
  SB
  (λ_ s=>ak [1,1,1] rfl s)
 refine nx J4 (ab λ_ J12=>CN (aX (aA (aA (bl (ac J2 (ad ?_)))))))
 iterate 5 refine PS ?_
 refine FA 1 gL gH ?_;refine S0 0 gH ?_;refine PS ?_;refine FA 2 gL lc ?_;refine S0 0 lc ?_;refine PS ?_;refine FA 3 gL aR ?_;refine S0 0 aR ?_;refine PS ?_;refine FA 4 gL lc ?_;refine S0 0 lc ?_;refine ap (aE (H':=[ah d [(.map (some m)),(.slice none 0 0),(.bool false),(.int .i64 0),(.bool false)] 140,jW m (rP s'),own (.slice none 0 0) 0 [] 175 65]) (db _) (λ_ s=>ei (List.Perm.trans (List.Perm.swap _ _ _) (List.Perm.cons _ (List.Perm.swap _ _ _))) (fR 175 65 (ak [0,0] rfl s))) (bu rfl ?_));obtain rfl:k=ws.length:=by omega
 subst hs';exact rfl
theorem Me:Tryz.prog.eqGuardType Tryz.prog.depth 173=false:=by kernel_rfl
theorem Md:Tryz.prog.keyTypeAt 2 173=true:=by kernel_rfl
theorem Mf:li Tryz.prog 2 173=some (List.replicate 64 (some .u8)):=by kernel_rfl
theorem Mh:DF Tryz.prog 173=true:=by kernel_rfl
theorem Mg:Tryz.prog.cellsOf 173=64:=by kernel_rfl
abbrev dk(d:Nat)(D:DS):HP:=O9 140 175 d D
theorem Gk(d:Nat)(D:DS):DT 53 #[(.pointer (some ⟨d,0,none⟩))] T0 [dk d D] (RI (.bool D.dn) [dk d (D)]):=Leg.Does.pack (B:=[]) λ⟨m,wv⟩=>
 Leg.Does.withinR (A5 d m wv D.ar D.dn D.lf) (B:=[jW m (rP D.s),own wv D.ws.length (dI D.ws) 175 65]) (λ_ _ _ _=>trivial) (λ_ s=>s) (λv H h=>by
  obtain⟨rfl,rfl⟩:=h
  exact⟨_,λ_ s=>bp (H:=[]) (m,wv) (s),rfl,rfl⟩)
theorem Ny(d:Nat)(D:DS)(n:Int):DT 48 #[(.pointer (some ⟨d,0,none⟩)), .int .i64 n] T0 [dk d D] (dm (λv H=>True∧H=[dk d (D.arm n)])):=Leg.Does.pack (B:=[]) λ⟨m,wv⟩=>
 Leg.Does.withinR (C8 d m wv D.ar D.dn D.lf n) (B:=[jW m (rP D.s),own wv D.ws.length (dI D.ws) 175 65]) (λ_ _ _ _=>trivial) (λ_ s=>s) (λv H h=>by
  subst h
  exact⟨_,λ_ s=>bp (H:=[]) (m,wv) s,trivial,rfl⟩)
theorem Ly(d:Nat)(D:DS)(at':Int)(hD:D.Ok):DT 94 #[(.pointer (some ⟨d,0,none⟩)), .int .i64 at'] T0 [dk d D] (RI (Ca (jb D.s at')) [dk d (D)]):=Leg.Does.pack (B:=[]) λ⟨m,wv⟩=>
 Leg.Does.withinR (A3 d m wv D.s D.ar D.dn D.lf at' hD.s) (B:=[own wv D.ws.length (dI D.ws) 175 65]) (λ_ _ _ _=>trivial) (λ_ s=>s) (λv H h=>by
  obtain⟨rfl,rfl⟩:=h
  exact⟨_,λ_ s=>bp (H:=[]) (m,wv) (s),rfl,rfl⟩)
theorem A7(d:Nat)(D:DS)(at':Int)(hD:D.Ok)(hb:D.ws.length≤1000000000):DT 104 #[(.pointer (some ⟨d,0,none⟩)), .int .i64 at'] T0 [dk d D] (RI (Ca (D.read at')) [dk d (D)]):=Leg.Does.pack (B:=[]) λ⟨m,wv⟩=>
 Leg.Does.withinR (A4 d m wv D.s D.ws D.ar D.dn D.lf at' hD.s hD.ws hb) (B:=[]) (λ_ _ _ _=>trivial) (λ_ s=>s) (λv H h=>by
  obtain⟨rfl,rfl⟩:=h
  exact⟨_,λ_ s=>bp (H:=[]) (m,wv) (s),rfl,rfl⟩)
theorem De(d:Nat)(D:DS)(mask torn n:Int)(hD:D.Ok):DT 49 #[(.pointer (some ⟨d,0,none⟩)), .int .i64 mask, .int .i64 torn, .int .i64 n] T0 [dk d D] (dm (λv H=>True∧H=[dk d (D.crash mask torn n)])):=Leg.Does.pack (B:=[]) λ⟨m,wv⟩=>
 Leg.Does.withinR (yy d m wv D.s D.ws D.ar D.dn D.lf mask torn n hD.s hD.ws) (B:=[]) (λ_ _ _ _=>trivial) (λ_ s=>s) (λv H h=>by
  subst h
  exact⟨_,λ_ s=>bp (H:=[]) (m,(.slice none 0 0:Value)) s,trivial,rfl⟩)
theorem xK(d:Nat)(D:DS)(at':Int)(x:Value)(bs:List UInt8)(hD:D.Ok)(hb:D.ws.length≤1000000000):DT 95 #[(.pointer (some ⟨d,0,none⟩)), .int .i64 at',x] (IsW x bs) [dk d D] (RI (.int .i64 (D.write at' bs).1) [dk d ((D.write at' bs).2)]):=Leg.Does.pack (B:=[]) λ⟨m,wv⟩=>
 Leg.Does.withinR (yx d m wv D.ws D.ar D.dn D.lf at' x bs hD.lf hb) (B:=[jW m (rP D.s)]) (λ_ _ h d=>h.more d) (λ_ s=>aC [0,1] rfl s) (λv H h=>by
  unfold DS.write;replace h:(if at'<0∨2048≤at'∨64<bs.length then _ else _):=h;split at h<;>rename_i h1
  · rw[if_pos h1]
    obtain⟨rfl,rfl⟩:=h;exact⟨_,λ_ s=>bp (H:=[]) (m,wv) (aC [0,1] rfl s),rfl,rfl⟩
  · rw[if_neg h1]
    split at h<;>rename_i h2
    · rw[if_pos h2]
      obtain⟨rfl,rfl⟩:=h;exact⟨_,λ_ s=>bp (H:=[]) (m,wv) (aC [0,1] rfl s),rfl,rfl⟩
    · rw[if_neg h2]
      obtain⟨rfl,wv',rfl⟩:=h
      exact⟨_,λ_ s=>bp (H:=[]) (m,wv') (aC [0,1] rfl s),rfl,rfl⟩)
theorem A6(d:Nat)(D:DS)(hD:D.Ok):DT 96 #[(.pointer (some ⟨d,0,none⟩))] T0 [dk d D] (RI (.int .i64 D.sync.1) [dk d D.sync.2]):=by
 obtain⟨s,ws,ar,lf,dn⟩:=D;cases dn
 · exact Leg.Does.pack (B:=[]) λ⟨m,wv⟩=>Leg.Does.withinR (xH d m wv s ws ar lf hD.ws) (B:=[]) (λ_ _ _ _=>trivial) (λ_ s=>s) (λv H h=>by
    obtain⟨rfl,rfl⟩:=h
    exact⟨_,λ_ s=>bp (H:=[]) (m,(.slice none 0 0:Value)) s,rfl,rfl⟩)
 · exact Leg.Does.pack (B:=[]) λ⟨m,wv⟩=>Leg.Does.withinR (um d m wv ar lf) (B:=[jW m (rP s),own wv ws.length (dI ws) 175 65]) (λ_ _ _ _=>trivial) (λ_ s=>s) (λv H h=>by
    obtain⟨rfl,rfl⟩:=h
    exact⟨_,λ_ s=>bp (H:=[]) (m,wv) s,rfl,rfl⟩)
theorem JR:DT 42 #[] T0 [] (dm (λv H=>∃d,v= .pointer (some ⟨d,0,none⟩)∧H=[dk d DS.new])):=
 Leg.Does.withinR C7 (B:=[]) (λ_ _ _ _=>trivial) (λ_ s=>s) (λv H h=>by
  obtain⟨d,m,rfl,rfl⟩:=h
  exact⟨_,λ_ s=>bp (H:=[]) (m,(.slice none 0 0:Value)) (ei (List.Perm.trans (List.Perm.swap _ _ _) (List.Perm.cons _ (List.Perm.swap _ _ _))) (fR 175 65 s)),d,rfl,rfl⟩)
end Go.Proofs.YtfocodjhmkokpaaGreatDoor
end

section
namespace Wal
open Go Leg Codec Api Dsk
theorem tY{x y:Int}(k:Nat)(hx:0≤x)(hx2:x<2^k)(hy:0≤y)(h:x+y*2^k<4294967296):iI .u32 x (y*2^k)=x+y*2^k:=by
 obtain⟨a,rfl⟩:=Int.eq_ofNat_of_zero_le hx;obtain⟨b,rfl⟩:=Int.eq_ofNat_of_zero_le hy;have e2:((b:Nat):Int)*2^k=((b*2^k:Nat):Int):=by simp
 rw[e2]at h ⊢
 have ha:a<2^k:=by
  have:(((2:Nat)^k:Nat):Int)=(2:Int)^k:=by simp
  omega
 have hs:a+b*2^k<4294967296:=by omega
 have h1:(BitVec.ofInt 32 (a:Int)).toNat=a:=by rw[BitVec.toNat_ofInt];omega
 have h2:(BitVec.ofInt 32 ((b*2^k:Nat):Int)).toNat=b*2^k:=by
  rw[BitVec.toNat_ofInt];generalize b*2^k=q at*;omega
 have h3:a|||b*2^k=a+b*2^k:=by
  rw[Nat.or_comm,←Nat.shiftLeft_eq,←Nat.shiftLeft_add_eq_or_of_lt ha,jr]
 show IntKind.u32.wrap (((BitVec.ofInt 32 (a:Int))||| (BitVec.ofInt 32 ((b*2^k:Nat):Int))).toNat:Nat)=_;rw[BitVec.toNat_or,h1,h2,h3];generalize b*2^k=q at*;rw[kG (by omega) (by omega)];omega
theorem Hs{x y:Int}(k:Nat)(hx:0≤x)(hx2:x<2^k)(hy:0≤y)(h:x+y*2^k<9223372036854775808):iI .i64 (y*2^k) x=x+y*2^k:=by
 obtain⟨a,rfl⟩:=Int.eq_ofNat_of_zero_le hx;obtain⟨b,rfl⟩:=Int.eq_ofNat_of_zero_le hy;have e2:((b:Nat):Int)*2^k=((b*2^k:Nat):Int):=by simp
 rw[e2]at h ⊢
 have ha:a<2^k:=by
  have:(((2:Nat)^k:Nat):Int)=(2:Int)^k:=by simp
  omega
 have h1:(BitVec.ofInt 64 (a:Int)).toNat=a:=by rw[BitVec.toNat_ofInt];omega
 have h2:(BitVec.ofInt 64 ((b*2^k:Nat):Int)).toNat=b*2^k:=by
  rw[BitVec.toNat_ofInt];generalize b*2^k=q at*;omega
 have h3:b*2^k|||a=a+b*2^k:=by
  rw[←Nat.shiftLeft_eq,←Nat.shiftLeft_add_eq_or_of_lt ha,jr]
 show IntKind.i64.wrap (((BitVec.ofInt 64 ((b*2^k:Nat):Int))||| (BitVec.ofInt 64 (a:Int))).toNat:Nat)=_;rw[BitVec.toNat_or,h1,h2,h3];generalize b*2^k=q at*;rw[bH (by omega) (by omega)];omega
theorem GD(x:Int):0≤IntKind.u32.wrap x∧IntKind.u32.wrap x<4294967296:=by
 simp only[IntKind.wrap,IntKind.signed,IntKind.bits];simp;omega
theorem Bp(a b:Int):0≤pO .u32 a b∧pO .u32 a b<4294967296:=GD _
def r8(x:Int):UInt8:=UInt8.ofNat (x%256).toNat
theorem mf(x:Int):(((r8 x).toNat:Nat):Int)=x%256:=by
 have:(x%256).toNat<256:=by omega
 simp only[r8,UInt8.toNat_ofNat'];omega
theorem r8_wrap(x:Int):IntKind.u8.wrap x=(((r8 x).toNat:Nat):Int):=by
 rw[mf];simp only[IntKind.wrap,IntKind.signed,IntKind.bits];simp
def Fu(r:Int):Int:=if qU .u32 r 1=1 then pO .u32 (r.fdiv 2) 3988292384 else r.fdiv 2
def mD(r:Int):Nat→Int
 |0=>r
 |k+1=>Fu (mD r k)
def Gm(r:Int)(c:UInt8):Int:=mD (pO .u32 r ((c.toNat:Nat):Int)) 8
def fl(r:Int)(bs:List UInt8):Int:=bs.foldl Gm r
def fW(bs:List UInt8):Int:=pO .u32 4294967295 (fl 4294967295 bs)
theorem Dh{r:Int}{bs:List UInt8}{k:Nat}(h:k<bs.length):fl r (bs.take (k+1))=Gm (fl r (bs.take k)) (bs.getD k 0):=by
 rw[fl,fl,br h,eU,List.getD_eq_getElem?_getD,List.getElem?_eq_getElem h];rfl
theorem yA(r:Int)(a b:List UInt8):fl r (a++b)=fl (fl r a) b:=by simp[fl]
theorem Di{r:Int}{ps:List (List UInt8)}{k:Nat}(h:k<ps.length):fl r (ps.take (k+1)).flatten=fl (fl r (ps.take k).flatten) ps[k]:=by
 rw[br h,List.flatten_append,yA];simp
theorem Dl(bs:List UInt8):0≤fW bs∧fW bs<4294967296:=Bp _ _
def Qp(r:Int):List UInt8:=[r8 r,r8 (r.fdiv 256),r8 (r.fdiv 65536),r8 (r.fdiv 16777216)]
def JF(a b c d:UInt8):Int:=
 iI .u32 (iI .u32 (iI .u32 ((a.toNat:Nat):Int) (IntKind.u32.wrap (((b.toNat:Nat):Int)*2^8))) (IntKind.u32.wrap (((c.toNat:Nat):Int)*2^16))) (IntKind.u32.wrap (((d.toNat:Nat):Int)*2^24))
theorem Ls(a b c d:UInt8):JF a b c d=((a.toNat:Nat):Int)+((b.toNat:Nat):Int)*256+((c.toNat:Nat):Int)*65536+((d.toNat:Nat):Int)*16777216:=by
 have ha:=a.toNat_lt;have hb:=b.toNat_lt;have hc:=c.toNat_lt;have hd:=d.toNat_lt;unfold JF;generalize a.toNat=a at*;generalize b.toNat=b at*;generalize c.toNat=c at*;generalize d.toNat=d at*;rw[kG (x:=(b:Int)*2^8) (by omega) (by omega),kG (x:=(c:Int)*2^16) (by omega) (by omega),kG (x:=(d:Int)*2^24) (by omega) (by omega)];rw[tY 8 (by omega) (by omega) (by omega) (by omega),tY 16 (by omega) (by omega) (by omega) (by omega),tY 24 (by omega) (by omega) (by omega) (by omega)];omega
def p8(bs:List UInt8):List UInt8:=bs++Qp (fW bs)
def mT(bs:List UInt8):Option (List UInt8):=
 if bs.length<4 then none
 else if fW (bs.take (bs.length-4))=JF ((bs.drop (bs.length-4)).getD 0 0) ((bs.drop (bs.length-4)).getD 1 0) ((bs.drop (bs.length-4)).getD 2 0) ((bs.drop (bs.length-4)).getD 3 0)then some (bs.take (bs.length-4))else none
theorem kS(bs:List UInt8):(p8 bs).length=bs.length+4:=by simp[p8,Qp]
theorem JE{r:Int}(h:0≤r∧r<4294967296):JF (r8 r) (r8 (r.fdiv 256)) (r8 (r.fdiv 65536)) (r8 (r.fdiv 16777216))=r:=by
 rw[Ls,mf,mf,mf,mf,Int.fdiv_eq_ediv_of_nonneg _ (by decide),Int.fdiv_eq_ediv_of_nonneg _ (by decide),Int.fdiv_eq_ediv_of_nonneg _ (by decide)];omega
theorem ry(bs:List UInt8):mT (p8 bs)=some bs:=by
 have hl:=kS bs;have e1:(p8 bs).take (bs.length+4-4)=bs:=by rw[Im,p8];exact l7
 have e2:(p8 bs).drop (bs.length+4-4)=Qp (fW bs):=by rw[Im,p8];exact DQ
 unfold mT;rw[hl,if_neg (by omega),e1,e2];exact if_pos (JE (Dl bs)).symm
theorem y6{bs t:List UInt8}(h:mT bs=some t):t.length+4=bs.length:=by
 unfold mT at h;split at h
 · cases h
 · split at h
   · injection h with h;subst h;rw[bh];omega
   · cases h
def bE(n:Nat):Nat:=if n=0 then 1 else(n-1) / 52+1
theorem p9(n:Nat):0<bE n:=by unfold bE;split<;>omega
theorem w3{n:Nat}(h:n≤3000):bE n≤58:=by unfold bE;split<;>omega
theorem yp(n:Nat):n≤bE n*52:=by unfold bE;split<;>omega
def KB(n:Int):List UInt8:=[r8 (n.fdiv 16777216),r8 (n.fdiv 65536),r8 (n.fdiv 256),r8 n]
def If(bs:List UInt8):Int:=bs.foldl (λh c=>iI .i64 (IntKind.i64.wrap (h*2^8)) ((c.toNat:Nat):Int)) 0
theorem Kj{bs:List UInt8}{k:Nat}(h:k<bs.length):If (bs.take (k+1))=iI .i64 (IntKind.i64.wrap (If (bs.take k)*2^8)) (((bs.getD k 0).toNat:Nat):Int):=by
 rw[If,If,br h,eU,List.getD_eq_getElem?_getD,List.getElem?_eq_getElem h];rfl
theorem vO{h:Int}(c:UInt8)(h0:0≤h)(h1:h<4294967296):iI .i64 (IntKind.i64.wrap (h*2^8)) ((c.toNat:Nat):Int)=h*256+((c.toNat:Nat):Int):=by
 have hc:=c.toNat_lt;generalize c.toNat=c at*;rw[bH (by omega) (by omega),Hs 8 (by omega) (by omega) (by omega) (by omega)];omega
theorem Kk(a b c d:UInt8):If [a,b,c,d]=((a.toNat:Nat):Int)*16777216+((b.toNat:Nat):Int)*65536+((c.toNat:Nat):Int)*256+((d.toNat:Nat):Int):=by
 have ha:=a.toNat_lt;have hb:=b.toNat_lt;have hc:=c.toNat_lt;have hd:=d.toNat_lt;simp only[If,List.foldl_cons,List.foldl_nil];rw[vO a (by omega) (by omega),vO b (by omega) (by omega),vO c (by omega) (by omega),vO d (by omega) (by omega)];omega
theorem LS{n:Int}(h0:0≤n)(h1:n<4294967296):If (KB n)=n:=by
 rw[KB,Kk,mf,mf,mf,mf,Int.fdiv_eq_ediv_of_nonneg _ (by decide),Int.fdiv_eq_ediv_of_nonneg _ (by decide),Int.fdiv_eq_ediv_of_nonneg _ (by decide)];omega
def gz(b:List UInt8)(i:Nat):List UInt8:=(b.drop (i*52)).take 52
theorem tU(b:List UInt8)(i:Nat):(gz b i).length≤52:=by rw[gz,bh];omega
theorem KX{n k:Nat}(h:k<bE n):k*52≤n:=by unfold bE at h;split at h<;>omega
theorem KY(b:List UInt8)(k:Nat):((b.take (min ((k+1)*52) b.length)).drop (k*52))=gz b k:=by
 rw[gz,j8,fg,Nat.one_mul]
 by_cases q:k*52+52≤b.length
 · rw[Nat.min_eq_left q,co]
 · rw[Nat.min_eq_right (by omega),az (by rw[bG];omega),az (by rw[bG];omega)]
theorem Ho(b:List UInt8): ∀k,b.length≤k*52→((List.range k).map (gz b)).flatten=b:=by
 have key: ∀k,((List.range k).map (gz b)).flatten=b.take (k*52):=by
  intro k
  induction k with
  |zero=>simp
  |succ k ih=>
   rw[cZ,cz,List.flatten_append,ih,fg,Nat.one_mul,List.take_add];simp[gz]
 intro k hk;rw[key,az hk]
def jE(number:Int)(place all:Nat)(p:List UInt8):List UInt8:=KB number++([r8 (place:Int),r8 (all:Int),r8 (p.length:Int)]++(p++List.replicate (52-p.length) 0))
theorem ju{number:Int}{place all:Nat}{p:List UInt8}(h:p.length≤52):(jE number place all p).length=59:=by simp[jE,KB];omega
def p3(number:Int)(place all:Nat)(p:List UInt8):jP:=p8 (jE number place all p)++[1]
theorem GW{number:Int}{place all:Nat}{p:List UInt8}(h:p.length≤52):(p3 number place all p).length=64:=by simp[p3,kS,ju h]
def cu(number:Int)(b:List UInt8):List jP:=(List.range (bE b.length)).map λi=>p3 number i (bE b.length) (gz b i)
def mX(number:Int)(b:List UInt8)(k:Nat):List jP:=(List.range k).map λi=>p3 number i (bE b.length) (gz b i)
theorem Ep(number:Int)(b:List UInt8)(k:Nat):mX number b (k+1)=mX number b k++[p3 number k (bE b.length) (gz b k)]:=by simp[mX,cZ]
theorem y7(number:Int)(b:List UInt8)(k:Nat):(mX number b k).length=k:=by simp[mX]
theorem GH{number:Int}{place all:Nat}{p:List UInt8}(h:p.length≤52):
 wr (dH (KB number++([r8 (place:Int),r8 (all:Int),r8 (p.length:Int)]++List.replicate 52 0))) 7 ((dH p).take (min p.length 52))=dH (jE number place all p):=by
 have e:(dH p).take (min p.length 52)=dH p:=az (by rw[aY];omega);rw[e,wr,aY];have e2:(dH (KB number++([r8 (place:Int),r8 (all:Int),r8 (p.length:Int)]++List.replicate 52 0))).take 7=dH (KB number++[r8 (place:Int),r8 (all:Int),r8 (p.length:Int)]):=rfl
 have e3:(dH (KB number++([r8 (place:Int),r8 (all:Int),r8 (p.length:Int)]++List.replicate 52 0))).drop (7+p.length)=dH (List.replicate (52-p.length) 0):=by
  rw[←j9];have:(dH (KB number++([r8 (place:Int),r8 (all:Int),r8 (p.length:Int)]++List.replicate 52 0))).drop 7=dH (List.replicate 52 0):=rfl;rw[this,dH,dH,←k9,List.drop_replicate]
 rw[e2,e3,jE];simp[dH]
theorem eF(number:Int)(b:List UInt8):(cu number b).length=bE b.length:=by simp[cu]
def fj(s:jP)(number place:Int):Option (List UInt8×Int):=
 match mT (s.take 63)with
 |none=>none
 |some t=>if s.getD 63 0≠1 then none
  else if If (t.take 4)≠number∨(((t.getD 4 0).toNat:Nat):Int)≠place∨place≥(((t.getD 5 0).toNat:Nat):Int)∨(((t.getD 6 0).toNat:Nat):Int)>52 then none
  else some ((t.drop 7).take (t.getD 6 0).toNat,(((t.getD 5 0).toNat:Nat):Int))
theorem Cn{number:Int}{place all:Nat}{p:List UInt8}(h:p.length≤52)(h0:0≤number)(h1:number<4294967296)(hp:place<all)(ha:all≤255):fj (p3 number place all p) number place=some (p,(all:Int)):=by
 have e1:(p3 number place all p).take 63=p8 (jE number place all p):=by
  rw[p3,cv (by rw[kS,ju h];omega),az (by rw[kS,ju h];omega)]
 have e2:(p3 number place all p).getD 63 0=1:=by
  rw[p3,List.getD_eq_getElem?_getD,List.getElem?_append_right (by rw[kS,ju h];omega),kS,ju h];rfl
 have n1:(((r8 (place:Int)).toNat:Nat):Int)=place:=by rw[mf];omega
 have n2:(((r8 (all:Int)).toNat:Nat):Int)=all:=by rw[mf];omega
 have n3:(((r8 (p.length:Int)).toNat:Nat):Int)=p.length:=by rw[mf];omega
 unfold fj;rw[e1,ry];simp only[e2,ne_eq,not_true_eq_false,if_false];have t4:(jE number place all p).take 4=KB number:=rfl;have g4:(jE number place all p).getD 4 0=r8 (place:Int):=rfl;have g5:(jE number place all p).getD 5 0=r8 (all:Int):=rfl;have g6:(jE number place all p).getD 6 0=r8 (p.length:Int):=rfl;have g7:(jE number place all p).drop 7=p++List.replicate (52-p.length) 0:=rfl;rw[t4,LS h0 h1,g4,g5,g6,g7,n1,n2,n3];rw[if_neg (by omega)];have n3':(r8 (p.length:Int)).toNat=p.length:=by omega
 rw[n3'];simp
theorem rJ{s:jP}{number place:Int}(h:s.getD 63 0≠1):fj s number place=none:=by
 unfold fj;split
 · rfl
 · rw[if_pos h]
theorem oU{s b:jP}{number place all:Int}(hs:s.length=64)(h:fj s number place=some (b,all)):place<all∧all≤255∧b.length≤52:=by
 unfold fj at h;split at h
 · cases h
 · rename_i t ht
   have hl:=y6 ht;split at h
   · cases h
   · split at h
     · cases h
     · rename_i h2
       injection h with h
       simp only[Prod.mk.injEq]at h;obtain⟨rfl,rfl⟩:=h;have:=(t.getD 5 0).toNat_lt;rw[bh];omega
theorem AK{s:jP}{number place:Int}(h:mT (s.take 63)=none):fj s number place=none:=by simp only[fj,h]
theorem mz{s t:jP}{number place:Int}(h:mT (s.take 63)=some t)(h2:If (t.take 4)≠number∨(((t.getD 4 0).toNat:Nat):Int)≠place∨place≥(((t.getD 5 0).toNat:Nat):Int)∨(((t.getD 6 0).toNat:Nat):Int)>52):fj s number place=none:=by
 simp only[fj,h];split
 · rfl
 · first|rfl|rw[if_pos h2]
theorem Cm{s t:jP}{number place:Int}(h:mT (s.take 63)=some t)(h1:s.getD 63 0=1)(h2: ¬(If (t.take 4)≠number∨(((t.getD 4 0).toNat:Nat):Int)≠place∨place≥(((t.getD 5 0).toNat:Nat):Int)∨(((t.getD 6 0).toNat:Nat):Int)>52)):
 fj s number place=some ((t.drop 7).take (t.getD 6 0).toNat,(((t.getD 5 0).toNat:Nat):Int)):=by
 simp only[fj,h,h1,ne_eq,not_true_eq_false,if_false];rw[if_neg h2]
def kX(rd:Int→jP)(number at' all:Int):Nat→Option (List UInt8)
 |0=>some []
 |k+1=>match kX rd number at' all k with
  |none=>none
  |some b=>match fj (rd (at'+k)) number k with
   |none=>none
   |some (m,same)=>if same=all then some (b++m)else none
def fP(rd:Int→jP)(number at':Int):Option (List UInt8×Int):=
 match fj (rd at') number 0 with
 |none=>none
 |some (_,all)=>(kX rd number at' all all.toNat).map λb=>(b,all)
theorem EO{rd:Int→jP}{number at' all:Int}{k:Nat}(h:kX rd number at' all k=none): ∀m,k≤m→kX rd number at' all m=none:=by
 intro m hm
 induction hm with
 |refl=>exact h
 |step _ ih=>simp only[kX,ih]
theorem xd{rd:Int→jP}{number at' all:Int}{k:Nat}(h:fj (rd (at'+k)) number k=none∨∃m same,fj (rd (at'+k)) number k=some (m,same)∧same≠all): ∀m,k<m→kX rd number at' all m=none:=by
 refine λm hm=>EO (k:=k+1) ?_ m hm
 simp only[kX];cases kX rd number at' all k with
 |none=>rfl
 |some b=>
  rcases h with h| ⟨x,same,h,h2⟩
  · simp only[h]
  · simp only[h,if_neg h2]
theorem xf{rd:Int→jP}{number at' all:Int}{k:Nat}{b x:List UInt8}(h:kX rd number at' all k=some b)(h2:fj (rd (at'+k)) number k=some (x,all)):kX rd number at' all (k+1)=some (b++x):=by
 simp only[kX,h,h2,if_true]
theorem HD{rd:Int→jP}{number at' all:Int}{b:List UInt8}(h:fj (rd at') number 0=some (b,all)):kX rd number at' all 1=some b:=by
 have h0:kX rd number at' all 0=some []:=rfl;have:=xf (rd:=rd) (number:=number) (at':=at') (all:=all) (k:=0) h0 (x:=b) (by simpa using h)
 simpa using this
theorem q6{rd:Int→jP}{number at':Int}(h:fj (rd at') number 0=none):fP rd number at'=none:=by simp only[fP,h]
theorem qZ{rd:Int→jP}{number at' all:Int}{b:List UInt8}(h:fj (rd at') number 0=some (b,all))(h2:kX rd number at' all all.toNat=none):fP rd number at'=none:=by simp only[fP,h,h2,Option.map_none]
theorem sI{rd:Int→jP}{number at' all:Int}{b c:List UInt8}(h:fj (rd at') number 0=some (b,all))(h2:kX rd number at' all all.toNat=some c):fP rd number at'=some (c,all):=by simp only[fP,h,h2,Option.map_some]
def fV(rd:Int→jP):Nat→Int→Int→List (List UInt8)×Int
 |0,_,used=>([],used)
 |f+1,cnt,used=>match fP rd (cnt+1) used with
  |none=>([],used)
  |some (b,all)=>let r:=fV rd f (cnt+1) (used+all);(b::r.1,r.2)
def jD:Nat→Int→DS→Int×DS
 |0,_,D=>(0,D)
 |n+1,at',D=>if D.read at'=zs then jD n (at'+1) D else if(D.write at' []).1=0 then jD n (at'+1) (D.write at' []).2 else D.write at' []
structure OpenR where
 err:Int
 recs:List (List UInt8)
 used:Int
 D:DS
def jm:Nat:=2049
theorem s6:jm=2049:=rfl
def bP(D:DS):OpenR:=
 let r:=fV D.read jm 0 0;let w:=jD (2048-r.2).toNat r.2 D
 if w.1≠0 then⟨w.1,[],0,w.2⟩else if w.2.sync.1≠0 then⟨w.2.sync.1,[],0,w.2.sync.2⟩else⟨0,r.1,r.2,w.2.sync.2⟩
def In(s:fC):Prop:=∀p∈s,0≤p.1∧p.1<2048
def DS.In(D:DS):Prop:=Wal.In D.s∧Wal.In D.ws
end Wal
end

section
namespace Go.Proofs.YtfocodjhmkokpaaGreatDoor
open Go Leg Codec Api Dsk Wal
theorem F3(x:Value)(ps:List (List UInt8)):
 DT 180 #[x] (Pp x ps) [] (RI (.int .u32 (fW ps.flatten)) []):=by
 refine BD 39 Tryz.func180 rfl rfl rfl λw0 F hF=>sr λ_ J1=>PS ?_
 refine nx J1 (sr λ_ J2=>PS ?_);refine nx J2 (ab λ_ J3=>sr λ_ J4=>PS ?_);refine tp (df rfl vA rfl hF.len) ?_;refine PS ?_;refine nx J4 (au ?_)
 refine bn (α:=(Nat)) (λk=>k≤ps.length) (λk=>[(2,(.int .u32 0)),(3,(.int .u32 (fl 4294967295 (ps.take k).flatten))),(8,x),(9,(.int .i64 (((ps.length:Nat):Int)))),(10,(.int .i64 (((k:Nat):Int))))]) (λk=>[]) (λk=>ps.length-k) 0
  (aM _) SB
  (λ_ s=>s) (λk hinv=>?_)
 obtain hk:=hinv;refine sr λ_ J5=>PS ?_
 refine ao ?_ ?_<;>intro h11;obtain⟨b_a,off_a,cap_a,cs_a,T_a,z_a,us_a,hv_a,hc_a,hb_a,hl_a,hs_a,hE_a⟩:=IsL.at hF (j:=k) (by omega);obtain⟨u_a,rfl,hu_a⟩:=hE_a;refine nx J5 (ab λ_ J6=>CY (qx J6 (ab λ_ J7=>au (sr λ_ J8=>tp (bd (r:=off_a+k) hv_a rfl vA kL rfl rfl (by omega) (by omega) (by omega)) ?_))));refine tp (ca (v:=u_a) rfl fE rfl rfl (iG hb_a (λ_ h=>eb h)) (by have:=BP (j:=0) hs_a rfl;simpa using this)) ?_;refine PS ?_;refine nx J8 (sr λ_ J9=>PS ?_);refine tp (df rfl fE rfl hu_a.len) ?_;refine PS ?_;refine nx J9 (au ?_)
 refine bn (α:=(Nat)) (λj=>j≤ps[k].length) (λj=>[(2,(.int .u32 0)),(3,(.int .u32 (fl (fl 4294967295 (ps.take k).flatten) (ps[k].take j)))),(8,x),(9,(.int .i64 (((ps.length:Nat):Int)))),(10,(.int .i64 (((k:Nat):Int)))),(14,u_a),(15,(.int .i64 (((ps[k].length:Nat):Int)))),(16,(.int .i64 (((j:Nat):Int))))]) (λj=>[]) (λj=>ps[k].length-j) 0
  (aM _) SB
  (λ_ s=>s) (λj hinv=>?_)
 obtain hj:=hinv;refine sr λ_ J10=>PS ?_
 refine ao ?_ ?_<;>intro h17;obtain⟨b_b,off_b,cap_b,cs_b,T_b,z_b,hv_b,hb_b,hcs_b,hcp_b⟩:=IsW.at hu_a (j:=j) (by omega);have hlt_b:=IsW.lt hu_a;refine nx J10 (ab λ_ J11=>CY (qx J11 (ab λ_ J12=>au (sr λ_ J13=>tp (bd (r:=off_b+j) hv_b rfl fE jK rfl rfl (by omega) (by omega) (by omega)) ?_))));refine tp (ca (v:=(.int .u8 (((((ps[k]).getD j 0).toNat:Nat):Int)))) rfl Y5 rfl rfl (iG hb_b (λ_ h=>eb h)) (hcs_b j (by omega))) ?_;refine PS ?_;refine nx J13 (sr λ_ J14=>P2 ?_);refine tp (cI (r:=((((ps[k]).getD j 0).toNat:Nat):Int)) rfl Y5 Bl rfl (kG (by omega) (by have:=(ps[k].getD j 0).toNat_lt;omega))) ?_;refine tp (PV.xor (r:=pO .u32 (fl (fl 4294967295 (ps.take k).flatten) (ps[k].take j)) (((((ps[k]).getD j 0).toNat:Nat):Int))) rfl rfl rfl rfl) ?_;refine PS ?_;refine nx J14 (sr λ_ J15=>PS ?_);refine nx J15 (au ?_)
 refine bn (α:=(Nat)) (λi=>i≤8) (λi=>[(2,(.int .u32 0)),(3,(.int .u32 (mD (pO .u32 (fl (fl 4294967295 (ps.take k).flatten) (ps[k].take j)) ((((ps[k]).getD j 0).toNat:Nat):Int)) i))),(8,x),(9,(.int .i64 (((ps.length:Nat):Int)))),(10,(.int .i64 (((k:Nat):Int)))),(14,u_a),(15,(.int .i64 (((ps[k].length:Nat):Int)))),(16,(.int .i64 (((j:Nat):Int)))),(24,(.int .i64 (((i:Nat):Int))))]) (λi=>[]) (λi=>8-i) 0
  (aM _) SB
  (λ_ s=>s) (λi hinv=>?_)
 obtain hi:=hinv;refine sr λ_ J16=>PS ?_
 refine ao ?_ ?_<;>intro h25;refine nx J16 (ab λ_ J17=>CY (qx J17 (ab λ_ J18=>au (sr λ_ J19=>PS ?_))));refine tp (pG (r:=qU .u32 (mD (pO .u32 (fl (fl 4294967295 (ps.take k).flatten) (ps[k].take j)) ((((ps[k]).getD j 0).toNat:Nat):Int)) i) 1) rfl rfl rfl rfl) ?_;refine PS ?_;refine ao ?_ ?_<;>intro h28;refine nx J19 (CY (ad (PS ?_)));refine tp (j5 (r:=(mD (pO .u32 (fl (fl 4294967295 (ps.take k).flatten) (ps[k].take j)) ((((ps[k]).getD j 0).toNat:Nat):Int)) i).fdiv 2) rfl rfl rfl (by omega) rfl) ?_;refine tp (PV.xor (r:=pO .u32 ((mD (pO .u32 (fl (fl 4294967295 (ps.take k).flatten) (ps[k].take j)) ((((ps[k]).getD j 0).toNat:Nat):Int)) i).fdiv 2) 3988292384) rfl rfl rfl rfl) ?_;refine PS ?_;refine ap (ag (ac J18 (ad (AD ?_))));refine PS ?_;refine ap ?_
 exact aI ((i+1):(Nat)) (by omega) (by show 8- (i+1)<8-i;omega)
  (aK (bA rfl (congrArg (Value.int .u32) (by rw[mD,Fu,if_pos h28])) SB))
  (λ_ s=>s)
 refine nx J19 (CN (ad (PS ?_)));refine tp (j5 (r:=(mD (pO .u32 (fl (fl 4294967295 (ps.take k).flatten) (ps[k].take j)) ((((ps[k]).getD j 0).toNat:Nat):Int)) i).fdiv 2) rfl rfl rfl (by omega) rfl) ?_;refine PS ?_;refine ap (ag (ac J18 (ad (AD ?_))));refine PS ?_;refine ap ?_
 exact aI ((i+1):(Nat)) (by omega) (by show 8- (i+1)<8-i;omega)
  (aK (bA rfl (congrArg (Value.int .u32) (by rw[mD,Fu,if_neg h28])) SB))
  (λ_ s=>s)
 refine nx J16 (ab λ_ J20=>CN (aX (aA (aA (bl (ag (ac J12 (ad (AD ?_)))))))));refine PS ?_;refine ap ?_
 exact aI ((j+1):(Nat)) (by omega) (by show ps[k].length- (j+1)<ps[k].length-j;omega)
  (aK (bA rfl (congrArg (Value.int .u32) (by obtain rfl:i=8:=(by omega);rw[Dh (by omega)];rfl)) SB))
  (λ_ s=>s)
 refine nx J10 (ab λ_ J21=>CN (aX (aA (aA (bl (ag (ac J7 (ad (AD ?_)))))))));refine PS ?_;refine ap ?_
 exact aI ((k+1):(Nat)) (by omega) (by show ps.length- (k+1)<ps.length-k;omega)
  (aK (bA rfl (congrArg (Value.int .u32) (by rw[show j=ps[k].length by omega,dC,Di (by omega)])) SB))
  (λ_ s=>s)
 refine nx J5 (ab λ_ J22=>CN (aX (aA (aA (bl (ac J3 (sr λ_ J23=>PS ?_)))))));refine tp (PV.com (r:=pO .u32 4294967295 (fl 4294967295 (ps.take k).flatten)) rfl rfl rfl) ?_;refine PS ?_;refine nx J23 (ai (WK [] (av rfl rfl ?_)));obtain rfl:k=ps.length:=by omega
 rw[dC];exact⟨rfl,rfl⟩
theorem uG(x:Value)(bs:List UInt8)(hb:bs.length≤1000000000):
 DT 190 #[x] (IsW x bs) [] (dm (λv H=>H=[ce v (p8 bs) 5])):=by
 refine BD 29 Tryz.func190 rfl rfl rfl λw0 F hF=>sr λ_ J1=>PS ?_
 refine nx J1 (sr λ_ J2=>PS ?_);refine aQ (cells:=#[x]) (aa rfl) rfl rfl rfl vA HS rfl rfl rfl (tc hF.one (by simp)) (λb6=>CF Mm (F3 (.slice (some ⟨b6,0,none⟩) (1) (1)) [bs]) ID (CM hF 0 rfl rfl) ?_);rw[show [bs].flatten=bs by simp];refine PS ?_;refine nx J2 (sr λ_ J3=>PS ?_);refine tp (df rfl fE rfl hF.len) ?_;refine AD ?_;refine TL.makeB (0) (bs.length+4) (aa rfl) rfl rfl rfl fE yc rfl rfl rfl (by omega) (by omega) (by omega) (λb11=>cm (H':=[ce (.slice (some ⟨b11,0,none⟩) 0 (bs.length+4)) ([]) 5,ah b6 [x] 53]) (λ_ s=>ny 0 rfl rfl (by omega) (by simp only[maxLen];omega) (by simp[dH]) rfl s) (PS ?_));refine nx J3 (sr λ_ J4=>P2 ?_);refine cj (k:=0) (news:=dH (bs)) (nn':=(bs:List UInt8).length) (xs':=dH (bs)) (aa rfl) rfl rfl rfl fE yc rfl rfl rfl rfl rfl rfl (λ_ _=>hF.src (λ_ h=>eb h)) (eV _) (by simp only[maxLen,aw];omega) (by simp only[aw];omega) (by simp) (bK _) (λv14 ov14=>PS ?_);refine nx J4 (sr λ_ J5=>P2 ?_);refine tp (cI (r:=(((r8 (fW bs)).toNat:Nat):Int)) rfl Bl Y5 rfl (r8_wrap _)) ?_;refine PS ?_;refine tp (j5 (r:=(fW bs).fdiv 256) rfl rfl rfl (by omega) rfl) ?_;refine tp (cI (r:=(((r8 ((fW bs).fdiv 256)).toNat:Nat):Int)) rfl Bl Y5 rfl (r8_wrap _)) ?_;refine PS ?_;refine tp (j5 (r:=(fW bs).fdiv 65536) rfl rfl rfl (by omega) rfl) ?_;refine tp (cI (r:=(((r8 ((fW bs).fdiv 65536)).toNat:Nat):Int)) rfl Bl Y5 rfl (r8_wrap _)) ?_;refine PS ?_
 refine tp (j5 (r:=(fW bs).fdiv 16777216) rfl rfl rfl (by omega) rfl) ?_;refine tp (cI (r:=(((r8 ((fW bs).fdiv 16777216)).toNat:Nat):Int)) rfl Bl Y5 rfl (r8_wrap _)) ?_;refine aQ (cells:=#[(.int .u8 ((((r8 (fW bs)).toNat:Nat):Int))),(.int .u8 ((((r8 ((fW bs).fdiv 256)).toNat:Nat):Int))),(.int .u8 ((((r8 ((fW bs).fdiv 65536)).toNat:Nat):Int))),(.int .u8 ((((r8 ((fW bs).fdiv 16777216)).toNat:Nat):Int)))]) (aa rfl) rfl rfl rfl fE yc rfl rfl rfl (by as_aux_lemma=>kernel_rfl) (λb27=>cj (k:=1) (news:=dH ([(r8 (fW bs)),(r8 ((fW bs).fdiv 256)),(r8 ((fW bs).fdiv 65536)),(r8 ((fW bs).fdiv 16777216))])) (nn':=(bs++[(r8 (fW bs)),(r8 ((fW bs).fdiv 256)),(r8 ((fW bs).fdiv 65536)),(r8 ((fW bs).fdiv 16777216))]:List UInt8).length) (xs':=dH (bs++[(r8 (fW bs)),(r8 ((fW bs).fdiv 256)),(r8 ((fW bs).fdiv 65536)),(r8 ((fW bs).fdiv 16777216))])) (aa rfl) rfl rfl rfl fE yc rfl rfl rfl rfl rfl rfl (λ_ _=>gW rfl (RO 0) rfl) (eV [(r8 (fW bs)),(r8 ((fW bs).fdiv 256)),(r8 ((fW bs).fdiv 65536)),(r8 ((fW bs).fdiv 16777216))]) (by simp only[maxLen];omega) (by omega) (by simp) (ii _ _).symm (λv28 ov28=>PS ?_));exact nx J5 (ai (WK [1] (av rfl rfl rfl)))
theorem GJ(a:Option Addr)(c:Nat)(bs:List UInt8)(hc:bs.length≤c)(hb:bs.length≤1000000000):
 DT 157 #[(.slice a bs.length c)] (IsW (.slice a bs.length c) bs) [] (dm (λv H=>(mT bs=none∧v= .tuple #[.slice none 0 0, .bool false]∧H=[])∨∃t u,mT bs=some t∧v= .tuple #[u, .bool true]∧H=[ce u t 5])):=by
 refine BD 50 Tryz.func157 rfl rfl rfl λw0 F hF=>sr λ_ J1=>P2 ?_
 refine nx J1 (ab λ_ J2=>sr λ_ J3=>PS ?_);refine tp (df rfl fE rfl ⟨_,_,rfl⟩) ?_;refine PS ?_;refine ao ?_ ?_<;>intro h9;refine nx J3 (CY (sr λ_ J4=>P2 ?_));refine nx J4 (ai (af (WK [] (gU rfl rfl rfl ?_))));exact .inl ⟨by rw[mT,if_pos (by omega)],rfl,rfl⟩;have hT:IsW (jY (.slice a bs.length c) 0 (bs.length-4)) (bs.take (bs.length-4)) F:=by have:=hF.cut (lo:=0) (hi:=bs.length-4) (by omega) (by omega);simpa using this
 have hU:IsW (jY (.slice a bs.length c) (bs.length-4) bs.length) (bs.drop (bs.length-4)) F:=by have:=hF.cut (lo:=bs.length-4) (hi:=bs.length) (by omega) (by omega);rwa [dC]at this
 have hq:(bs.drop (bs.length-4)).length=4:=by rw[bG];omega
 obtain⟨b_b,off_b,cap_b,cs_b,T_b,z_b,hv_b,hb_b,hcs_b,hcp_b⟩:=IsW.at hU (j:=0) (by omega);have hlt_b:=IsW.lt hU;refine nx J3 (CN (qx J2 (ab λ_ J5=>D0 dp ?_)));refine PD 0 ?_;refine PD 1 ?_;refine ta 2 rfl (df rfl fE rfl ⟨_,_,rfl⟩) ?_;refine ta 3 rfl (iz (r:=(((bs.length-4:Nat):Nat):Int)) rfl rfl rfl (by rw[show(((bs.length:Nat):Int)-4)=((bs.length-4:Nat):Int)by omega];exact bH (by omega) (by omega))) ?_;refine ta 4 rfl (PV.sliceH (hi:=bs.length-4) rfl fE jK rfl rfl rfl (by omega)) ?_;refine PD 5 ?_;refine PD 6 ?_;refine ta 7 rfl (df rfl fE rfl ⟨_,_,rfl⟩) ?_;refine ta 8 rfl (iz (r:=(((bs.length-4:Nat):Nat):Int)) rfl rfl rfl (by rw[show(((bs.length:Nat):Int)-4)=((bs.length-4:Nat):Int)by omega];exact bH (by omega) (by omega))) ?_;refine ta 9 rfl (PV.sliceL (lo:=bs.length-4) rfl fE jK rfl rfl rfl (by omega)) ?_;refine PD 10 ?_;refine PD 11 ?_;refine DN (ac J5 (ab λ_ J6=>D0 dp ?_));refine PD 0 ?_;refine ta 1 rfl (bd (r:=off_b) hv_b rfl fE jK rfl rfl (by omega) (by omega) (by omega)) ?_;refine ta 2 rfl (ca (v:=(.int .u8 ((((((bs.drop (bs.length-4))).getD 0 0).toNat:Nat):Int)))) rfl Y5 rfl rfl (iG hb_b (λ_ h=>h.1)) (hcs_b 0 (by omega))) ?_;refine ta 3 rfl (cI (r:=(((((bs.drop (bs.length-4))).getD 0 0).toNat:Nat):Int)) rfl Y5 Bl rfl (kG (by omega) (by have:=UInt8.toNat_lt (n:=(bs.drop (bs.length-4)).getD 0 0);omega))) ?_;refine PD 4 ?_
 refine ta 5 rfl (bd (r:=off_b+1) hv_b rfl fE jK rfl rfl (by omega) (by omega) (by omega)) ?_;refine ta 6 rfl (ca (v:=(.int .u8 ((((((bs.drop (bs.length-4))).getD 1 0).toNat:Nat):Int)))) rfl Y5 rfl rfl (iG hb_b (λ_ h=>h.1)) (hcs_b 1 (by omega))) ?_;refine ta 7 rfl (cI (r:=(((((bs.drop (bs.length-4))).getD 1 0).toNat:Nat):Int)) rfl Y5 Bl rfl (kG (by omega) (by have:=UInt8.toNat_lt (n:=(bs.drop (bs.length-4)).getD 1 0);omega))) ?_;refine ta 8 rfl (yO (r:=IntKind.u32.wrap ((((((bs.drop (bs.length-4))).getD 1 0).toNat:Nat):Int)*2^8)) rfl rfl rfl (by omega) rfl) ?_;refine ta 9 rfl (Ks (r:=iI .u32 (((((bs.drop (bs.length-4))).getD 0 0).toNat:Nat):Int) (IntKind.u32.wrap ((((((bs.drop (bs.length-4))).getD 1 0).toNat:Nat):Int)*2^8))) rfl rfl rfl rfl) ?_;refine PD 10 ?_;refine ta 11 rfl (bd (r:=off_b+2) hv_b rfl fE jK rfl rfl (by omega) (by omega) (by omega)) ?_;refine ta 12 rfl (ca (v:=(.int .u8 ((((((bs.drop (bs.length-4))).getD 2 0).toNat:Nat):Int)))) rfl Y5 rfl rfl (iG hb_b (λ_ h=>h.1)) (hcs_b 2 (by omega))) ?_;refine ta 13 rfl (cI (r:=(((((bs.drop (bs.length-4))).getD 2 0).toNat:Nat):Int)) rfl Y5 Bl rfl (kG (by omega) (by have:=UInt8.toNat_lt (n:=(bs.drop (bs.length-4)).getD 2 0);omega))) ?_;refine ta 14 rfl (yO (r:=IntKind.u32.wrap ((((((bs.drop (bs.length-4))).getD 2 0).toNat:Nat):Int)*2^16)) rfl rfl rfl (by omega) rfl) ?_
 refine ta 15 rfl (Ks (r:=iI .u32 (iI .u32 (((((bs.drop (bs.length-4))).getD 0 0).toNat:Nat):Int) (IntKind.u32.wrap ((((((bs.drop (bs.length-4))).getD 1 0).toNat:Nat):Int)*2^8))) (IntKind.u32.wrap ((((((bs.drop (bs.length-4))).getD 2 0).toNat:Nat):Int)*2^16))) rfl rfl rfl rfl) ?_;refine PD 16 ?_;refine ta 17 rfl (bd (r:=off_b+3) hv_b rfl fE jK rfl rfl (by omega) (by omega) (by omega)) ?_;refine ta 18 rfl (ca (v:=(.int .u8 ((((((bs.drop (bs.length-4))).getD 3 0).toNat:Nat):Int)))) rfl Y5 rfl rfl (iG hb_b (λ_ h=>h.1)) (hcs_b 3 (by omega))) ?_;refine ta 19 rfl (cI (r:=(((((bs.drop (bs.length-4))).getD 3 0).toNat:Nat):Int)) rfl Y5 Bl rfl (kG (by omega) (by have:=UInt8.toNat_lt (n:=(bs.drop (bs.length-4)).getD 3 0);omega))) ?_;refine ta 20 rfl (yO (r:=IntKind.u32.wrap ((((((bs.drop (bs.length-4))).getD 3 0).toNat:Nat):Int)*2^24)) rfl rfl rfl (by omega) rfl) ?_;refine ta 21 rfl (Ks (r:=JF ((bs.drop (bs.length-4)).getD 0 0) ((bs.drop (bs.length-4)).getD 1 0) ((bs.drop (bs.length-4)).getD 2 0) ((bs.drop (bs.length-4)).getD 3 0)) rfl rfl rfl rfl) ?_;refine PD 22 ?_;refine DN (ac J6 (ab λ_ J7=>sr λ_ J8=>PS ?_));refine aQ (cells:=#[(jY (.slice a bs.length c) 0 (bs.length-4))]) (aa rfl) rfl rfl rfl vA HS rfl rfl rfl (tc hT.one (by simp)) (λb43=>CF Mm (F3 (.slice (some ⟨b43,0,none⟩) (1) (1)) [(bs.take (bs.length-4))]) ID (CM hT 0 rfl rfl) ?_)
 rw[show [(bs.take (bs.length-4))].flatten=(bs.take (bs.length-4))by simp];refine P2 ?_;refine ao ?_ ?_<;>intro h46;refine nx J8 (CY (sr λ_ J9=>P2 ?_));refine nx J9 (ai (af (WK [] (gU rfl rfl rfl ?_))));exact .inl ⟨by rw[mT,if_neg (by omega),if_neg h46],rfl,rfl⟩;refine nx J8 (CN (qx J7 (sr λ_ J10=>DM (aa rfl) rfl rfl rfl fE jK (λv47=>PS ?_))));refine cj (k:=0) (news:=dH ((bs.take (bs.length-4)))) (nn':=((bs.take (bs.length-4)):List UInt8).length) (xs':=dH ((bs.take (bs.length-4)))) (aa rfl) rfl rfl rfl fE yc rfl rfl rfl rfl rfl rfl (λ_ _=>hT.src (λ_ h=>eb h)) (eV _) (by simp only[maxLen,aw,bh];omega) (by simp only[aw,bh];omega) (by simp) (bK _) (λv49 ov49=>P2 ?_);refine nx J10 (ai (WK [0] (gU rfl rfl rfl ?_)));exact .inr ⟨_,_,by rw[mT,if_neg (by omega),if_pos (by simpa using h46)],rfl,rfl⟩
theorem y5(x:Value)(bs:List UInt8)(hb:bs.length≤1000000000):DT 157 #[x] (IsW x bs) [] (dm (λv H=>(mT bs=none∧v= .tuple #[.slice none 0 0, .bool false]∧H=[])∨∃t u,mT bs=some t∧v= .tuple #[u, .bool true]∧H=[ce u t 5])):=λw G h m=>by
 obtain⟨a,c,rfl,hc,_⟩:=h.form;exact GJ a c bs hc hb w G h m
theorem uQ(n:Nat)(hn:n≤1000000000000):
 DT 171 #[(.int .i64 (((n:Nat):Int)))] T0 [] (RI (.int .i64 ((bE n:Nat):Int)) []):=by
 refine BD 9 Tryz.func171 rfl rfl rfl λw0 F hF=>sr λ_ J1=>PS ?_
 refine nx J1 (ab λ_ J2=>sr λ_ J3=>P2 ?_);refine ao ?_ ?_<;>intro h4;refine nx J3 (CY (sr λ_ J4=>PS ?_));refine nx J4 (ai (af (WK [] (av rfl rfl ?_))));obtain rfl:n=0:=by omega
 exact⟨rfl,rfl⟩;refine nx J3 (CN (qx J2 (sr λ_ J5=>PS ?_)));refine tp (iz rfl rfl rfl (bH (by omega) (by omega))) ?_;refine tp (PV.quo (r:=(((n-1) / 52:Nat):Int)) rfl rfl rfl (by omega) (by rw[show(((n:Nat):Int)-1)=((n-1:Nat):Int)by omega];exact M3 (n-1) 52 (by omega))) ?_;refine AD ?_;refine PS ?_;refine nx J5 (ai (WK [] (av rfl rfl ?_)));rw[bE,if_neg (by omega)];exact⟨by simp,rfl⟩
theorem Er{number:Int}{bs:List UInt8}{k:Nat}:mX number bs (k+1)=mX number bs k++[p8 (jE number k (bE bs.length) (gz bs k))++[1]]:=Ep number bs k
theorem Ar(a:Option Addr)(c number:Nat)(bs:List UInt8)(hc:bs.length≤c)(hb:bs.length≤3000):
 DT 173 #[(.int .i64 (((number:Nat):Int))),(.slice a bs.length c)] (IsW (.slice a bs.length c) bs) [] (dm (λv H=>H=[mq 53 5 v (cu ((number:Nat):Int) bs)])):=by
 refine BD 68 Tryz.func173 rfl rfl rfl λw0 F hF=>sr λ_ J1=>PS ?_
 refine nx J1 (sr λ_ J2=>PS ?_);refine tp (df rfl fE rfl ⟨_,_,rfl⟩) ?_;refine CE Mn (uQ bs.length (by omega)) ID ?_;refine PS ?_;refine nx J2 (sr λ_ J3=>PS ?_);refine nx J3 (ab λ_ J4=>sr λ_ J5=>P2 ?_);refine nx J5 (au ?_)
 refine bn (α:=(Nat)×(Value)) (λ⟨k,vr⟩=>k≤bE bs.length∧vr.oneCell'=true) (λ⟨k,vr⟩=>[(0,(.int .i64 (((number:Nat):Int)))),(1,(.slice a bs.length c)),(4,(.slice none 0 0)),(5,(.int .i64 (((bE bs.length:Nat):Int)))),(6,vr),(14,(.int .i64 (((bE bs.length:Nat):Int)))),(15,(.int .i64 (((k:Nat):Int))))]) (λ⟨k,vr⟩=>[mq 53 5 vr (mX ((number:Nat):Int) bs k)]) (λ⟨k,vr⟩=>bE bs.length-k) (0,(.slice none 0 0))
  ⟨aM _,rfl⟩ SB
  (λ_ s=>uI 53 5 s) (λ⟨k,vr⟩ hinv=>?_)
 obtain⟨hk,hvr⟩:=hinv;refine sr λ_ J6=>PS ?_
 refine ao ?_ ?_<;>intro h16;have hkn:=KX (n:=bs.length) (k:=k) (by omega);have hpe:=KY bs k;have hP:IsW (jY (.slice a bs.length c) (k*52) (min ((k+1)*52) bs.length)) (gz bs k) F:=by rw[←hpe];exact hF.cut (by omega) (by omega)
 have hpl:=tU bs k;have hpk:=w3 hb;have hP2:=hP.len;refine nx J6 (ab λ_ J7=>CY (qx J7 (ab λ_ J8=>au (sr λ_ J9=>P2 ?_))));refine nx J9 (sr λ_ J10=>P2 ?_);refine tp (L8 (r:=((k*52:Nat):Int)) rfl rfl rfl (by rw[show((k:Nat):Int)*52=((k*52:Nat):Int)by omega];exact bH (by omega) (by omega))) ?_;refine PS ?_;refine AD ?_;refine tp (L8 (r:=(((k+1)*52:Nat):Int)) rfl rfl rfl (by rw[show(((k:Nat):Int)+1)*52=(((k+1)*52:Nat):Int)by omega];exact bH (by omega) (by omega))) ?_;refine PS ?_;refine tp (df rfl fE rfl ⟨_,_,rfl⟩) ?_;refine tp (PV.minI rfl rfl rfl) ?_;refine tp (PV.sliceLH (lo:=k*52) (hi:=min ((k+1)*52) bs.length) rfl fE jK rfl rfl rfl rfl (by omega) (by omega) (by omega)) ?_;refine PS ?_;refine nx J10 (sr λ_ J11=>TL.makeB (59) (59) (aa rfl) rfl rfl rfl fE yc rfl rfl rfl rfl (by omega) (by omega) (λb28=>PS ?_));refine nx J11 (ab λ_ J12=>sr λ_ J13=>PS ?_);refine nx J13 (au (si 5 (sr λ_ J14=>PS ?_)));refine nx J14 (ab λ_ J15=>CY (qx J15 (ab λ_ J16=>au (sr λ_ J17=>P2 ?_))));refine nx J17 (ad (P4 ?_));refine tp (iz (r:=3) rfl rfl rfl (by decide)) ?_;refine tp (L8 (r:=24) rfl rfl rfl (by decide)) ?_;refine tp (j5 (r:=((number:Nat):Int).fdiv 16777216) rfl rfl rfl (by omega) rfl) ?_;refine tp (cI (r:=(((r8 (((number:Nat):Int).fdiv 16777216)).toNat:Nat):Int)) rfl Y3 Y5 rfl (r8_wrap _)) ?_
 refine tp (jC (r:=0) rfl fE jK rfl rfl (by first|omega|decide) (by first|omega|decide) rfl) ?_;refine S0 0 jK ?_;refine ap (ag (ac J16 (ad (tp (cr (r:=1) rfl rfl rfl (by decide)) ?_))));refine PS ?_;refine ap (en (sr λ_ J18=>PS ?_));refine nx J18 (ab λ_ J19=>CY (qx J19 (ab λ_ J20=>au (sr λ_ J21=>P2 ?_))));refine nx J21 (ad (P4 ?_));refine tp (iz (r:=2) rfl rfl rfl (by decide)) ?_;refine tp (L8 (r:=16) rfl rfl rfl (by decide)) ?_;refine tp (j5 (r:=((number:Nat):Int).fdiv 65536) rfl rfl rfl (by omega) rfl) ?_;refine tp (cI (r:=(((r8 (((number:Nat):Int).fdiv 65536)).toNat:Nat):Int)) rfl Y3 Y5 rfl (r8_wrap _)) ?_;refine tp (jC (r:=1) rfl fE jK rfl rfl (by first|omega|decide) (by first|omega|decide) rfl) ?_;refine S0 0 jK ?_;refine ap (ag (ac J20 (ad (tp (cr (r:=2) rfl rfl rfl (by decide)) ?_))));refine PS ?_;refine ap (en (sr λ_ J22=>PS ?_));refine nx J22 (ab λ_ J23=>CY (qx J23 (ab λ_ J24=>au (sr λ_ J25=>P2 ?_))));refine nx J25 (ad (P4 ?_));refine tp (iz (r:=1) rfl rfl rfl (by decide)) ?_;refine tp (L8 (r:=8) rfl rfl rfl (by decide)) ?_;refine tp (j5 (r:=((number:Nat):Int).fdiv 256) rfl rfl rfl (by omega) rfl) ?_;refine tp (cI (r:=(((r8 (((number:Nat):Int).fdiv 256)).toNat:Nat):Int)) rfl Y3 Y5 rfl (r8_wrap _)) ?_;refine tp (jC (r:=2) rfl fE jK rfl rfl (by first|omega|decide) (by first|omega|decide) rfl) ?_;refine S0 0 jK ?_
 refine ap (ag (ac J24 (ad (tp (cr (r:=3) rfl rfl rfl (by decide)) ?_))));refine PS ?_;refine ap (en (sr λ_ J26=>PS ?_));refine nx J26 (ab λ_ J27=>CY (qx J27 (ab λ_ J28=>au (sr λ_ J29=>P2 ?_))));refine nx J29 (ad (P4 ?_));refine tp (iz (r:=0) rfl rfl rfl (by decide)) ?_;refine tp (L8 (r:=0) rfl rfl rfl (by decide)) ?_;refine tp (j5 (r:=((number:Nat):Int)) rfl rfl rfl (by omega) (Int.fdiv_one _)) ?_;refine tp (cI (r:=(((r8 (((number:Nat):Int))).toNat:Nat):Int)) rfl Y3 Y5 rfl (r8_wrap _)) ?_;refine tp (jC (r:=3) rfl fE jK rfl rfl (by first|omega|decide) (by first|omega|decide) rfl) ?_;refine S0 0 jK ?_;refine ap (ag (ac J28 (ad (tp (cr (r:=4) rfl rfl rfl (by decide)) ?_))));refine PS ?_;refine ap (en (sr λ_ J30=>PS ?_));refine nx J30 (ab λ_ J31=>CN (aX (aA (aA (bl (ac J12 (sr λ_ J32=>P4 ?_)))))));refine tp (cI (r:=(((r8 (((k:Nat):Int))).toNat:Nat):Int)) rfl Y3 Y5 rfl (r8_wrap _)) ?_;refine PS ?_;refine tp (cI (r:=(((r8 (((bE bs.length:Nat):Int))).toNat:Nat):Int)) rfl Y3 Y5 rfl (r8_wrap _)) ?_;refine PS ?_;refine tp (df rfl fE rfl hP2) ?_;refine tp (cI (r:=(((r8 ((((gz bs k).length:Nat):Int))).toNat:Nat):Int)) rfl Y3 Y5 rfl (r8_wrap _)) ?_;refine tp (jC (r:=4) rfl fE jK rfl rfl (by first|omega|decide) (by first|omega|decide) rfl) ?_;refine S0 0 jK ?_;refine tp (jC (r:=5) rfl fE jK rfl rfl (by first|omega|decide) (by first|omega|decide) rfl) ?_;refine S0 0 jK ?_
 refine tp (jC (r:=6) rfl fE jK rfl rfl (by first|omega|decide) (by first|omega|decide) rfl) ?_;refine S0 0 jK ?_;refine nx J32 (sr λ_ J33=>PS ?_);refine tp (yN (k:=7) (v:=(.slice (some ⟨b28,7,none⟩) (52) (52))) rfl fE jK rfl rfl rfl (by decide) rfl) ?_;refine PS ?_;refine NR (i:=0) (m:=(gz bs k).length) (news:=(dH (gz bs k))) (H':=[ah b28 (dH (jE ((number:Nat):Int) k (bE bs.length) (gz bs k))) 5,mq 53 5 vr (mX ((number:Nat):Int) bs k)]) (aa rfl) rfl rfl rfl fE jK rfl rfl rfl rfl (λ_ _=>hP.src (λ_ h=>eb h)) (eV _) (by show 7+min (gz bs k).length 52≤59;omega) (GH (number:=((number:Nat):Int)) (place:=k) (all:=bE bs.length) hpl) rfl (nx J33 (ad (P2 ?_)));refine CQ Mj (uG (.slice (some ⟨b28,0,none⟩) (59) (59)) (jE ((number:Nat):Int) k (bE bs.length) (gz bs k)) (by rw[ju hpl];decide)) ID (λg d s=>Gv (CK 0 59 (ju hpl) (by decide) rfl rfl g d s)) λvR HR hR=>?_
 subst hR;refine aQ (cells:=#[(.int .u8 1)]) (aa rfl) rfl rfl rfl fE yc rfl rfl rfl (by as_aux_lemma=>kernel_rfl) (λb62=>cj (k:=1) (news:=dH ([1])) (nn':=(p8 (jE ((number:Nat):Int) k (bE bs.length) (gz bs k))++[1]:List UInt8).length) (xs':=dH (p8 (jE ((number:Nat):Int) k (bE bs.length) (gz bs k))++[1])) (aa rfl) rfl rfl rfl fE yc rfl rfl rfl rfl rfl rfl (λ_ _=>gW rfl (RO 0) rfl) (eV [1]) (by rw[kS,ju hpl];simp only[maxLen];omega) (by rw[kS,ju hpl];omega) (by simp) (ii _ _).symm (λv63 ov63=>aQ (cells:=#[v63]) (aa rfl) rfl rfl rfl vA HS rfl rfl rfl (tc ov63 (by simp)) (λb64=>?_)));change TL _ _ _ _ _ _ _ _ _ [ah b64 [v63] 53,ah b62 [(.int .u8 1)] 5,ce v63 (p8 (jE ((number:Nat):Int) k (bE bs.length) (gz bs k))++[1]) 5,ah b28 (dH (jE ((number:Nat):Int) k (bE bs.length) (gz bs k))) 5,mq 53 5 vr (mX ((number:Nat):Int) bs k)];refine cm (λ_ s=>aC [4] rfl s) (MN (λus65=>cj (k:=0) (m:=1) (news:=[v63]) (nn':=(mX ((number:Nat):Int) bs k).length+1) (xs':=us65++[v63]) (aa rfl) rfl rfl rfl vA HS rfl rfl rfl rfl rfl rfl (λ_ _=>gW rfl (RO 2) rfl) (List.forall_mem_cons.2 ⟨ov63,λ_ h=>by cases h⟩) (by rw[y7];simp only[maxLen];omega) (by rw[y7];omega) rfl rfl (λv65 ov65=>?_)))
 change TL _ _ _ _ _ _ _ _ _ [own v65 ((mX ((number:Nat):Int) bs k).length+1) (us65++[v63]) 53 1,eD us65 (mX ((number:Nat):Int) bs k) 5,ah b64 [v63] 53,ah b62 [(.int .u8 1)] 5,ce v63 (p8 (jE ((number:Nat):Int) k (bE bs.length) (gz bs k))++[1]) 5,ah b28 (dH (jE ((number:Nat):Int) k (bE bs.length) (gz bs k))) 5];refine cm (λ_ s=>Ap 4 rfl rfl s) (cm (H':=[own v65 ((mX ((number:Nat):Int) bs k).length+1) (us65++[v63]) 53 1,eD us65 (mX ((number:Nat):Int) bs k) 5,gI v63 (p8 (jE ((number:Nat):Int) k (bE bs.length) (gz bs k))++[1]) 5,ah b64 [v63] 53,ah b62 [(.int .u8 1)] 5,ah b28 (dH (jE ((number:Nat):Int) k (bE bs.length) (gz bs k))) 5]) (λ_ s=>aC [0,0,2] rfl s) (cm (λ_ s=>uK s) ?_));rw[←Er];refine PS ?_;refine ap (ag (ac J8 (ad (AD ?_))));refine PS ?_;refine ap ?_
 exact aI ((k+1,v65):(Nat)×(Value)) ⟨by omega,ov65⟩ (by show bE bs.length- (k+1)<bE bs.length-k;omega)
  SB
  (λ_ s=>ak [0] rfl s)
 refine nx J6 (ab λ_ J34=>CN (aX (aA (aA (bl (ac J4 (sr λ_ J35=>P2 ?_)))))));refine nx J35 (ai (WK [0] (av rfl rfl ?_)));obtain rfl:k=bE bs.length:=by omega
 exact rfl
theorem As(x:Value)(number:Nat)(bs:List UInt8)(hb:bs.length≤3000):DT 173 #[.int .i64 ((number:Nat):Int),x] (IsW x bs) [] (dm (λv H=>H=[mq 53 5 v (cu ((number:Nat):Int) bs)])):=λw G h m=>by
 obtain⟨a,c,rfl,hc,_⟩:=h.form;exact Ar a c number bs hc hb w G h m
theorem w5(s:jP)(number place:Int)(hs:s.length=64):
 DT 139 #[(.agg (dH s).toArray),(.int .i64 (number)),(.int .i64 (place))] T0 [] (dm (λv H=>(fj s number place=none∧v= .tuple #[.slice none 0 0, .int .i64 0, .bool false]∧H=[])∨∃b all u,fj s number place=some (b,all)∧v= .tuple #[u, .int .i64 all, .bool true]∧H=[gI u b 5])):=by
 refine Leg.Does.body (n:=74) Tryz.func139 rfl rfl rfl (λw0 F hF=>sr λ_ J1=>XB λb3=>?_);change TL _ _ _ _ _ _ _ _ _ [ah b3 (dH s) 173]
 iterate 3 refine PS ?_
 refine nx J1 (sr λ_ J2=>tp (QD (k:=63) rfl pB jK rfl rfl (by omega) (by omega) rfl) ?_);refine CQ Mr (y5 (.slice (some ⟨b3,0,none⟩) (63) (64)) (s.take 63) (by rw[bh];omega)) (λ_ s=>s) (λg d s'=>Gv (HN 0 63 (by omega) (by omega) (by decide) (by rw[az (by rw[aY];omega)]) hs.symm rfl rfl g d s')) λvR HR hR=>?_
 rcases hR with⟨ht,rfl,rfl⟩| ⟨t,u,ht,rfl,rfl⟩
 refine PS ?_;refine tp (gX (vs:=[(.slice none 0 0),(.bool false)]) rfl rfl rfl) ?_;refine tp (gX (vs:=[(.slice none 0 0),(.bool false)]) rfl rfl rfl) ?_;refine PS ?_;refine PS ?_;refine nx J2 (ab λ_ J3=>sr λ_ J4=>PS ?_);refine tp (mG (r:=true) rfl rfl rfl) ?_;refine PS ?_
 iterate 3 refine UT ?_
 refine PS ?_;refine nx J4 (CY (sr λ_ J5=>?_))
 iterate 3 refine PS ?_
 exact nx J5 (ai (af (WK [] (nj rfl rfl rfl rfl (.inl ⟨AK ht,rfl,rfl⟩)))));have htl:=y6 ht;rw[bh]at htl;have ht59:t.length=59:=by omega
 refine hY 0 rfl rfl (by omega) (λg cap hv hcap=>PS ?_);refine tp (gX (vs:=[u,(.bool true)]) rfl rfl rfl) ?_;refine tp (gX (vs:=[u,(.bool true)]) rfl rfl rfl) ?_;refine PS ?_;refine PS ?_;refine nx J2 (ab λ_ J6=>sr λ_ J7=>PS ?_);refine tp (mG (r:=false) rfl rfl rfl) ?_;refine PS ?_;refine tq (eu (r:=63) rfl pB jK rfl rfl (lz rfl) (lz rfl) rfl) ?_;refine tq (e4 (v:=(.int .u8 ((((s.getD 63 0).toNat:Nat):Int)))) rfl Y5 rfl rfl (RO 1) (rq (by omega))) ?_;refine PS ?_;refine ao (λh26=>?_) (λh26=>?_);refine PS ?_;refine nx J7 (CY (sr λ_ J8=>?_))
 iterate 3 refine PS ?_
 refine nx J8 (ai (af (WK [] (nj rfl rfl rfl rfl ?_))));exact .inl ⟨rJ (λh=>h26 (by rw[h];rfl)),rfl,rfl⟩;refine PS ?_;refine nx J7 (CN (qx J6 (sr λ_ J9=>PS ?_)));refine nx J9 (ab λ_ J10=>sr λ_ J11=>PS ?_);refine tp (Gu (PV.sliceH (a:=some ⟨g,0,none⟩) (len:=t.length) (cap:=cap) (hi:=4) rfl fE jK (by rw[←hv];rfl) rfl rfl (by omega)) (LK (by omega))) ?_;refine tp (qA rfl fE rfl) ?_;refine PS ?_;refine nx J11 (au ?_)
 refine bn (α:=(Nat)) (λk=>k≤4) (λk=>[(1,(.int .i64 (number))),(2,(.int .i64 (place))),(6,(.slice none 0 0)),(7,(.int .i64 0)),(8,(.bool false)),(9,u),(11,(.int .i64 (If (t.take k)))),(29,(.slice (some ⟨g,0,none⟩) (4) (cap))),(30,(.int .i64 4)),(31,(.int .i64 (((k:Nat):Int))))]) (λk=>[ce u (t) 5,ah b3 (dH s) 173]) (λk=>4-k) 0
  (aM _) SB
  (λ_ s=>s) (λk hinv=>?_)
 obtain hk:=hinv;refine sr λ_ J12=>PS ?_
 refine ao (λh32=>?_) (λh32=>?_);refine nx J12 (ab λ_ J13=>CY (qx J13 (ab λ_ J14=>au (sr λ_ J15=>tp (jC (r:=k) rfl fE jK rfl rfl (by first|omega|decide) (by first|omega|decide) (by omega)) ?_))));refine tp (ca (v:=(.int .u8 ((((t.getD k 0).toNat:Nat):Int)))) rfl Y5 rfl rfl (fD 0 rfl hv rfl) (rq (by omega))) ?_;refine PS ?_;refine nx J15 (ad (PS ?_));refine tp (yO (r:=IntKind.i64.wrap ((If (t.take k))*2^8)) rfl rfl rfl (by omega) rfl) ?_;refine PS ?_;refine tp (cI (r:=(((t.getD k 0).toNat:Nat):Int)) rfl Y5 Y3 rfl (bH (by omega) (by have:=UInt8.toNat_lt (n:=t.getD k 0);omega))) ?_;refine tp (Ks (r:=iI .i64 (IntKind.i64.wrap ((If (t.take k))*2^8)) (((t.getD k 0).toNat:Nat):Int)) rfl rfl rfl rfl) ?_;refine PS ?_;refine ap (ag (ac J14 (ad (AD ?_))));refine PS ?_;refine ap ?_
 exact aI ((k+1):(Nat)) (by omega) (by show 4- (k+1)<4-k;omega)
  (aK (aK (aK (aK (aK (aK (bA rfl (congrArg (Value.int .i64) (Kj (by omega)).symm) SB)))))))
  (λ_ s=>s)
 refine nx J12 (ab λ_ J16=>CN (aX (aA (aA (bl (ac J10 (ab λ_ J17=>oz (λw=>Frm F w∧Hx g (dH (t)) w∧True) dp rfl (λ_ s=>⟨eb s,fD 0 rfl hv rfl _ s,trivial⟩) (PD 0 ?_))))))));refine ta 1 rfl (bd (r:=5) hv rfl fE jK rfl rfl (by omega) (by omega) rfl) ?_;refine ta 2 rfl (ca (v:=(.int .u8 ((((t.getD 5 0).toNat:Nat):Int)))) rfl Y5 rfl rfl (λ_ h=>h.2.1) (rq (by omega))) ?_;refine ta 3 rfl (cI (r:=(((t.getD 5 0).toNat:Nat):Int)) rfl Y5 Y3 rfl (bH (by omega) (by have:=UInt8.toNat_lt (n:=t.getD 5 0);omega))) ?_;refine PD 4 ?_;refine ta 5 rfl (bd (r:=6) hv rfl fE jK rfl rfl (by omega) (by omega) rfl) ?_;refine ta 6 rfl (ca (v:=(.int .u8 ((((t.getD 6 0).toNat:Nat):Int)))) rfl Y5 rfl rfl (λ_ h=>h.2.1) (rq (by omega))) ?_;refine ta 7 rfl (cI (r:=(((t.getD 6 0).toNat:Nat):Int)) rfl Y5 Y3 rfl (bH (by omega) (by have:=UInt8.toNat_lt (n:=t.getD 6 0);omega))) ?_;refine PD 8 ?_;refine PD 9 ?_;refine DN (ac J17 (ab λ_ J18=>sr λ_ J19=>?_))
 iterate 3 refine PS ?_
 refine ao (λh51=>?_) (λh51=>?_);refine PS ?_
 iterate 6 refine UT ?_
 refine PS ?_;refine PS ?_
 iterate 3 refine UT ?_
 refine PS ?_;refine PS ?_;refine UT ?_;refine UT ?_;refine PS ?_;refine nx J19 (CY (sr λ_ J20=>?_))
 iterate 3 refine PS ?_
 refine nx J20 (ai (af (WK [] (nj rfl rfl rfl rfl ?_))));exact .inl ⟨mz ht (.inl (by have:k=4:=(by omega);subst this;exact h51)),rfl,rfl⟩;refine PS ?_;refine PS ?_;refine tq (bd (r:=4) hv rfl fE jK rfl rfl (by omega) (by omega) rfl) ?_;refine tq (ca (v:=(.int .u8 ((((t.getD 4 0).toNat:Nat):Int)))) rfl Y5 rfl rfl (fD 0 rfl hv rfl) (rq (by omega))) ?_;refine tq (cI (r:=(((t.getD 4 0).toNat:Nat):Int)) rfl Y5 Y3 rfl (bH (by omega) (by have:=UInt8.toNat_lt (n:=t.getD 4 0);omega))) ?_;refine PS ?_;refine PS ?_;refine ao (λh58=>?_) (λh58=>?_);refine PS ?_;refine PS ?_
 iterate 3 refine UT ?_
 refine PS ?_;refine PS ?_;refine UT ?_;refine UT ?_;refine PS ?_;refine nx J19 (CY (sr λ_ J21=>?_))
 iterate 3 refine PS ?_
 exact nx J21 (ai (af (WK [] (nj rfl rfl rfl rfl (.inl ⟨mz ht (.inr (.inl h58)),rfl,rfl⟩)))))
 iterate 5 refine PS ?_
 refine ao (λh63=>?_) (λh63=>?_);refine PS ?_;refine PS ?_;refine UT ?_;refine UT ?_;refine PS ?_;refine nx J19 (CY (sr λ_ J22=>?_))
 iterate 3 refine PS ?_
 exact nx J22 (ai (af (WK [] (nj rfl rfl rfl rfl (.inl ⟨mz ht (.inr (.inr (.inl h63))),rfl,rfl⟩)))))
 iterate 4 refine PS ?_
 refine ao (λh67=>?_) (λh67=>?_);refine PS ?_;refine nx J19 (CY (sr λ_ J23=>?_))
 iterate 3 refine PS ?_
 exact nx J23 (ai (af (WK [] (nj rfl rfl rfl rfl (.inl ⟨mz ht (.inr (.inr (.inr h67))),rfl,rfl⟩)))));refine PS ?_;refine nx J19 (CN (qx J18 (sr λ_ J24=>PS ?_)));refine PS ?_;refine tp (cr (r:=((7+(t.getD 6 0).toNat:Nat):Int)) rfl rfl rfl (by rw[show(7:Int)+(((t.getD 6 0).toNat:Nat):Int)=((7+(t.getD 6 0).toNat:Nat):Int)by omega];have:=UInt8.toNat_lt (n:=t.getD 6 0);exact bH (by omega) (by omega))) ?_;refine tp (Gu (PV.sliceLH (a:=some ⟨g,0,none⟩) (len:=t.length) (cap:=cap) (lo:=7) (hi:=7+(t.getD 6 0).toNat) rfl fE jK (by rw[←hv];rfl) rfl rfl rfl rfl (by omega) (by omega)) (congrArg (λq=>jY q 7 (7+(t.getD 6 0).toNat)) hv.symm)) ?_
 iterate 4 refine PS ?_
 refine nx J24 (ai (aE (H':=[gI (jY u 7 (7+(t.getD 6 0).toNat)) ((t.drop 7).take (t.getD 6 0).toNat) 5]) (db _) (λ_ s'=>ak [0] rfl (wB 0 rfl rfl hv (by omega) (by omega) (by omega) (by rw[j8,co]) s')) (nj rfl rfl rfl rfl ?_)));obtain rfl:k=4:=by omega
 have h1:s.getD 63 0=1:=UInt8.toNat_inj.1 (by have h1':(1:UInt8).toNat=1:=rfl;omega);exact .inr ⟨_,_,_,Cm ht h1 (by omega),rfl,rfl⟩
theorem MD:NM 102:=nk Tryz.func102
theorem Ni:NM 64:=nk Tryz.func64
theorem Qe:NM 40:=nk Tryz.func40
theorem Ob:NM 63:=nk Tryz.func63
theorem vq(t c:Nat)(v:Value):
 DT 102 #[(.pointer (some ⟨t,1,none⟩))] T0 [ah t [(.pointer (some ⟨c,0,none⟩)),(.pointer none),v] 102] (dm (λ_ H=>H=[ah t [(.pointer (some ⟨c,0,none⟩)),(.pointer (some ⟨t,1,none⟩)),v] 102])):=by
 refine BD 20 Tryz.func102 rfl rfl rfl λw0 F hF=>sr λ_ J1=>P2 ?_
 refine FA 1 yG IL ?_;refine LA 0 ML ?_;refine tp (sc rfl ML rfl rfl) ?_;refine nx J1 (CY (ad (P2 ?_)));refine tp (PV.toUnsafe rfl ML Tryz.underlying215 wt rfl (RO 0) (lb rfl)) ?_;refine tp (PV.noEscape rfl Tryz.func138 rfl rfl rfl rfl rfl) ?_;refine tp (PV.ofUnsafe rfl Tryz.underlying215 ML wt rfl (RO 0) (by kernel_rfl)) ?_;refine PS ?_;refine FA 1 yG IL ?_;refine S0 0 IL ?_;exact ap (WK [0] (bu rfl rfl))
theorem vp(t c:Nat)(v:Value):
 DT 102 #[(.pointer (some ⟨t,1,none⟩))] T0 [ah t [(.pointer (some ⟨c,0,none⟩)),(.pointer (some ⟨t,1,none⟩)),v] 102] (dm (λ_ H=>H=[ah t [(.pointer (some ⟨c,0,none⟩)),(.pointer (some ⟨t,1,none⟩)),v] 102])):=by
 refine BD 20 Tryz.func102 rfl rfl rfl λw0 F hF=>sr λ_ J1=>P2 ?_
 refine FA 1 yG IL ?_;refine LA 0 ML ?_;refine tp (iW rfl ML rfl rfl) ?_;refine nx J1 (CN (sr λ_ J2=>P2 ?_));refine FA 1 yG IL ?_;refine LA 0 ML ?_;refine PS ?_;refine tp (PV.ptrNeqSame rfl ML wt rfl rfl) ?_;exact nx J2 (CN (aT (WK [0] (bu rfl rfl))))
theorem Bu(t c:Nat)(v:Value)(bs ys:List UInt8)(hv:v.oneCell'=true)(hb:bs.length+ys.length≤1000000):
 DT 64 #[(.pointer (some ⟨t,1,none⟩)),(lH (ys))] T0 [ah t [(.pointer (some ⟨c,0,none⟩)),(.pointer none),v] 102,ce v (bs) 5] (dm (λ_ H=>∃v',v'.oneCell'=true∧H=[ah t [(.pointer (some ⟨c,0,none⟩)),(.pointer (some ⟨t,1,none⟩)),v'] 102,ce v' (bs++ys) 5])):=by
 refine BD 19 Tryz.func64 rfl rfl rfl λw0 F hF=>sr λ_ J1=>P2 ?_
 refine nx J1 (sr λ_ J2=>PS ?_);refine CZ MD (vq t c v) ID λvR=>?_
 refine nx J2 (sr λ_ J3=>P3 ?_);refine FA 2 yG kL ?_;refine LA 0 fE ?_;refine PS ?_;refine TL.appendT (k:=1) (bs:=bs) (ys:=ys) (aa rfl) rfl rfl rfl fE Y9 yc rfl rfl rfl rfl (by simp only[maxLen];omega) (by omega) (λv14 ov14=>PS ?_);refine FA 2 yG kL ?_;refine bz (i:=0) (aa rfl) rfl rfl rfl rfl ov14 kL rfl rfl (lb rfl) rfl rfl (nx J3 (sr λ_ J4=>PS ?_));refine tp (QL rfl Y9 rfl) ?_;refine P2 ?_;exact nx J4 (ai (WK [0,0] (gU rfl rfl rfl ⟨_,ov14,rfl⟩)))
theorem Bt(t c:Nat)(v:Value)(bs ys:List UInt8)(hv:v.oneCell'=true)(hb:bs.length+ys.length≤1000000):
 DT 64 #[(.pointer (some ⟨t,1,none⟩)),(lH (ys))] T0 [ah t [(.pointer (some ⟨c,0,none⟩)),(.pointer (some ⟨t,1,none⟩)),v] 102,ce v (bs) 5] (dm (λ_ H=>∃v',v'.oneCell'=true∧H=[ah t [(.pointer (some ⟨c,0,none⟩)),(.pointer (some ⟨t,1,none⟩)),v'] 102,ce v' (bs++ys) 5])):=by
 refine BD 19 Tryz.func64 rfl rfl rfl λw0 F hF=>sr λ_ J1=>P2 ?_
 refine nx J1 (sr λ_ J2=>PS ?_);refine CZ MD (vp t c v) ID λvR=>?_
 refine nx J2 (sr λ_ J3=>P3 ?_);refine FA 2 yG kL ?_;refine LA 0 fE ?_;refine PS ?_;refine TL.appendT (k:=1) (bs:=bs) (ys:=ys) (aa rfl) rfl rfl rfl fE Y9 yc rfl rfl rfl rfl (by simp only[maxLen];omega) (by omega) (λv14 ov14=>PS ?_);refine FA 2 yG kL ?_;refine bz (i:=0) (aa rfl) rfl rfl rfl rfl ov14 kL rfl rfl (lb rfl) rfl rfl (nx J3 (sr λ_ J4=>PS ?_));refine tp (QL rfl Y9 rfl) ?_;refine P2 ?_;exact nx J4 (ai (WK [0,0] (gU rfl rfl rfl ⟨_,ov14,rfl⟩)))
theorem Am(t c g cap:Nat)(bs:List UInt8)(hpos:0<bs.length)(hb:bs.length≤1000000)(hcap:0<cap):
 DT 40 #[(.pointer (some ⟨t,1,none⟩))] T0 [ah t [(.pointer (some ⟨c,0,none⟩)),(.pointer (some ⟨t,1,none⟩)),(.slice (some ⟨g,0,none⟩) (bs.length) (cap))] 102,ce (.slice (some ⟨g,0,none⟩) (bs.length) (cap)) (bs) 5] (RI (lH bs) [ah t [(.pointer (some ⟨c,0,none⟩)),(.pointer (some ⟨t,1,none⟩)),(.slice (some ⟨g,0,none⟩) (bs.length) (cap))] 102]):=by
 refine BD 14 Tryz.func40 rfl rfl rfl λw0 F hF=>sr λ_ J1=>PS ?_
 refine nx J1 (ab λ_ J2=>D1 0 dp ?_);refine PD 0 ?_;refine PD 1 ?_;refine FD 2 2 yG kL ?_;refine LX 3 fE (.slice (some ⟨g,0,none⟩) (bs.length) (cap)) ?_ (hc:=by exact rfl);refine ta 4 rfl (PV.sliceData rfl rfl hcap) ?_;refine PD 5 ?_;refine PD 6 ?_;refine FD 7 2 yG kL ?_;refine LX 8 fE (.slice (some ⟨g,0,none⟩) (bs.length) (cap)) ?_ (hc:=by exact rfl);refine ta 9 rfl (qA rfl fE rfl) ?_;refine AL 10 ?_;refine TL.unsafeStr (k:=1) (bs:=bs) (aa rfl) rfl rfl rfl Tryz.underlying130 (by kernel_rfl) rfl rfl rfl rfl hpos (by omega) (EN (PD 11 ?_));exact DN (ac J2 (ai (WK [0] (av rfl rfl ⟨rfl,rfl⟩))))
theorem BO(t c:Nat)(v:Value)(bs:List UInt8)(hpos:0<bs.length)(hb:bs.length≤1000000):DT 40 #[.pointer (some ⟨t,1,none⟩)] T0 [ah t [(.pointer (some ⟨c,0,none⟩)),(.pointer (some ⟨t,1,none⟩)),v] 102,ce v bs 5] (RI (lH bs) [ah t [(.pointer (some ⟨c,0,none⟩)),(.pointer (some ⟨t,1,none⟩)),v] 102]):=
 Leg.Does.ex (A':=λx: {x:Nat×Nat // 0<x.2∧v= .slice (some ⟨x.1,0,none⟩) bs.length x.2}=>[ah t [(.pointer (some ⟨c,0,none⟩)),(.pointer (some ⟨t,1,none⟩)),v] 102,ce v bs 5]) (λh s=>by
  obtain⟨h1,h2,_,_,a,_⟩:=eE 1 (lb rfl) s;obtain⟨_,⟨_,h0,_⟩| ⟨g,cap,cur,hv,_,hle,_⟩⟩:=a
  · omega
  · exact⟨⟨(g,cap),by show 0<cap;omega,hv⟩,s⟩) λ⟨x,hx,hv⟩=>by
  subst hv;exact Am t c x.1 x.2 bs hpos hb hx
def Qs(n:Nat):List UInt8:=[UInt8.ofNat (48+n)]
end Go.Proofs.YtfocodjhmkokpaaGreatDoor
end

section
namespace Leg
open Go Codec Api
theorem JO(vs:List Value): ∀(o j:Nat) (pre zeros post:List Value),pre.length=o+j→zeros.length=vs.length→
 ((vs.zipIdx j).foldl (λ(cs:Array Value) (c,i)=>cs.setIfInBounds (o+i) c) (pre++(zeros++post)).toArray)=(pre++(vs++post)).toArray:=by
 induction vs with
 |nil=>intro o j pre zeros post _ h;rw[List.eq_nil_of_length_eq_zero h];rfl
 |cons v vs ih=>
  intro o j pre zeros post hp hz
  match zeros,hz with
  |z::zeros,hz=>
   rw[List.zipIdx_cons,List.foldl_cons]
   have e:(pre++(z::zeros++post)).toArray.setIfInBounds (o+j) v=((pre++[v])++(zeros++post)).toArray:=by
    rw[List.setIfInBounds_toArray,gp _ _ (by omega),hp,yR,iu,cb,aS];rfl
   simp only[e];rw[ih o (j+1) (pre++[v]) zeros post (by simp;omega) (by simpa using hz),aS];rfl
def vl:List (List Value)→Nat→List (Nat×Nat)
 | [],_=>[]
 |s::ss,o=>(o,s.length)::vl ss (o+s.length)
def kR(segs:List (List Value)):List (Nat×List Value)→Option (List (List Value))
 | []=>some segs
 | (i,v)::ps=>match segs[i]?with
  |some s=>if v.length=s.length then kR (segs.set i v) ps else none
  |none=>none
theorem Co: ∀(segs:List (List Value)) (o i:Nat) (s v:List Value),segs[i]?=some s→v.length=s.length→vl (segs.set i v) o=vl segs o
 | [],_,_,_,_,h,_=>by simp at h
 |s::ss,o,0,t,v,h,hl=>by
  simp only[List.getElem?_cons_zero,Option.some.injEq]at h;subst h;simp[vl,hl]
 |s::ss,o,i+1,t,v,h,hl=>by
  simp only[List.getElem?_cons_succ]at h;simp[vl,Co ss _ i t v h hl]
theorem wG: ∀(segs:List (List Value)) (o i:Nat) (s:List Value),segs[i]?=some s→∃A B,segs.flatten=A++(s++B)∧(vl segs o)[i]?=some (o+A.length,s.length)∧∀v,(segs.set i v).flatten=A++(v++B)
 | [],_,_,_,h=>by simp at h
 |s::ss,o,0,t,h=>by
  simp only[List.getElem?_cons_zero,Option.some.injEq]at h;subst h;exact⟨[],ss.flatten,by simp,by simp[vl],λv=>by simp⟩
 |s::ss,o,i+1,t,h=>by
  simp only[List.getElem?_cons_succ]at h;obtain⟨A,B,h1,h2,h3⟩:=wG ss (o+s.length) i t h;refine⟨s++A,B,by simp[h1],?_,λv=>by simp[h3 v]⟩;simp only[vl,List.getElem?_cons_succ,h2,ae,vE]
theorem zx: ∀(parts:List (Nat×List Value)) (vals:List (Nat×Value)) (segs res:List (List Value)) (place:Nat→Option (Nat×Nat)),(∀i,i<segs.length→place i=(vl segs 0)[i]?)→vals.map (λp=>(p.1,p.2.cells))=parts.map (λp=>(p.1,p.2.toArray))→kR segs parts=some res→
 Instr.fill place segs.flatten.toArray vals=some res.flatten.toArray
 | [],[],segs,res,place,_,_,h=>by
  simp only[kR,Option.some.injEq]at h;subst h;rfl
 | [],_::_,_,_,_,_,h,_=>by simp at h
 |_::_,[],_,_,_,_,h,_=>by simp at h
 | (i,v)::ps,(i',u)::us,segs,res,place,hp,hv,h=>by
  simp only[eM,List.cons.injEq,Prod.mk.injEq]at hv;obtain⟨⟨rfl,hu⟩,hv⟩:=hv;simp only[kR]at h;split at h
  · rename_i s hs
    split at h
    · rename_i hl
      have hi:i'<segs.length:=(List.getElem?_eq_some_iff.1 hs).1;obtain⟨A,B,h1,h2,h3⟩:=wG segs 0 i' s hs;simp only[bf]at h2;have e:=JO v A.length 0 A s B (by simp) (by omega);have ih:=zx ps us (segs.set i' v) res place (λj hj=>by rw[Co segs 0 i' s v hs hl];exact hp j (by simpa using hj)) hv h;rw[h3]at ih;simp only[Instr.fill,hp i' hi,h2,hu,List.size_toArray,h1];rw[if_neg (by simp[hl])];rw[←ih,←e];congr 1;rw[←Array.foldl_toList,Array.toList_zipIdx]
    · cases h
  · cases h
theorem Fz{P:Program}{t:TypeId}{fs:Array Field}{segs res:List (List Value)}{parts:List (Nat×List Value)}{vals:List (Nat×Value)}(ht:P.underlying t=some (.struct fs))(hz:(P.info? t).map (·.zero)=some (some (.agg segs.flatten.toArray)))
 (hp:fs.toList.mapM (λf=>(P.info? f.type).map λi=>(f.offset,i.size))=some (vl segs 0)) (hv:vals.map (λp=>(p.1,p.2.cells))=parts.map (λp=>(p.1,p.2.toArray))) (h:kR segs parts=some res):P.built t vals=some res.flatten.toArray:=by
 obtain⟨i,hi,hz'⟩:=Option.map_eq_some_iff.1 hz;unfold Program.built;simp only[hi,ht,hz',hp];exact zx parts vals segs res _ (λj _=>by simp) hv h
section
variable {P:Program} {n:Nat} {D:List Deferred} {L:List (Nat×Value)} {S:World→Prop} {o:Oper}
theorem PV.buildSegs{t:TypeId}{ps:Array (Nat×Operand)}{fs:Array Field}{segs res:List (List Value)}{parts:List (Nat×List Value)}{vals:List (Nat×Value)}{cs:List Value}(ho:o.op= .build t ps)(hx:KA L ps.toList=some vals)(ht:P.underlying t=some (.struct fs))
 (hz:(P.info? t).map (·.zero)=some (some (.agg segs.flatten.toArray))) (hp:fs.toList.mapM (λf=>(P.info? f.type).map λi=>(f.offset,i.size))=some (vl segs 0)) (hv:vals.map (λp=>(p.1,p.2.cells))=parts.map (λp=>(p.1,p.2.toArray))) (h:kR segs parts=some res) (hc:res.flatten=cs):PV P n D L S o (.agg cs.toArray):=by
 subst hc;exact j6 ho hx (Fz ht hz hp hv h)
abbrev yQ:= @PV.buildSegs
end
inductive SL:List (List Value)→List Nat→Prop
 |nil:SL [] []
 |cons {s:List Value} {n:Nat} {L:List (List Value)} {ns:List Nat} (h:s.length=n) (r:SL L ns):SL (s::L) (n::ns)
theorem SL.split{L:List (List Value)}{ns:List Nat}(h:SL L ns)(i:Nat){n:Nat}(hn:ns[i]?=some n): ∃s A B,L[i]?=some s∧s.length=n∧L.flatten=A++(s++B)∧A.length=(ns.take i).sum∧∀v,(L.set i v).flatten=A++(v++B):=by
 induction h generalizing i with
 |nil=>simp at hn
 | @cons s m L ns hs r ih=>
  cases i with
  |zero=>
   simp only[List.getElem?_cons_zero,Option.some.injEq]at hn;exact⟨s,[],L.flatten,rfl,by omega,by simp,rfl,λv=>by simp⟩
  |succ i=>
   obtain⟨t,A,B,h1,h2,h3,h4,h5⟩:=ih i (by simpa using hn);exact⟨t,s++A,B,by simpa using h1,h2,by simp[h3],by simp[h4,hs],λv=>by simp[h5 v]⟩
theorem SL.len{L:List (List Value)}{ns:List Nat}(h:SL L ns):L.flatten.length=ns.sum:=by
 induction h with
 |nil=>rfl
 |cons hs r ih=>simp[ih,hs]
theorem SL.sub{L:List (List Value)}{ns:List Nat}(h:SL L ns)(i:Nat){s:List Value}{n off:Nat}(j m:Nat)(hn:ns[i]?=some n)(hs:L[i]?=some s)(ho:(ns.take i).sum=off)(hj:j+m≤n):(L.flatten.drop (off+j)).take m=(s.drop j).take m:=by
 obtain⟨t,A,B,h1,h2,h3,h4,_⟩:=h.split i hn;obtain rfl:t=s:=by rw[h1]at hs;exact cY hs
 rw[h3,←ho,←h4,←j9,DQ,kC (by omega),cv (by simp;omega)]
theorem SL.at{L:List (List Value)}{ns:List Nat}(h:SL L ns)(i:Nat){s:List Value}{n off:Nat}(j:Nat)(hn:ns[i]?=some n)(hs:L[i]?=some s)(ho:(ns.take i).sum=off)(hj:j<n):L.flatten[off+j]?=s[j]?:=by
 obtain⟨t,A,B,h1,h2,h3,h4,_⟩:=h.split i hn;obtain rfl:t=s:=by rw[h1]at hs;exact cY hs
 rw[h3,←ho,←h4,List.getElem?_append_right (by omega),co,List.getElem?_append_left (by omega)]
theorem SL.putIn{L:List (List Value)}{ns:List Nat}(h:SL L ns)(i:Nat){s s':List Value}{n off:Nat}(j:Nat)(vs:List Value)(hn:ns[i]?=some n)(hs:L[i]?=some s)(ho:(ns.take i).sum=off)(hj:j+vs.length≤n)(hw:wr s j vs=s'):wr L.flatten (off+j) vs=(L.set i s').flatten:=by
 obtain⟨t,A,B,h1,h2,h3,h4,h5⟩:=h.split i hn;obtain rfl:t=s:=by rw[h1]at hs;exact cY hs
 rw[h5,h3,←ho,←h4,ez (by omega),co,gY (by omega),hw]
theorem SL.set{L:List (List Value)}{ns:List Nat}(h:SL L ns)(i:Nat){s:List Value}{n off:Nat}(j:Nat)(v:Value)(hn:ns[i]?=some n)(hs:L[i]?=some s)(ho:(ns.take i).sum=off)(hj:j<n):L.flatten.set (off+j) v=(L.set i (s.set j v)).flatten:=by
 obtain⟨t,A,B,h1,h2,h3,h4,h5⟩:=h.split i hn;obtain rfl:t=s:=by rw[h1]at hs;exact cY hs
 rw[h5,h3,←ho,←h4,gp _ _ (by omega),co,qC _ _ (by omega)]
theorem SL.around{L:List (List Value)}{ns:List Nat}(h:SL L ns)(i:Nat){s:List Value}{n off:Nat}(hn:ns[i]?=some n)(hs:L[i]?=some s)(ho:(ns.take i).sum=off): ∃A B,L.flatten=A++(s++B)∧A.length=off∧∀v,(L.set i v).flatten=A++(v++B):=by
 obtain⟨t,A,B,h1,h2,h3,h4,h5⟩:=h.split i hn;obtain rfl:t=s:=by rw[h1]at hs;exact cY hs
 exact⟨A,B,h3,by omega,h5⟩
section
variable {P:Program} {w0:World} {F:Hl} {n:Nat} {ops:Array Oper} {Q:QQ} {D:List Deferred} {L:List (Nat×Value)} {H:List HP} {S:World→Prop}
theorem TD.takeNotU{i d fuel j e:Nat}{b:Bool}{listed:Array Bool}{o:Oper}(hi:ops[i]?=some o)(hs:Region.noSelect ops=true)(hf:Region.free .any ops listed i=true)(hr:(Region.ready .any ops listed).contains i=true)
 (hQ: ∀c a v w,Q (.panic c) (a.put o.dst v) w→Q (.panic c) a w) (hg:o.guard=some (j,b)) (hj:(ops[j]?).bind (·.dst)=some e) (he:lk L e=some undef) (hd:o.dst=some d) (hn:Nat.blt d n=true)
 (h:TD P w0 F n ops Q S fuel (listed.setIfInBounds i true) D ((d,undef)::L) H):TD P w0 F n ops Q S (fuel+1) listed D L H:=λa w f s t hS=>by
 refine wpAnyH_take (v:=undef) hi hs hf hr (λc a w=>hQ c a undef w) (.inr ⟨?_,rfl⟩) hS ?_
 · simp[Region.wanted,hg,yielded,hj,f.2.2 e _ he,undef]
 rw[hd];exact h _ w (f.put (lb hn) _) s t hS
abbrev vg:= @TD.takeNotU
end
end Leg
end

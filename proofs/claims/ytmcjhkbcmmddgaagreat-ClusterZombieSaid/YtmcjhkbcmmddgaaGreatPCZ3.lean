/-
  Joined texts:what a statement's proof reaches.
-/
import Derived.Laws.MakeOwn
import Derived.OwnWalk
import Derived.WalkSpells
import Derived.Test.YtmcjhkbcmmddgaaGreatPCZ2
set_option maxHeartbeats 8000000
set_option maxRecDepth 100000
set_option linter.unusedSimpArgs false
set_option linter.unusedVariables false
section
namespace Leg
open Go Codec Api
theorem yC(v:Value)(n:Nat):madeCells #[v] n=(List.replicate n v).toArray:=by
 unfold madeCells;apply Array.ext
 · simp
 · intro i h1 h2
   simp at h1;simp[Nat.mod_one]
theorem Lc(n:Nat):ek (List.replicate n 0)=List.replicate n (.int .u8 0):=by simp[ek]
section
variable {P:Program} {w0:World} {F:Hl} {n:Nat} {ops:Array Oper} {Q:QQ} {D:List Deferred} {L:List (Nat×Value)} {H:List HP} {o:Oper} {l:List Oper} {d:Nat} {S:World→Prop}
theorem TL.mono{H':List HP}(m: ∀h,bz H h→bz H' h)(h:TL P w0 F n ops Q l D L H'):TL P w0 F n ops Q l D L H:=TL.weak (dV _) m h
abbrev cr:= @TL.mono
theorem TL.makeB{t e:TypeId}{x y:Operand}{k k':IntKind}{a b:Int}(m c:Nat)(hw:Want n D ops o L)(ho:o.op= .makeSlice t x y)(hd:o.dst=some d)(hn:Nat.blt d n=true)(ht:P.underlying t=some (.slice e))
 (hi:(P.info? e).map (λi=>(i.zero,i.size,i.bytes))=some (some (.int .u8 0),1,1)) (hx:cK L x=some (.int k a)) (hy:cK L y=some (.int k' b)) (ha:a=(m:Int)) (hb:b=(c:Int)) (h1:m≤c) (h2:c≤281474976710656)
 (h: ∀b,TL P w0 F n ops Q l D ((d, .slice (some ⟨b,0,none⟩) m c)::L) (ah b (ek (List.replicate c 0)) e::H)):TL P w0 F n ops Q (o::l) D L H:=
 mJ hw λa w f sm q=>by
  subst ha;subst hb;obtain⟨i,hie,hz0,hs,hb⟩:=info_parts hi;have hr:=run_make (P:=P) w t e i (.int .u8 0) ht hie hz0 k k' (m:Int) (c:Int) (by omega) (by omega) (by rw[hb];omega) (by omega)
  have e1:madeCells (Value.cells (.int .u8 0)) ((c:Int).toNat*i.size)=(ek (List.replicate c 0)).toArray:=by
   rw[hs,gn,KR,Lc];exact yC _ _
  rw[e1]at hr;simp only[KR]at hr
  have r:(execOp a.eval o).run P w= .ok (.value (.slice (some ⟨w.heap.size,0,none⟩) m c)) (w.alloc (.cells (ek (List.replicate c 0)).toArray e)):=by
   simp only[execOp,ho,f.eval hx,f.eval hy,Sem.run_bind,hr,Result.andThen_ok,Sem.run_pure]
  unfold Oper.wp;rw[r,Oper.upon_value,hd];exact h _ _ _ (f.put (lb hn) _) (sm.trans ⟨rfl,rfl,rfl,by simp⟩) (q.alloc _)
def kB:Value→Nat→Nat→Value
 | .slice a m c,lo,hi=> .slice (if c=lo then a else a.map (·.add lo)) (hi-lo) (c-lo)
 |v,_,_=>v
theorem PV.sliceLH{t e:TypeId}{x y z:Operand}{a:Option Addr}{len cap lo hi:Nat}{k k':IntKind}{i j:Int}(ho:o.op= .slice t x (some y) (some z) none)(ht:P.underlying t=some (.slice e))(hs:(P.info? e).map (·.size)=some 1)
 (hx:cK L x=some (.slice a len cap)) (hy:cK L y=some (.int k i)) (hz:cK L z=some (.int k' j)) (hi':i=(lo:Int)) (hj:j=(hi:Int)) (h1:lo≤hi) (h2:hi≤cap):PV P n D L S o (kB (.slice a len cap) lo hi):=
 λb w g _=>by
  subst hi';subst hj;simp only[execOp,ho,g.eval hx,Option.map_some,Option.map_none,g.eval hy,g.eval hz,kB]
  by_cases q:cap=lo
  · have e2:hi=lo:=by omega
    subst e2;simp[Instr.sliceAt,Instr.slice,run_underlying ht,Instr.sliceBounds,Instr.sliceBound,asIntOf,ey hs,q]
  · simp[Instr.sliceAt,Instr.slice,run_underlying ht,Instr.sliceBounds,Instr.sliceBound,asIntOf,h1,h2,ey hs,q]
theorem PV.sliceH{t e:TypeId}{x z:Operand}{a:Option Addr}{len cap hi:Nat}{k':IntKind}{j:Int}(ho:o.op= .slice t x none (some z) none)(ht:P.underlying t=some (.slice e))(hs:(P.info? e).map (·.size)=some 1)
 (hx:cK L x=some (.slice a len cap)) (hz:cK L z=some (.int k' j)) (hj:j=(hi:Int)) (h2:hi≤cap):PV P n D L S o (kB (.slice a len cap) 0 hi):=
 λb w g _=>by
  subst hj;simp only[execOp,ho,g.eval hx,Option.map_some,Option.map_none,g.eval hz,kB]
  by_cases q:cap=0
  · have e2:hi=0:=by omega
    subst e2;simp[Instr.sliceAt,Instr.slice,run_underlying ht,Instr.sliceBounds,Instr.sliceBound,asIntOf,ey hs,q]
  · simp[Instr.sliceAt,Instr.slice,run_underlying ht,Instr.sliceBounds,Instr.sliceBound,asIntOf,h2,ey hs,q]
theorem PV.sliceL{t e:TypeId}{x y:Operand}{a:Option Addr}{len cap lo:Nat}{k:IntKind}{i:Int}(ho:o.op= .slice t x (some y) none none)(ht:P.underlying t=some (.slice e))(hs:(P.info? e).map (·.size)=some 1)
 (hx:cK L x=some (.slice a len cap)) (hy:cK L y=some (.int k i)) (hi:i=(lo:Int)) (h1:lo≤len):PV P n D L S o (kB (.slice a len cap) lo len):=
 λb w g _=>by
  subst hi;simp only[execOp,ho,g.eval hx,Option.map_some,Option.map_none,g.eval hy,kB]
  by_cases q:cap=lo
  · simp[Instr.sliceAt,Instr.slice,run_underlying ht,Instr.sliceBounds,Instr.sliceBound,asIntOf,h1,ey hs,q]
  · simp[Instr.sliceAt,Instr.slice,run_underlying ht,Instr.sliceBounds,Instr.sliceBound,asIntOf,h1,ey hs,q]
end
theorem IsW.form{v:Value}{bs:List UInt8}{F:Hl}(h:IsW v bs F): ∃a c,v= .slice a bs.length c∧bs.length≤c∧(bs.length=0∨c≤9223372036854775807):=by
 rcases h with(⟨rfl,rfl⟩| ⟨b,off,cap,cs,T,z,rfl,h1,h2,_⟩)| ⟨a,c,rfl,rfl⟩
 · exact⟨_,_,rfl,aH _, .inl rfl⟩
 · exact⟨_,_,rfl,h1, .inr h2⟩
 · exact⟨_,_,rfl,aO _, .inl rfl⟩
theorem IsW.lt{v:Value}{bs:List UInt8}{F:Hl}(h:IsW v bs F):bs.length≤9223372036854775807:=by
 obtain⟨a,c,_,h1,h2⟩:=h.form;omega
theorem IsW.cut{v:Value}{bs:List UInt8}{F:Hl}(h:IsW v bs F){lo hi:Nat}(h1:lo≤hi)(h2:hi≤bs.length):IsW (kB v lo hi) ((bs.take hi).drop lo) F:=by
 have hl:((bs.take hi).drop lo).length=hi-lo:=by simp;omega
 by_cases e:hi-lo=0
 · obtain⟨a,c,rfl,hc,_⟩:=h.form
   have e0:(bs.take hi).drop lo=[]:=List.eq_nil_of_length_eq_zero (by omega);rw[e0];simp only[kB,e];split
   · cases a with
     |some a=>exact .inr ⟨_,_,rfl,rfl⟩
     |none=>
      rcases h with(⟨h,rfl⟩| ⟨b,off,cap,cs,T,z,h,_⟩)| ⟨a,c,h,_⟩
      · injection h with _ _ h;subst h;exact .inl (.inl ⟨by simp,rfl⟩)
      · simp at h
      · simp at h
   · cases a with
     |some a=>exact .inr ⟨_,_,rfl,rfl⟩
     |none=>
      rcases h with(⟨h,rfl⟩| ⟨b,off,cap,cs,T,z,h,_⟩)| ⟨a,c,h,_⟩
      · injection h with _ _ h;subst h;exact .inl (.inl ⟨by simp,rfl⟩)
      · simp at h
      · simp at h
 · obtain⟨b,off,cap,cs,T,z,rfl,hb,hcs,hc⟩:=h.at (j:=0) (by omega)
   rcases h.form with⟨a,c,hv,_,hm⟩
   injection hv with _ _ hv
   subst hv;refine .inl (.inr ⟨b,off+lo,cap-lo,cs,T,z,?_,by omega,by omega,hb,λj hj=>?_⟩)
   · simp only[kB,hl,if_neg (show ¬cap=lo by omega),Option.map_some,sz]
   · rw[hl]at hj
     rw[nR,hcs (lo+j) (by omega)];congr 2;simp[List.getD_eq_getElem?_getD,List.getElem?_take,show lo+j<hi by omega]
def ic(v:Value)(bs:List UInt8)(e:Nat):HP:=λh=>
 (v= .slice none 0 0∧bs=[]∧h=em)∨∃g off cap cur,v= .slice (some ⟨g,off,none⟩) bs.length cap∧h=sg g (.cells cur e (0,0))∧bs.length≤cap∧cap≤maxLen∧off+cap≤cur.size∧(cur.toList.drop off).take bs.length=ek bs
theorem qu{v:Value}{bs:List UInt8}{e:Nat}{h:Hl}(x:dZ v bs e h):ic v bs e h:=by
 rcases x with⟨_,⟨h1,h2,h3⟩| ⟨g,cap,cur,h1,h2,h3,h4,h5,h6⟩⟩
 · exact .inl ⟨h1,List.eq_nil_of_length_eq_zero h2,h3⟩
 · exact .inr ⟨g,0,cap,cur,h1,h2,h3,h4,by omega,by simpa using h6⟩
section
variable {H:List HP} {F:Hl} {v:Value} {bs:List UInt8} {e:Nat}
theorem AZ(i:Nat)(hi:Nat.blt i H.length=true)(hH:H.getD i (λ_=>True)=dZ v bs e){h:Hl}(s:bz H h):bz (H.set i (ic v bs e)) h:=
 lq i (lb hi) (cF (fm i (lb hi) s) (λ_ x=>qu (by rwa [hH]at x)) λ_ x=>x)
theorem wZ{lo hi nn:Nat}{bs':List UInt8}(i:Nat)(hi':Nat.blt i H.length=true)(hH:H.getD i (λ_=>True)=dZ v bs e){g cap:Nat}(hv:v= .slice (some ⟨g,0,none⟩) nn cap)(h1:lo≤hi)(h2:hi≤bs.length)(h3:lo<bs.length)(hb:(bs.take hi).drop lo=bs'){h:Hl}(s:bz H h):
 bz (H.set i (ic (kB v lo hi) bs' e)) h:=by
 subst hb;have hl:((bs.take hi).drop lo).length=hi-lo:=by simp;omega
 refine lq i (lb hi') (cF (fm i (lb hi') s) (λ_ x=>?_) λ_ x=>x);rw[hH]at x;rcases x with⟨_,⟨h1,h2,_⟩| ⟨g',cap',cur,h4,h5,h6,h7,h8,h9⟩⟩
 · rw[hv]at h1;simp at h1
 · rw[hv]at h4 ⊢
   simp only[Value.slice.injEq,Option.some.injEq,Addr.mk.injEq,and_true,true_and]at h4;obtain⟨rfl,rfl,rfl⟩:=h4;refine .inr ⟨g,lo,cap-lo,cur,?_,h5,by omega,by omega,by omega,?_⟩
   · simp only[kB,hl,if_neg (show ¬cap=lo by omega),Option.map_some,sz,bq]
   · rw[hl]
     rw[gn]at h9;have e1:=congrArg (λl:List Value=>(l.take hi).drop lo) h9;simp only[List.take_take,Nat.min_eq_left h2]at e1;rw[←o8,e1];simp[ek,qf,lD]
theorem Sat.sub_form{w:World}(i:Nat)(s:Sat H F w)(hi:Nat.blt i H.length=true)(hH:H.getD i (λ_=>True)=ic v bs e):(v= .slice none 0 0∧bs=[])∨∃g off cap cur,v= .slice (some ⟨g,off,none⟩) bs.length cap∧w.heap[g]?=some (.cells cur e (0,0))∧bs.length≤cap∧cap≤maxLen∧off+cap≤cur.size∧(cur.toList.drop off).take bs.length=ek bs:=by
 obtain⟨h,d,e',x⟩:=s;obtain⟨h1,h2,d',rfl,a,_⟩:=fm i (lb hi) x;rw[hH]at a;rcases a with⟨x1,x2,_⟩| ⟨g,off,cap,cur,x1,x2,x3⟩
 · exact .inl ⟨x1,x2⟩
 · refine .inr ⟨g,off,cap,cur,x1,?_,x3⟩
   have:hp w g=some (.cells cur e (0,0)):=by
    rw[e',jL];exact iA (by rw[x2];simp[sg])
   exact this
theorem Sat.sub_len{w:World}(i:Nat)(s:Sat H F w)(hi:Nat.blt i H.length=true)(hH:H.getD i (λ_=>True)=ic v bs e):pU v bs.length∧v.oneCell'=true:=by
 rcases s.sub_form i hi hH with⟨rfl,rfl⟩| ⟨g,off,cap,cur,rfl,_⟩
 · exact⟨⟨_,_,rfl⟩,rfl⟩
 · exact⟨⟨_,_,rfl⟩,rfl⟩
theorem Src.sub(i:Nat)(hi:Nat.blt i H.length=true)(hH:H.getD i (λ_=>True)=ic v bs e){w:World}(s:Sat H F w):Src (Sat H F) v bs.length (ek bs) 1:=by
 refine⟨by simp[ek],?_⟩;rcases s.sub_form i hi hH with⟨rfl,rfl⟩| ⟨g,off,cap,cur,rfl,_⟩
 · exact .inl ⟨rfl,rfl⟩
 · refine .inr ⟨⟨g,off,none⟩,cap,rfl,λw s j u hj=>?_⟩
   rcases s.sub_form i hi hH with⟨h1,_⟩| ⟨g',off',cap',cur',h1,h2,h3,h4,h5,h6⟩
   · simp at h1
   · simp only[Value.slice.injEq,Option.some.injEq,Addr.mk.injEq,and_true,true_and]at h1
     obtain⟨⟨rfl,rfl⟩,rfl⟩:=h1;rw[sz];rw[←h6,List.getElem?_take]at hj;split at hj
     · simp only[World.cell?,h2,Option.isSome_none,Bool.false_eq_true,if_false]
       simpa using hj
     · cases hj
theorem Bs(i:Nat){B:List HP}(hi:Nat.blt i B.length=true)(hH:B.getD i (λ_=>True)=ic v bs e): ∀g,Dj g F→bz B g→IsB v bs (jn g F):=λg _ s=>by
 obtain⟨h1,h2,d',rfl,a,_⟩:=fm i (lb hi) s;rw[hH]at a;rcases a with⟨x1,x2,_⟩| ⟨g,off,cap,cur,x1,x2,x3,x4,x5,x6⟩
 · exact .inl ⟨x1,x2⟩
 · refine .inr ⟨g,off,cap,cur.toList,e,(0,0),x1,x3,by simpa [maxLen]using x4,iA (iA (by rw[x2];simp[sg])),λj hj=>?_⟩
   have e1:=congrArg (λl:List Value=>l[j]?) x6;simp only[List.getElem?_take,if_pos hj,List.getElem?_drop]at e1;rw[e1];simp[ek,List.getD_eq_getElem?_getD,hj]
end
theorem ut{P:Program}(w:World)(t ty e:TypeId)(i:TypeInfo)(ht:P.underlying t=some (.slice e))(hi:P.info? e=some i)(g off sLen sCap:Nat)(cur:Array Value)(hg:w.heap[g]?=some (.cells cur e (0,0)))
 (a:Addr) (m c:Nat) (news:List Value) (hl:news.length=m*i.size) (hnews: ∀j u,news[j]?=some u→w.cell? (a.add j)=some u) (h1: ∀u∈news,u.oneCell'=true)
 (hroom:sLen+m≤sCap) (hfit:off+sLen*i.size+news.length≤cur.size):
 (Builtin.append_ #[t,t] ty #[.slice (some ⟨g,off,none⟩) sLen sCap, .slice (some a) m c]).run P w=
  .ok (.slice (some ⟨g,off,none⟩) (sLen+m) sCap) (w.setRow g (cur.toList.take (off+sLen*i.size)++news++cur.toList.drop (off+sLen*i.size+news.length)).toArray):=by
 have hf:=run_firstCells_some (P:=P) w i.size m a m c news hl hnews;have hst:=run_storeCells_at P g (off+sLen*i.size) e news 0 cur w hg (by simpa using hfit) h1;simp only[KO]at hst;simp[Builtin.append_,run_underlying ht,Go.sizeOf,typeInfo,hi,Builtin.lenOf,hroom,hf,Addr.add_lit,hst]
section
variable {P:Program} {w0:World} {F:Hl} {n:Nat} {ops:Array Oper} {Q:QQ} {D:List Deferred} {L:List (Nat×Value)} {H:List HP} {o:Oper} {l:List Oper} {d:Nat} {S:World→Prop}
theorem Sat.sub_open{w:World}{k:Nat}{v:Value}{bs:List UInt8}{e:TypeId}(s:Sat H F w)(hk:Nat.blt k H.length=true)(hH:H.getD k (λ_=>True)=ic v bs e):
 (v= .slice none 0 0∧bs=[]∧Sat (H.set k (dZ (.slice none 0 0) [] e)) F w)∨∃g off cap cur,v= .slice (some ⟨g,off,none⟩) bs.length cap∧Sat (H.set k (Bh g (.cells cur e (0,0)))) F w∧bs.length≤cap∧cap≤maxLen∧off+cap≤cur.size∧(cur.toList.drop off).take bs.length=ek bs:=by
 obtain⟨h,d,e',x⟩:=s;obtain⟨h1,h2,d',rfl,a,y⟩:=fm k (lb hk) x;rw[hH]at a;rcases a with⟨x1,x2,x3⟩| ⟨g,off,cap,cur,x1,x2,x3⟩
 · exact .inl ⟨x1,x2,_,d,e',lq k (lb hk) ⟨h1,h2,d',rfl,⟨rfl, .inl ⟨rfl,rfl,x3⟩⟩,y⟩⟩
 · exact .inr ⟨g,off,cap,cur,x1,⟨_,d,e',lq k (lb hk) ⟨h1,h2,d',rfl,x2,y⟩⟩,x3⟩
theorem Src.of_eq{S':World→Prop}{x:Value}{m size:Nat}{news:List Value}(h:Src S x m news size)(hS: ∀w,S' w→S w):Src S' x m news size:=⟨h.1,h.2.imp id λ⟨a,c,q3,q4⟩=>⟨a,c,q3,λw' s'=>q4 w' (hS w' s')⟩⟩
theorem CV{k:Nat}{q:HP}(hk:Nat.blt k H.length=true)(hH:H.getD k (λ_=>True)=q):H.set k q=H:=by
 rw[←hH,List.getD_eq_getElem?_getD,List.getElem?_eq_getElem (lb hk)];exact List.set_getElem_self _
theorem C7{w:World}{k:Nat}{v x:Value}{bs news:List UInt8}{t ty e:TypeId}(s:Sat H F w)(ht:P.underlying t=some (.slice e))(hi:(P.info? e).map (λi=>(i.zero,i.size,i.bytes))=some (some (.int .u8 0),1,1))
 (hk:Nat.blt k H.length=true) (hH:H.getD k (λ_=>True)=ic v bs e) (hx:Src (Sat H F) x news.length (ek news) 1) (hb:bs.length+news.length≤140737488355328):
 ∃v' w',(Builtin.append_ #[t,t] ty #[v,x]).run P w= .ok v' w'∧Same w w'∧Sat (H.set k (ic v' (bs++news) e)) F w':=by
 rcases s.sub_open hk hH with⟨rfl,rfl,s1⟩| ⟨g,off,cap,cur,rfl,s1,h3,h4,h5,h6⟩
 · have hx':Src (Sat (H.set k (dZ (.slice none 0 0) [] e)) F) x news.length (ek news) 1:=hx.of_eq λw' s'=>by
    have:=s'.turn (q:=ic (.slice none 0 0) [] e) k (by simpa using lb hk) λh hh=>by
     rw[jf (lb hk)]at hh;exact qu hh
    rwa [fZ,CV hk hH]at this
   obtain⟨v',w',r1,r2,r3⟩:=vj (k:=k) (nn:=0) (m:=news.length) (v:= .slice none 0 0) (xs:=ek []) (news:=ek news) (ty:=ty) s1 ht hi rfl (by decide) (by simpa using lb hk) (jf (lb hk) _) hx' (fl _) (by simp only[maxLen];simp at hb;omega) (by simp at hb;omega);refine⟨v',w',r1,r2,?_⟩;rw[fZ]at r3
   have:=r3.turn (q:=ic v' ([]++news) e) k (by simpa using lb hk) λh hh=>by
    rw[jf (lb hk)]at hh;refine qu ?_;rw[←jy,bq,aQ]at hh;exact hh
   rwa [fZ]at this
 · obtain⟨i,hie,hz0,hsz,hby⟩:=info_parts hi
   obtain⟨hxl,hxx⟩:=hx;have hg:w.heap[g]?=some (.cells cur e (0,0)):=s1.block k (by simpa using lb hk) (jf (lb hk) _)
   by_cases hroom:bs.length+news.length≤cap
   · rcases hxx with⟨rfl,hm⟩| ⟨a0,c,rfl,hc⟩
     · have hn:news=[]:=List.eq_nil_of_length_eq_zero hm
       subst hn;refine⟨_,w,?_,sF w,by rw[aW,CV hk hH];exact s⟩;simp[Builtin.append_,run_underlying ht,Go.sizeOf,typeInfo,hie,Builtin.lenOf,Builtin.firstCells,loadCells,loadCellsFrom,storeCells,h3]
     · have hfit:off+bs.length*i.size+(ek news).length≤cur.size:=by rw[hsz,gn,aZ];omega
       refine⟨_,_,ut (P:=P) w t ty e i ht hie g off bs.length cap cur hg a0 news.length c (ek news) (by rw[hsz,aZ,gn]) (λj v hj=>hc w s j v hj) (fl _) hroom hfit,⟨rfl,rfl,rfl,by simp⟩,?_⟩;have h2:=s1.write k (by simpa using lb hk) (jf (lb hk) _) (setRow_heap w g cur (cur.toList.take (off+bs.length*i.size)++ek news++cur.toList.drop (off+bs.length*i.size+(ek news).length)).toArray e _ hg) (λj hj=>setRow_other w g j _ hj);rw[fZ]at h2
       have h7:=h2.turn (q:=ic (.slice (some ⟨g,off,none⟩) (bs.length+news.length) cap) (bs++news) e) k (by simpa using lb hk) (λh hh=>by
        rw[jf (lb hk)]at hh;rw[hsz,gn,aZ]at hh;refine .inr ⟨g,off,cap,_,by rw[ai],hh,by rw[ai];exact hroom,h4,?_,?_⟩
        · simp only[List.size_toArray,ai,bR,ej,Array.length_toList,aZ]
          rw[hsz,gn,aZ]at hfit;omega
        · simp only[aE]
          rw[kY (by simp only[bR,Array.length_toList];rw[hsz,gn,aZ]at hfit;omega),o8,cq,h6,←aE,←jy]
          rw[cy (by rw[aZ];exact aH _),aD (by rw[aZ];exact aH _)])
       rwa [fZ]at h7
   · rcases hxx with⟨rfl,hm⟩| ⟨a0,c,rfl,hc⟩
     · omega
     · have holds: ∀j u,(ek bs)[j]?=some u→w.cell? ((⟨g,off,none⟩:Addr).add j)=some u:=λj u hj=>by
        rw[sz];rw[←h6,List.getElem?_take]at hj;split at hj
        · simpa [World.cell?,hg]using hj
        · cases hj
       have hr:=run_append_grow (P:=P) w t ty e i _ ht hie hz0 ⟨g,off,none⟩ bs.length cap (ek bs) (by rw[hsz,aZ,gn]) holds a0 news.length c (ek news) (by rw[hsz,aZ,gn]) (λj v hj=>hc w s j v hj) (by omega) (by omega) (growslice_fits (by omega) (by rw[hby];omega));refine⟨_,_,hr,⟨rfl,rfl,rfl,by simp⟩,Sat.swap k (lb hk) (s.drew.alloc _) λh hh=>?_⟩;have hge:=grownCap_ge w (bs.length+news.length) cap e;refine .inr ⟨w.heap.size,0,_,_,by rw[ai],hh,by rw[ai];exact hge,grownCap_le_maxLen w (bs.length+news.length) cap e (by simp only[maxLen];omega),?_,?_⟩
       · simp only[Array.size_append,List.size_toArray,size_zeroCells,aZ,bq]
         have:(Value.cells (.int .u8 0)).size=1:=rfl;rw[this,gn];omega
       · simp only[Array.toList_append,aE,be]
         rw[←aE,←jy,←aZ (bs++news)];exact tW
theorem TL.appendS{s x:Operand}{k:Nat}{v vx:Value}{bs news bs':List UInt8}{t e:TypeId}(hw:Want n D ops o L)
 (ho:o.op= .call {callee:= .builtin .append,args:=#[s,x],argTypes:=#[t,t]}) (hd:o.dst=some d) (hn:Nat.blt d n=true) (ht:P.underlying t=some (.slice e))
 (hi:(P.info? e).map (λi=>(i.zero,i.size,i.bytes))=some (some (.int .u8 0),1,1)) (hs:cK L s=some v) (hx:cK L x=some vx)
 (hk:Nat.blt k H.length=true) (hH:H.getD k (λ_=>True)=ic v bs e) (hsrc: ∀w,Sat H F w→Src (Sat H F) vx news.length (ek news) 1) (hb:bs.length+news.length≤140737488355328)
 (hxs:bs++news=bs') (h: ∀v',v'.oneCell'=true→TL P w0 F n ops Q l D ((d,v')::L) (H.set k (ic v' bs' e))):TL P w0 F n ops Q (o::l) D L H:=
 mJ hw λa w f sm q=>by
  obtain⟨v',w',hr,s',q'⟩:=C7 (ty:=o.type) q ht hi hk hH (hsrc w q) hb;unfold Oper.wp execOp;simp only[ho,resolve,invoke,builtin,Sem.run_bind,Sem.run_pure,Result.andThen_ok,Mz,fb,mN,f.eval hs,f.eval hx,hr];rw[Oper.upon_value,hd];subst hxs;have one:v'.oneCell'=true:=(q'.sub_len k (by simpa using hk) (jf (lb hk) _)).2;exact h v' one _ w' (f.put (lb hn) v') (sm.trans s') q'
theorem TL.subLen{v:Value}{bs:List UInt8}{e:Nat}(k:Nat)(hk:Nat.blt k H.length=true)(hH:H.getD k (λ_=>True)=ic v bs e)
 (h:pU v bs.length→v.oneCell'=true→TL P w0 F n ops Q l D L H):TL P w0 F n ops Q l D L H:=yP (λw m=>m.sub_len k hk hH) λ⟨h1,h2⟩=>h h1 h2
end
theorem tH{v:Value}{z:Array Value}(h:v.oneCell'=true)(hz:z.size=1):Instr.fill (λi=>some (i*1,1)) z [(0,v)]=some #[v]:=by
 rw[Instr.fill,Ap h];simp only[iK,List.size_toArray,ax,aB,bq,hz,ne_eq,not_true_eq_false,decide_false,Bool.false_or];rw[if_neg (by simp)]
 have:(#[v].zipIdx.foldl (λcs (c,j)=>cs.setIfInBounds (0+j) c) z)=#[v]:=by
  match z,hz with
  | ⟨[x]⟩,_=>rfl
 simp only[bq]at this;simp only[Instr.fill];rw[this]
theorem DI{x:Value}{bs:List UInt8}{F:Hl}(hx:IsW x bs F)(i:Nat){g T:Nat}{B:List HP}(hi:Nat.blt i B.length=true)(e:B.getD i (λ_=>True)=ah g [x] T): ∀h,Dj h F→bz B h→PK (.slice (some ⟨g,0,none⟩) 1 1) [bs] (jn h F):=λh d s=>
 .inr (.inr ⟨g,0,1,[x],T,(0,0),rfl,aH _,by decide,tj i hi e h d s,λj hj=>by
  obtain rfl:j=0:=by simpa using hj
  exact⟨[x],rfl,rfl,x,rfl,hx.more d⟩⟩)
theorem DH(i n:Nat){g T:Nat}{bs:List UInt8}{B:List HP}{F:Hl}(hn:bs.length=n)(hl:n≤9223372036854775807)(hi:Nat.blt i B.length=true)(e:B.getD i (λ_=>True)=ah g (ek bs) T): ∀h,Dj h F→bz B h→IsB (.slice (some ⟨g,0,none⟩) n n) bs (jn h F):=by
 subst hn;exact L6 i hl hi e
def eQ(us:List Value)(ls:List (List UInt8))(e:Nat):HP:=λh=>us.length=ls.length∧bz (List.zipWith (λu l=>ic u l e) us ls) h
abbrev mP(te e:Nat)(v:Value)(ls:List (List UInt8)):HP:=pack λus:List Value=>[own v ls.length us te 1,eQ us ls e]
theorem wu{α β γ:Type}(f:α→β→γ): ∀(us:List α) (ls:List β) (u:α) (l:β),us.length=ls.length→List.zipWith f (us++[u]) (ls++[l])=List.zipWith f us ls++[f u l]
 | [],[],_,_,_=>rfl
 | [],_::_,_,_,h=>by simp at h
 |_::_,[],_,_,h=>by simp at h
 |x::us,y::ls,u,l,h=>by simp[wu f us ls u l (by simpa using h)]
theorem uX{us:List Value}{ls:List (List UInt8)}{e:Nat}{u:Value}{l:List UInt8}{H:List HP}{h:Hl}(s:bz (eQ us ls e::ic u l e::H) h):bz (eQ (us++[u]) (ls++[l]) e::H) h:=by
 have t:=nA.2 s;refine cF t (λh' x=>?_) λ_ x=>x
 obtain⟨h1,h2,d,rfl,⟨hl,a⟩,b⟩:=x;refine⟨by simp[hl],?_⟩;rw[wu _ _ _ _ _ hl];exact(cb _ _).2 ⟨h1,h2,d,rfl,a,rW b⟩
theorem At{e:Nat}{H:List HP}{h:Hl}(s:bz H h):bz (eQ [] [] e::H) h:=⟨em,h,Ex h,(rG h).symm,⟨rfl,trivial⟩,s⟩
theorem xW: ∀(us:List Value) (ls:List (List UInt8)) (e:Nat) (h:Hl),us.length=ls.length→bz (List.zipWith (λu l=>ic u l e) us ls) h→∀(j:Nat) (hj:j<ls.length),∃u,us[j]?=some u∧∃h1 h2,Dj h1 h2∧h=jn h1 h2∧ic u ls[j] e h1
 | [],[],_,_,_,_,j,hj=>by simp at hj
 | [],_::_,_,_,h,_,_,_=>by simp at h
 |_::_,[],_,_,h,_,_,_=>by simp at h
 |u::us,l::ls,e,h,hl,s,0,_=>by
  obtain⟨h1,h2,d,rfl,a,_⟩:=s;exact⟨u,rfl,h1,h2,d,rfl,a⟩
 |u::us,l::ls,e,h,hl,s,j+1,hj=>by
  obtain⟨h1,h2,d,rfl,_,b⟩:=s;obtain⟨u',e1,g1,g2,d',rfl,a⟩:=xW us ls e h2 (by simpa using hl) b j (by simpa using hj);refine⟨u',by simpa using e1,g1,jn h1 g2,?_,?_,a⟩
  · obtain⟨q1,q2⟩:=oq.1 d
    exact oq.2 ⟨q1.symm,d'⟩
  · rw[oc d,jL,oc (oq.1 d).2]
theorem Cq{v:Value}{bs:List UInt8}{e:Nat}{h1 G:Hl}(a:ic v bs e h1)(hG:Le h1 G):IsB v bs G:=by
 rcases a with⟨x1,x2,_⟩| ⟨g,off,cap,cur,x1,x2,x3,x4,x5,x6⟩
 · exact .inl ⟨x1,x2⟩
 · refine .inr ⟨g,off,cap,cur.toList,e,(0,0),x1,x3,by simpa [maxLen]using x4,hG _ _ (by rw[x2];simp[sg]),λj hj=>?_⟩
   have e1:=congrArg (λl:List Value=>l[j]?) x6;simp only[List.getElem?_take,if_pos hj,List.getElem?_drop]at e1;rw[e1];simp[ek,List.getD_eq_getElem?_getD,hj]
theorem vf(te e:Nat){H:List HP}{h:Hl}(s:bz H h):bz (mP te e (.slice none 0 0) []::H) h:=bn (p:=λus:List Value=>[own (.slice none 0 0) 0 us te 1,eQ us [] e]) [] (ik te 1 (At s))
theorem vh{te e:Nat}{v' u:Value}{us:List Value}{ls:List (List UInt8)}{l:List UInt8}{H:List HP}{h:Hl}(s:bz (own v' (ls.length+1) (us++[u]) te 1::eQ us ls e::ic u l e::H) h):bz (mP te e v' (ls++[l])::H) h:=
 bn (p:=λus:List Value=>[own v' (ls++[l]).length us te 1,eQ us (ls++[l]) e]) (us++[u]) (cF s (λ_ x=>by simpa using x) λ_ x=>uX x)
section
variable {P:Program} {w0:World} {F:Hl} {n:Nat} {ops:Array Oper} {Q:QQ} {D:List Deferred} {L:List (Nat×Value)} {H:List HP} {l:List Oper}
theorem TL.recsOpen{te e:Nat}{v:Value}{ls:List (List UInt8)}(h: ∀us,TL P w0 F n ops Q l D L (own v ls.length us te 1::eQ us ls e::H)):TL P w0 F n ops Q l D L (mP te e v ls::H):=
 G9 (λ_ s=>fR s) h
abbrev MY:= @TL.recsOpen
theorem vg{te e:Nat}{v:Value}{ls:List (List UInt8)}{h:Hl}(s:mP te e v ls h):pU v ls.length∧v.oneCell'=true:=by
 obtain⟨us,g1,g2,d2,rfl,a1,_⟩:=s;rcases a1 with⟨q0,⟨q1,q2,_⟩| ⟨g,cap,cur,q1,_⟩⟩
 · subst q1
   have:ls=[]:=List.eq_nil_of_length_eq_zero q2;subst this;exact⟨⟨_,_,rfl⟩,rfl⟩
 · subst q1;exact⟨⟨_,_,rfl⟩,rfl⟩
theorem TL.recsLen{te e:Nat}{v:Value}{ls:List (List UInt8)}(k:Nat)(hk:Nat.blt k H.length=true)(hH:H.getD k (λ_=>True)=mP te e v ls)(h:pU v ls.length→v.oneCell'=true→TL P w0 F n ops Q l D L H):TL P w0 F n ops Q l D L H:=
 yP (p:=pU v ls.length∧v.oneCell'=true) (λw ⟨h,d,e',x⟩=>by
  obtain⟨h1,h2,d',rfl,a,_⟩:=fm k (lb hk) x;rw[hH]at a
  exact vg a) λ⟨h1,h2⟩=>h h1 h2
end
end Leg
namespace Leg
open Go Codec Api
section
variable {P:Program} {w0:World} {F:Hl} {n:Nat} {L:List (Nat×Value)} {H:List HP}
theorem TE.ret3{fn:Func}{post:Ending→List HP→Prop}{t t' t'':Nat}{v v' v'':Value}(hr:fn.results=#[.tmp t, .tmp t', .tmp t''])(e:lk L t=some v)(e':lk L t'=some v')(e'':lk L t''=some v'')(h:post (.returned (.tuple #[v,v',v''])) H):
 TE w0 F n (bodyPost P fn (jD post w0 F)) .ret [] L H:=λa w f s m=>by
 refine bodyPost_ret (results_tmp3 hr _ _ _) f.2.1 ⟨s,H,m,?_⟩;have h1:=f.eval (x:= .tmp t) e;have h2:=f.eval (x:= .tmp t') e';have h3:=f.eval (x:= .tmp t'') e'';rw[show a.tmps.getD t undef=v from h1,show a.tmps.getD t' undef=v' from h2,show a.tmps.getD t'' undef=v'' from h3];exact h
abbrev nT:= @TE.ret3
end
theorem rP{l:List UInt8}{j:Nat}(h:j<l.length):(ek l)[j]?=some (.int .u8 (((l.getD j 0).toNat:Nat):Int)):=by simp[ek,List.getD_eq_getElem?_getD,h]
theorem Mi{a:Addr}{m c k:Nat}(hc:0<c):kB (.slice (some a) m c) 0 k= .slice (some a) k c:=by
 simp only[kB,if_neg (show ¬c=0 by omega),Option.map_some,Rv];rfl
end Leg
namespace Leg
open Go Codec Api
section
variable {P:Program} {w0:World} {F:Hl} {n:Nat} {ops:Array Oper} {Q:QQ} {D:List Deferred} {L:List (Nat×Value)} {H:List HP} {o:Oper} {l:List Oper} {d:Nat} {S:World→Prop}
end
end Leg
end

section
namespace Go.Proofs.YtmcjhkbcmmddgaaGreat
open Go Leg Codec Api
theorem pX:(Tryz.prog.info? 52).map (·.size)=some 870:=by kernel_rfl
theorem uj:(Tryz.prog.info? 85).map (·.size)=some 875:=by kernel_rfl
theorem AR:(Tryz.prog.info? 92).map (·.size)=some 870:=by kernel_rfl
theorem ML:NM 134:=nk Tryz.func134
theorem O5:NM 154:=nk Tryz.func154
theorem kM(w:Int):
 DT 129 #[(.int .i64 (w))] T0 [] (RI (.bool (cI w)) []):=by
 refine BD 9 Tryz.func129 rfl rfl rfl λw0 F hF=>sr λ_ J1=>PS ?_
 refine nx J1 (sr λ_ J2=>P2 ?_);refine ap ?_ ?_<;>intro h4
 iterate 5 refine PS ?_
 refine nx J2 (aj (av rfl rfl ?_));exact⟨congrArg Value.bool (by unfold cI;first| (rw[decide_eq_decide];omega)| (symm;rw[decide_eq_false_iff_not];omega)| (symm;rw[decide_eq_true_iff];omega)),rfl⟩;refine PS ?_;refine UF ?_;refine UF ?_;refine P2 ?_;refine nx J2 (aj (av rfl rfl ?_));exact⟨congrArg Value.bool (by unfold cI;first| (rw[decide_eq_decide];omega)| (symm;rw[decide_eq_false_iff_not];omega)| (symm;rw[decide_eq_true_iff];omega)),rfl⟩
theorem lR(w:Int):
 DT 77 #[(.int .i64 (w))] T0 [] (RI (.bool (cI w)) []):=by
 refine BD 9 Tryz.func77 rfl rfl rfl λw0 F hF=>sr λ_ J1=>PS ?_
 refine nx J1 (sr λ_ J2=>P2 ?_);refine ap ?_ ?_<;>intro h4
 iterate 5 refine PS ?_
 refine nx J2 (aj (av rfl rfl ?_));exact⟨congrArg Value.bool (by unfold cI;first| (rw[decide_eq_decide];omega)| (symm;rw[decide_eq_false_iff_not];omega)| (symm;rw[decide_eq_true_iff];omega)),rfl⟩;refine PS ?_;refine UF ?_;refine UF ?_;refine P2 ?_;refine nx J2 (aj (av rfl rfl ?_));exact⟨congrArg Value.bool (by unfold cI;first| (rw[decide_eq_decide];omega)| (symm;rw[decide_eq_false_iff_not];omega)| (symm;rw[decide_eq_true_iff];omega)),rfl⟩
theorem iQ(w:Int):
 DT 113 #[(.int .i64 (w))] T0 [] (RI (.bool (cI w)) []):=by
 refine BD 9 Tryz.func113 rfl rfl rfl λw0 F hF=>sr λ_ J1=>PS ?_
 refine nx J1 (sr λ_ J2=>P2 ?_);refine ap ?_ ?_<;>intro h4
 iterate 5 refine PS ?_
 refine nx J2 (aj (av rfl rfl ?_));exact⟨congrArg Value.bool (by unfold cI;first| (rw[decide_eq_decide];omega)| (symm;rw[decide_eq_false_iff_not];omega)| (symm;rw[decide_eq_true_iff];omega)),rfl⟩;refine PS ?_;refine UF ?_;refine UF ?_;refine P2 ?_;refine nx J2 (aj (av rfl rfl ?_));exact⟨congrArg Value.bool (by unfold cI;first| (rw[decide_eq_decide];omega)| (symm;rw[decide_eq_false_iff_not];omega)| (symm;rw[decide_eq_true_iff];omega)),rfl⟩
theorem sy(key n:Int):
 DT 125 #[(.int .i64 (key)),(.int .i64 (n))] T0 [] (RI (.bool (tR key n)) []):=by
 refine BD 19 Tryz.func125 rfl rfl rfl λw0 F hF=>sr λ_ J1=>PS ?_
 refine nx J1 (sr λ_ J2=>P2 ?_);refine ap ?_ ?_<;>intro h6;refine P3 ?_;refine ap ?_ ?_<;>intro h9;refine P4 ?_;refine ap ?_ ?_<;>intro h13;refine P3 ?_;refine CE GJ (lW n) ID ?_;refine P2 ?_;refine nx J2 (aj (WK [] (av rfl rfl ?_)));exact⟨congrArg Value.bool (by simp[tR,m5, *]),rfl⟩;refine P2 ?_;refine UF ?_;refine UF ?_;refine P2 ?_;refine nx J2 (aj (WK [] (av rfl rfl ?_)));exact⟨congrArg Value.bool (by simp[tR,m5, *]),rfl⟩;refine P2 ?_;refine UF ?_;refine UF ?_;refine P2 ?_;refine UF ?_;refine UF ?_;refine P2 ?_;refine nx J2 (aj (WK [] (av rfl rfl ?_)));exact⟨congrArg Value.bool (by simp[tR,m5, *]),rfl⟩;refine PS ?_;refine UF ?_;refine UF ?_;refine P2 ?_;refine UF ?_;refine UF ?_;refine P2 ?_;refine UF ?_;refine UF ?_;refine P2 ?_;refine nx J2 (aj (WK [] (av rfl rfl ?_)));exact⟨congrArg Value.bool (by simp[tR,m5, *]),rfl⟩
theorem Is(b off T:Nat)(cs:List Value)(n:Int)(h:cs[off]?=some (.int .i64 n)):
 DT 127 #[(.pointer (some ⟨b,off,none⟩))] T0 [ah b (cs) T] (RI (.tuple #[.int .i64 n, .pointer (some ⟨b,off,none⟩)]) [ah b cs T]):=by
 refine BD 11 Tryz.func127 rfl rfl rfl λw0 F hF=>sr λ_ J1=>P2 ?_
 refine nx J1 (aa λ_ J2=>D1 0 bl ?_);refine PD 0 ?_;refine PD 1 ?_;refine ta 2 rfl (bc (r:=off) rfl oi rfl aP rfl rfl) ?_;refine LX 3 Y3 (.int .i64 (n)) ?_ (hc:=by exact h);refine PD 4 ?_;refine PD 5 ?_;refine ta 6 rfl (bc (r:=off) rfl oi rfl aP rfl rfl) ?_;refine PD 7 ?_;refine PD 8 ?_;exact DN (ac J2 (aj (WK [0] (jo rfl rfl rfl ⟨rfl,rfl⟩))))
theorem IH(b off T:Nat)(cs:List Value)(n:Int)(h:cs[off+1]?=some (.int .i64 n)):
 DT 128 #[(.pointer (some ⟨b,off,none⟩))] T0 [ah b (cs) T] (RI (.tuple #[.int .i64 n, .pointer (some ⟨b,off+1,none⟩)]) [ah b cs T]):=by
 refine BD 11 Tryz.func128 rfl rfl rfl λw0 F hF=>sr λ_ J1=>P2 ?_
 refine nx J1 (aa λ_ J2=>D1 0 bl ?_);refine PD 0 ?_;refine PD 1 ?_;refine ta 2 rfl (bc (r:=off+1) rfl oi rfl aP rfl rfl) ?_;refine LX 3 Y3 (.int .i64 (n)) ?_ (hc:=by exact h);refine PD 4 ?_;refine PD 5 ?_;refine ta 6 rfl (bc (r:=off+1) rfl oi rfl aP rfl rfl) ?_;refine PD 7 ?_;refine PD 8 ?_;exact DN (ac J2 (aj (WK [0] (jo rfl rfl rfl ⟨rfl,rfl⟩))))
theorem FL(b off T tb:Nat)(cs:List Value)(g:Vector Int 5)(to':Int)(ht:0≤to'∧to'<5)(h:(cs.drop (off+2)).take 5=ints g.toList):
 DT 130 #[(.pointer (some ⟨b,off,none⟩)),(.pointer (some ⟨tb,0,none⟩))] T0 [ah b (cs) T,ah tb [(.int .i64 (to'))] 3] (RI (.tuple #[.int .i64 (g.toList.foldl (λs g=>fx (s+g)) 0), .pointer (some ⟨b,off+2+to'.toNat,none⟩)]) [ah b cs T,ah tb [.int .i64 to'] 3]):=by
 refine BD 25 Tryz.func130 rfl rfl rfl λw0 F hF=>sr λ_ J1=>P2 ?_
 refine nx J1 (sr λ_ J2=>PS ?_);refine nx J2 (aa λ_ J3=>sr λ_ J4=>P2 ?_);refine tp (bc (r:=off+2) rfl oi rfl gM rfl rfl) ?_;refine tp (aM (vs:=ints g.toList) rfl mS rfl gM rfl (RO 0) (jq g) h) ?_;refine PS ?_;refine nx J4 (aq ?_)
 refine bD (α:=(Nat)×(Int)) (λ⟨k,s⟩=>k≤5∧s=(g.toList.take k).foldl (λs g=>fx (s+g)) 0) (λ⟨k,s⟩=>[(0,(.pointer (some ⟨b,off,none⟩))),(1,(.pointer (some ⟨tb,0,none⟩))),(3,(.int .i64 0)),(4,(.pointer none)),(5,(.int .i64 (s))),(11,(.agg (ints g.toList).toArray)),(12,(.int .i64 (((k:Nat):Int))))]) (λ⟨k,s⟩=>[ah b (cs) T,ah tb [(.int .i64 (to'))] 3]) (λ⟨k,s⟩=>5-k) (0,0)
  ⟨aO _,rfl⟩ SB
  (λ_ s=>s) (λ⟨k,s⟩ hinv=>?_)
 obtain⟨hk,hs⟩:=hinv;refine sr λ_ J5=>PS ?_
 refine ap ?_ ?_<;>intro h13;refine nx J5 (aa λ_ J6=>CY (qx J6 (aa λ_ J7=>aq (sr λ_ J8=>tp (p9 (cs:=ints g.toList) (v:=Value.int .i64 (g[k]'(by omega))) (r:=k) rfl mS Y3 rfl aP rfl rfl (by omega) (by omega) (by omega) (kp g (by omega))) ?_))));refine PS ?_;refine nx J8 (ad (P2 ?_));refine tp (cB (r:=(fx (s+(g[k]'(by omega))))) rfl rfl rfl rfl) ?_;refine PS ?_;refine aw (af (ac J7 (ad (AD ?_))));refine PS ?_;refine aw ?_
 exact aL ((k+1,(fx (s+(g[k]'(by omega))))):(Nat)×(Int)) ⟨by omega,by rw[da (by simp;omega),fk,←hs];simp⟩ (by show 5- (k+1)<5-k;omega)
  SB
  (λ_ s=>s)
 refine nx J5 (aa λ_ J9=>CN (bh (aC (aC (bC (ac J3 (aa λ_ J10=>D1 1 bl ?_)))))));refine PD 0 ?_;refine PD 1 ?_;refine LX 2 Y3 (.int .i64 (to')) ?_ (hc:=by exact rfl);refine PD 3 ?_;refine ta 4 rfl (bc (r:=off+2) rfl oi rfl gM rfl rfl) ?_;refine IY 5 (off+2+(to').toNat) mS aP ?_;refine PD 6 ?_;refine PD 7 ?_;refine DN (ac J10 (aj (WK [0,0] (jo rfl rfl rfl ?_))));exact⟨by rw[hs,aD (by simp;omega)],rfl⟩
theorem Bo(x:RowT)(key n:Int)(hk:0≤key∧key<4)(hn:1≤n∧n≤1099511627776):
 DT 126 #[(.agg (ints x.flat).toArray),(.int .i64 (key)),(.int .i64 (n)),(.func (.func 127) #[] #[])] T0 [] (RI (.tuple #[.agg (ints (jJ x key n (cellAt x key).inn {cellAt x key with inn:=fx ((cellAt x key).inn+n)}).1.flat).toArray, .int .i64 (jJ x key n (cellAt x key).inn {cellAt x key with inn:=fx ((cellAt x key).inn+n)}).2]) []):=by
 refine BD 36 Tryz.func126 rfl rfl rfl λw0 F hF=>?_
 have hkb:m5 key=true:=decide_eq_true hk;have hcell:cellAt x key=x.cells[key.toNat]'(by omega):=by rw[cellAt,dif_pos hkb]
 refine sr λ_ J1=>XY (ints x.flat) λb4=>?_
 refine XZ u6 (ints RowT.zero.flat) λb8=>?_
 refine PS ?_;refine nx J1 (sr λ_ J2=>P2 ?_);refine FA 1 dT lX ?_;refine IX (1+key.toNat*7) B1 gL ?_;refine TL.callRv (ab rfl) rfl rfl rfl rfl Pi rfl (Is b4 (1+key.toNat*7) 51 (ints x.flat) x.cells[key.toNat].inn (vX x (key.toNat*7) (by omega) (by omega) (n8 bP x.cells (i:=key.toNat) 0 (by omega) (by omega) (by decide) (y3 _ rfl)))) (λ_ s=>az [1] rfl s) (λ_ _ _=>trivial) (λvR HR hR=>?_);obtain⟨rfl,rfl⟩:=hR;refine P4 ?_;refine PS ?_;refine nx J2 (aa λ_ J3=>sr λ_ J4=>P2 ?_);refine tp (j8 (r:=(1099511627776-n)) rfl rfl rfl (bK (by omega) (by omega))) ?_;refine PS ?_;refine ap ?_ ?_<;>intro h23;refine nx J4 (CY (sr λ_ J5=>BV ((ints RowT.zero.flat).toArray) ?_));refine SW 1 aX ag ?_;refine PS ?_;refine nx J5 (aj (ae (RT 1 [] dT aX (ag _) ?_)));exact⟨by rw[jJ,hcell,if_pos h23],rfl⟩;refine nx J4 (CN (qx J3 (sr λ_ J6=>P2 ?_)));refine LT 0 Y3 (.int .i64 ((x.cells[key.toNat]'(by omega)).inn)) ?_ (hc:=by exact vX x (key.toNat*7) (by omega) (by omega) (n8 bP x.cells (i:=key.toNat) 0 (by omega) (by omega) (by decide) (y3 (x.cells[key.toNat]'(by omega)) rfl)));refine PS ?_;refine tp (cB (r:=(fx (((x.cells[key.toNat]'(by omega)).inn)+n))) rfl rfl rfl rfl) ?_;refine PS ?_
 refine bO (i:=0) (ab rfl) rfl rfl rfl rfl rfl aP rfl rfl (LB (ag _)) (Q4 x (key.toNat*7) (by omega) (by omega) (Je bP x.cells (i:=key.toNat) 0 (by omega) (by omega) (by decide) (CellT.set_inn _ rfl _))) rfl (nx J6 (sr λ_ J7=>FA 0 dT aP ?_));refine LT 0 Y3 (.int .i64 (x.version)) ?_ (hc:=by exact cf _ rfl);refine tp (cB (r:=(fx (x.version+1))) rfl rfl rfl rfl) ?_;refine FA 0 dT aP ?_;refine bO (i:=0) (ab rfl) rfl rfl rfl rfl rfl aP rfl rfl (LB (ag _)) (yf _ rfl _) rfl (nx J7 (sr λ_ J8=>LW 0 dT aX ag ?_));refine SW 1 aX ag ?_;refine PS ?_;refine nx J8 (aj (RT 1 [] dT aX (ag _) ?_));refine⟨?_,rfl⟩;rw[jJ,hcell,if_neg h23,eF,dif_pos hkb]
theorem Bp(x:RowT)(key n:Int)(hk:0≤key∧key<4)(hn:1≤n∧n≤1099511627776):
 DT 126 #[(.agg (ints x.flat).toArray),(.int .i64 (key)),(.int .i64 (n)),(.func (.func 128) #[] #[])] T0 [] (RI (.tuple #[.agg (ints (jJ x key n (cellAt x key).out {cellAt x key with out:=fx ((cellAt x key).out+n)}).1.flat).toArray, .int .i64 (jJ x key n (cellAt x key).out {cellAt x key with out:=fx ((cellAt x key).out+n)}).2]) []):=by
 refine BD 36 Tryz.func126 rfl rfl rfl λw0 F hF=>?_
 have hkb:m5 key=true:=decide_eq_true hk;have hcell:cellAt x key=x.cells[key.toNat]'(by omega):=by rw[cellAt,dif_pos hkb]
 refine sr λ_ J1=>XY (ints x.flat) λb4=>?_
 refine XZ u6 (ints RowT.zero.flat) λb8=>?_
 refine PS ?_;refine nx J1 (sr λ_ J2=>P2 ?_);refine FA 1 dT lX ?_;refine IX (1+key.toNat*7) B1 gL ?_;refine TL.callRv (ab rfl) rfl rfl rfl rfl Ph rfl (IH b4 (1+key.toNat*7) 51 (ints x.flat) x.cells[key.toNat].out (vX x (key.toNat*7+1) (by omega) (by omega) (n8 bP x.cells (i:=key.toNat) 1 (by omega) (by omega) (by decide) (y2 _ rfl)))) (λ_ s=>az [1] rfl s) (λ_ _ _=>trivial) (λvR HR hR=>?_);obtain⟨rfl,rfl⟩:=hR;refine P4 ?_;refine PS ?_;refine nx J2 (aa λ_ J3=>sr λ_ J4=>P2 ?_);refine tp (j8 (r:=(1099511627776-n)) rfl rfl rfl (bK (by omega) (by omega))) ?_;refine PS ?_;refine ap ?_ ?_<;>intro h23;refine nx J4 (CY (sr λ_ J5=>BV ((ints RowT.zero.flat).toArray) ?_));refine SW 1 aX ag ?_;refine PS ?_;refine nx J5 (aj (ae (RT 1 [] dT aX (ag _) ?_)));exact⟨by rw[jJ,hcell,if_pos h23],rfl⟩;refine nx J4 (CN (qx J3 (sr λ_ J6=>P2 ?_)));refine LT 0 Y3 (.int .i64 ((x.cells[key.toNat]'(by omega)).out)) ?_ (hc:=by exact vX x (key.toNat*7+1) (by omega) (by omega) (n8 bP x.cells (i:=key.toNat) 1 (by omega) (by omega) (by decide) (y2 (x.cells[key.toNat]'(by omega)) rfl)));refine PS ?_;refine tp (cB (r:=(fx (((x.cells[key.toNat]'(by omega)).out)+n))) rfl rfl rfl rfl) ?_;refine PS ?_
 refine bO (i:=0) (ab rfl) rfl rfl rfl rfl rfl aP rfl rfl (LB (ag _)) (Q4 x (key.toNat*7+1) (by omega) (by omega) (Je bP x.cells (i:=key.toNat) 1 (by omega) (by omega) (by decide) (CellT.set_out _ rfl _))) rfl (nx J6 (sr λ_ J7=>FA 0 dT aP ?_));refine LT 0 Y3 (.int .i64 (x.version)) ?_ (hc:=by exact cf _ rfl);refine tp (cB (r:=(fx (x.version+1))) rfl rfl rfl rfl) ?_;refine FA 0 dT aP ?_;refine bO (i:=0) (ab rfl) rfl rfl rfl rfl rfl aP rfl rfl (LB (ag _)) (yf _ rfl _) rfl (nx J7 (sr λ_ J8=>LW 0 dT aX ag ?_));refine SW 1 aX ag ?_;refine PS ?_;refine nx J8 (aj (RT 1 [] dT aX (ag _) ?_));refine⟨?_,rfl⟩;rw[jJ,hcell,if_neg h23,eF,dif_pos hkb]
theorem yB(x:RowT)(key n:Int)(hk:0≤key∧key<4)(hn:1≤n∧n≤1099511627776)(tb:Nat)(to':Int)(ht:0≤to'∧to'<5):
 DT 126 #[(.agg (ints x.flat).toArray),(.int .i64 (key)),(.int .i64 (n)),(.func (.func 130) #[] #[(.pointer (some ⟨tb,0,none⟩))])] T0 [ah tb [(.int .i64 (to'))] 3] (RI (.tuple #[.agg (ints (jJ x key n (sumG (cellAt x key)) (qK (cellAt x key) to' (fx (iB (cellAt x key) to'+n)))).1.flat).toArray, .int .i64 (jJ x key n (sumG (cellAt x key)) (qK (cellAt x key) to' (fx (iB (cellAt x key) to'+n)))).2]) [ah tb [.int .i64 to'] 3]):=by
 refine Leg.Does.body (vs:=[(.agg (ints x.flat).toArray),(.int .i64 (key)),(.int .i64 (n)),(.func (.func 130) #[] #[(.pointer (some ⟨tb,0,none⟩))])]) (n:=36) Tryz.func126 rfl rfl rfl (λw0 F hF=>?_);have hkb:m5 key=true:=decide_eq_true hk;have hcell:cellAt x key=x.cells[key.toNat]'(by omega):=by rw[cellAt,dif_pos hkb]
 have htb:cI to'=true:=decide_eq_true ht;refine sr λ_ J1=>?_
 refine TL.box (ab rfl) rfl rfl rfl rfl (λb4=>?_);change TL _ _ _ _ _ _ _ _ _ [ah b4 (ints x.flat) 51,ah tb [(.int .i64 (to'))] 3];refine qU (ab rfl) rfl rfl rfl u6 (λb8=>?_);change TL _ _ _ _ _ _ _ _ _ [ah b8 (ints RowT.zero.flat) 51,ah b4 (ints x.flat) 51,ah tb [(.int .i64 (to'))] 3];refine qb ?_;refine nx J1 ?_;refine sr λ_ J2=>?_
 refine mv ?_;refine mv ?_;refine tp (bc (r:=1) rfl dT rfl lX rfl rfl) ?_;refine tp (oo (r:=1+key.toNat*7) rfl B1 gL rfl rfl (by omega) (by omega) (by omega)) ?_;refine TL.callRv (ab rfl) rfl rfl rfl rfl Pg rfl (FL b4 (1+key.toNat*7) 51 tb (ints x.flat) x.cells[key.toNat].given to' ht (Es x (key.toNat*7+2) (by omega) (by omega) (ki bP x.cells (i:=key.toNat) 2 (by omega) (by omega) (by decide) (CellT.sub_given (x.cells[key.toNat]'(by omega)) 0 rfl (by decide) (bo (jq ((x.cells[key.toNat]'(by omega)).given))))))) (λ_ s=>az [1,1] rfl s) (λ_ _ _=>trivial) (λvR HR hR=>?_);obtain⟨rfl,rfl⟩:=hR;refine mv ?_;refine tp (iy (vs:=[(.int .i64 ((sumG (x.cells[key.toNat]'(by omega))))),(.pointer (some ⟨b4,1+key.toNat*7+2+to'.toNat,none⟩))]) rfl rfl rfl) ?_;refine tp (iy (vs:=[(.int .i64 ((sumG (x.cells[key.toNat]'(by omega))))),(.pointer (some ⟨b4,1+key.toNat*7+2+to'.toNat,none⟩))]) rfl rfl rfl) ?_;refine qb ?_;refine qb ?_;refine nx J2 ?_;refine aa λ_ J3=>?_
 refine sr λ_ J4=>?_
 refine mv ?_;refine mv ?_;refine tp (j8 (r:=(1099511627776-n)) rfl rfl rfl (bK (by omega) (by omega))) ?_;refine tp (PV.gtr rfl rfl rfl) ?_;refine ap (λh23=>?_) (λh23=>?_);refine nx J4 ?_;refine nZ rfl ?_;refine sr λ_ J5=>?_
 refine tp (kF (cells:=(ints RowT.zero.flat).toArray) rfl rfl (by as_aux_lemma=>kernel_rfl)) ?_;refine bL (vs:=ints RowT.zero.flat) (i:=2) (ab rfl) rfl rfl rfl rfl rfl (by rw[(ag RowT.zero)];exact aX) (bA _) rfl rfl (by have h0:=(ag RowT.zero);have h1:=(ag RowT.zero);omega) (ct ((ag RowT.zero).trans (ag RowT.zero).symm)) rfl ?_;refine qb ?_;refine nx J5 ?_;refine aj ?_;refine ae ?_;refine mm (H':=[ah tb [(.int .i64 (to'))] 3]) rfl rfl rfl dT rfl aX (fD 2 rfl rfl) (ag RowT.zero) (λ_ s=>ak [1] rfl s) ?_;exact⟨by rw[jJ,hcell,if_pos h23],rfl⟩;refine nx J4 ?_;refine Ha rfl ?_;refine aS ?_;refine ac J3 ?_;refine sr λ_ J6=>?_
 refine mv ?_;refine tp (gR rfl rfl) ?_;refine tp (ii (v:=(.int .i64 ((((x.cells[key.toNat]'(by omega)).given)[to'.toNat]'(by omega))))) rfl Y3 rfl rfl (fD 0 rfl rfl) (vX x (key.toNat*7+2+to'.toNat) (by omega) (by omega) (n8 bP x.cells (i:=key.toNat) (2+to'.toNat) (by omega) (by omega) (by omega) (PN (x.cells[key.toNat]'(by omega)) (to'.toNat) (by omega) (by omega) (kp ((x.cells[key.toNat]'(by omega)).given) (by omega)))))) ?_;refine mv ?_;refine tp (cB (r:=(fx ((((x.cells[key.toNat]'(by omega)).given)[to'.toNat]'(by omega))+n))) rfl rfl rfl rfl) ?_;refine tp (gR rfl rfl) ?_;refine bO (i:=0) (ab rfl) rfl rfl rfl rfl rfl aP rfl rfl (by have h0:=(ag x);omega) (Q4 x (key.toNat*7+2+to'.toNat) (by omega) (by omega) (Je bP x.cells (i:=key.toNat) (2+to'.toNat) (by omega) (by omega) (by omega) (CellT.st_given (x.cells[key.toNat]'(by omega)) (to'.toNat) (by omega) (by omega) (za ((x.cells[key.toNat]'(by omega)).given) (by omega) _)))) rfl ?_;refine nx J6 ?_;refine sr λ_ J7=>?_
 refine tp (bc (r:=0) rfl dT rfl aP rfl rfl) ?_;refine tp (ii (v:=(.int .i64 (x.version))) rfl Y3 rfl rfl (fD 0 rfl rfl) (cf (RowT.mk x.version (x.cells.set key.toNat (CellT.mk ((x.cells[key.toNat]'(by omega)).inn) ((x.cells[key.toNat]'(by omega)).out) (((x.cells[key.toNat]'(by omega)).given).set to'.toNat (fx ((((x.cells[key.toNat]'(by omega)).given)[to'.toNat]'(by omega))+n)) (by omega))) (by omega)) x.heir x.left) rfl)) ?_;refine tp (cB (r:=(fx (x.version+1))) rfl rfl rfl rfl) ?_;refine tp (bc (r:=0) rfl dT rfl aP rfl rfl) ?_;refine bO (i:=0) (ab rfl) rfl rfl rfl rfl rfl aP rfl rfl (by have h0:=(ag (RowT.mk x.version (x.cells.set key.toNat (CellT.mk ((x.cells[key.toNat]'(by omega)).inn) ((x.cells[key.toNat]'(by omega)).out) (((x.cells[key.toNat]'(by omega)).given).set to'.toNat (fx ((((x.cells[key.toNat]'(by omega)).given)[to'.toNat]'(by omega))+n)) (by omega))) (by omega)) x.heir x.left));omega) (yf (RowT.mk x.version (x.cells.set key.toNat (CellT.mk ((x.cells[key.toNat]'(by omega)).inn) ((x.cells[key.toNat]'(by omega)).out) (((x.cells[key.toNat]'(by omega)).given).set to'.toNat (fx ((((x.cells[key.toNat]'(by omega)).given)[to'.toNat]'(by omega))+n)) (by omega))) (by omega)) x.heir x.left) rfl _) rfl ?_;refine nx J7 ?_;refine sr λ_ J8=>?_
 refine tp (aM (vs:=ints (RowT.mk (fx (x.version+1)) (x.cells.set key.toNat (CellT.mk ((x.cells[key.toNat]'(by omega)).inn) ((x.cells[key.toNat]'(by omega)).out) (((x.cells[key.toNat]'(by omega)).given).set to'.toNat (fx ((((x.cells[key.toNat]'(by omega)).given)[to'.toNat]'(by omega))+n)) (by omega))) (by omega)) x.heir x.left).flat) rfl dT rfl aX rfl (fD 0 rfl rfl) (ag (RowT.mk (fx (x.version+1)) (x.cells.set key.toNat (CellT.mk ((x.cells[key.toNat]'(by omega)).inn) ((x.cells[key.toNat]'(by omega)).out) (((x.cells[key.toNat]'(by omega)).given).set to'.toNat (fx ((((x.cells[key.toNat]'(by omega)).given)[to'.toNat]'(by omega))+n)) (by omega))) (by omega)) x.heir x.left)) (bo (ag (RowT.mk (fx (x.version+1)) (x.cells.set key.toNat (CellT.mk ((x.cells[key.toNat]'(by omega)).inn) ((x.cells[key.toNat]'(by omega)).out) (((x.cells[key.toNat]'(by omega)).given).set to'.toNat (fx ((((x.cells[key.toNat]'(by omega)).given)[to'.toNat]'(by omega))+n)) (by omega))) (by omega)) x.heir x.left)))) ?_
 refine bL (vs:=ints (RowT.mk (fx (x.version+1)) (x.cells.set key.toNat (CellT.mk ((x.cells[key.toNat]'(by omega)).inn) ((x.cells[key.toNat]'(by omega)).out) (((x.cells[key.toNat]'(by omega)).given).set to'.toNat (fx ((((x.cells[key.toNat]'(by omega)).given)[to'.toNat]'(by omega))+n)) (by omega))) (by omega)) x.heir x.left).flat) (i:=2) (ab rfl) rfl rfl rfl rfl rfl (by rw[(ag (RowT.mk (fx (x.version+1)) (x.cells.set key.toNat (CellT.mk ((x.cells[key.toNat]'(by omega)).inn) ((x.cells[key.toNat]'(by omega)).out) (((x.cells[key.toNat]'(by omega)).given).set to'.toNat (fx ((((x.cells[key.toNat]'(by omega)).given)[to'.toNat]'(by omega))+n)) (by omega))) (by omega)) x.heir x.left))];exact aX) (bA _) rfl rfl (by have h0:=(ag RowT.zero);have h1:=(ag (RowT.mk (fx (x.version+1)) (x.cells.set key.toNat (CellT.mk ((x.cells[key.toNat]'(by omega)).inn) ((x.cells[key.toNat]'(by omega)).out) (((x.cells[key.toNat]'(by omega)).given).set to'.toNat (fx ((((x.cells[key.toNat]'(by omega)).given)[to'.toNat]'(by omega))+n)) (by omega))) (by omega)) x.heir x.left));omega) (ct ((ag RowT.zero).trans (ag (RowT.mk (fx (x.version+1)) (x.cells.set key.toNat (CellT.mk ((x.cells[key.toNat]'(by omega)).inn) ((x.cells[key.toNat]'(by omega)).out) (((x.cells[key.toNat]'(by omega)).given).set to'.toNat (fx ((((x.cells[key.toNat]'(by omega)).given)[to'.toNat]'(by omega))+n)) (by omega))) (by omega)) x.heir x.left)).symm)) rfl ?_;refine qb ?_;refine nx J8 ?_;refine aj ?_
 refine mm (H':=[ah tb [(.int .i64 (to'))] 3]) rfl rfl rfl dT rfl aX (fD 2 rfl rfl) (ag (RowT.mk (fx (x.version+1)) (x.cells.set key.toNat (CellT.mk ((x.cells[key.toNat]'(by omega)).inn) ((x.cells[key.toNat]'(by omega)).out) (((x.cells[key.toNat]'(by omega)).given).set to'.toNat (fx ((((x.cells[key.toNat]'(by omega)).given)[to'.toNat]'(by omega))+n)) (by omega))) (by omega)) x.heir x.left)) (λ_ s=>ak [1] rfl s) ?_;refine⟨?_,rfl⟩;rw[jJ,hcell,if_neg h23,eF,dif_pos hkb];simp[qK,iB,htb]
theorem Da(x:RowT)(key n:Int):
 DT 88 #[(.agg (ints x.flat).toArray),(.int .i64 (key)),(.int .i64 (n))] T0 [] (RI (.tuple #[.agg (ints (pk x key n).1.flat).toArray, .int .i64 (pk x key n).2]) []):=by
 refine BD 19 Tryz.func88 rfl rfl rfl λw0 F hF=>sr λ_ J1=>XY (ints x.flat) λb3=>?_
 refine XZ u6 (ints RowT.zero.flat) λb6=>?_
 refine PS ?_;refine nx J1 (aa λ_ J2=>sr λ_ J3=>P2 ?_);refine CE JQ (sy key n) ID ?_;refine bb ?_ ?_<;>intro h10;have hq:=h10;unfold tR m5 Do at hq;simp only[an,decide_eq_true_iff]at hq;have hk:0≤key∧key<4:=hq.1.1;have hn:1≤n∧n≤1099511627776:=⟨hq.1.2,hq.2.2⟩;refine PS ?_;refine nx J3 (CN (qx J2 (sr λ_ J4=>LW 1 dT aX ag ?_)));refine P2 ?_;refine CE JP (Bo x key n hk hn) ID ?_;refine P2 ?_;refine SW 0 aX ag ?_;refine PS ?_;refine nx J4 (aj (RT 0 [] dT aX (ag _) ?_));exact⟨by simp[pk, *],rfl⟩;refine PS ?_;refine nx J3 (CY (sr λ_ J5=>BV ((ints RowT.zero.flat).toArray) ?_));refine SW 0 aX ag ?_;refine PS ?_;refine nx J5 (aj (ae (RT 0 [] dT aX (ag _) ?_)));exact⟨by simp[pk, *],rfl⟩
theorem Db(x:RowT)(key n:Int):
 DT 89 #[(.agg (ints x.flat).toArray),(.int .i64 (key)),(.int .i64 (n))] T0 [] (RI (.tuple #[.agg (ints (pm x key n).1.flat).toArray, .int .i64 (pm x key n).2]) []):=by
 refine BD 19 Tryz.func89 rfl rfl rfl λw0 F hF=>sr λ_ J1=>XY (ints x.flat) λb3=>?_
 refine XZ u6 (ints RowT.zero.flat) λb6=>?_
 refine PS ?_;refine nx J1 (aa λ_ J2=>sr λ_ J3=>P2 ?_);refine CE JQ (sy key n) ID ?_;refine bb ?_ ?_<;>intro h10;have hq:=h10;unfold tR m5 Do at hq;simp only[an,decide_eq_true_iff]at hq;have hk:0≤key∧key<4:=hq.1.1;have hn:1≤n∧n≤1099511627776:=⟨hq.1.2,hq.2.2⟩;refine PS ?_;refine nx J3 (CN (qx J2 (sr λ_ J4=>LW 1 dT aX ag ?_)));refine P2 ?_;refine CE JP (Bp x key n hk hn) ID ?_;refine P2 ?_;refine SW 0 aX ag ?_;refine PS ?_;refine nx J4 (aj (RT 0 [] dT aX (ag _) ?_));exact⟨by simp[pm, *],rfl⟩;refine PS ?_;refine nx J3 (CY (sr λ_ J5=>BV ((ints RowT.zero.flat).toArray) ?_));refine SW 0 aX ag ?_;refine PS ?_;refine nx J5 (aj (ae (RT 0 [] dT aX (ag _) ?_)));exact⟨by simp[pm, *],rfl⟩
theorem A5(x:RowT)(key n to':Int):
 DT 90 #[(.agg (ints x.flat).toArray),(.int .i64 (key)),(.int .i64 (n)),(.int .i64 (to'))] T0 [] (RI (.tuple #[.agg (ints (lV x key n to').1.flat).toArray, .int .i64 (lV x key n to').2]) []):=by
 refine BD 27 Tryz.func90 rfl rfl rfl λw0 F hF=>sr λ_ J1=>XY (ints x.flat) λb4=>?_
 refine XB λb7=>?_
 refine XZ u6 (ints RowT.zero.flat) λb8=>?_
 refine PS ?_;refine nx J1 (aa λ_ J2=>sr λ_ J3=>LA 1 Y3 ?_);refine CE GK (kM to') ID ?_;refine bb ?_ ?_<;>intro h11;refine PS ?_;refine P3 ?_;refine CE JQ (sy key n) ID ?_;refine bb ?_ ?_<;>intro h16;have hq:=h16;unfold tR m5 Do at hq;simp only[an,decide_eq_true_iff]at hq;have hk:0≤key∧key<4:=hq.1.1;have hn:1≤n∧n≤1099511627776:=⟨hq.1.2,hq.2.2⟩;have ht:0≤to'∧to'<5:=of_decide_eq_true h11;refine PS ?_;refine PS ?_;refine nx J3 (CN (qx J2 (sr λ_ J4=>LW 2 dT aX ag ?_)));refine P2 ?_;refine tp (Rj rfl rfl) ?_;refine CE JP (yB x key n hk hn b7 to' ht) (SM [1]) ?_;refine P2 ?_;refine SW 1 aX ag ?_;refine PS ?_;refine nx J4 (aj (RT 1 [] dT aX (ag _) ?_));exact⟨by simp[lV, *],rfl⟩;refine PS ?_;refine PS ?_;refine nx J3 (CY (sr λ_ J5=>BV ((ints RowT.zero.flat).toArray) ?_));refine SW 0 aX ag ?_;refine PS ?_;refine nx J5 (aj (ae (RT 0 [] dT aX (ag _) ?_)));exact⟨by simp[lV, *],rfl⟩;refine PS ?_;refine PS ?_
 iterate 4 refine UT ?_
 refine PS ?_;refine nx J3 (CY (sr λ_ J6=>BV ((ints RowT.zero.flat).toArray) ?_));refine SW 0 aX ag ?_;refine PS ?_;refine nx J6 (aj (ae (RT 0 [] dT aX (ag _) ?_)));exact⟨by simp[lV, *],rfl⟩
theorem C9(x:RowT)(who:Int):
 DT 79 #[(.agg (ints x.flat).toArray),(.int .i64 (who))] T0 [] (dH (λr' H=>∃u,r'=u∧H=[own u (fX x who).length (ints (fX x who)) 3 1])):=by
 refine BD 27 Tryz.func79 rfl rfl rfl λw0 F hF=>sr λ_ J1=>XY (ints x.flat) λb2=>?_
 refine PS ?_;refine nx J1 (sr λ_ J2=>PS ?_);refine nx J2 (aa λ_ J3=>sr λ_ J4=>FA 29 dT gM ?_);refine tp (aM (vs:=ints x.heir.toList) rfl mS rfl gM rfl (RO 0) (jq x.heir) (Hc x 0 rfl (by decide) (bo (jq x.heir)))) ?_;refine PS ?_;refine nx J4 (aq ?_)
 refine bD (α:=(Nat)×(Value)) (λ⟨k,u⟩=>k≤5∧u.oneCell'=true) (λ⟨k,u⟩=>[(1,(.int .i64 (who))),(4,(.slice none 0 0)),(5,u),(9,(.agg (ints x.heir.toList).toArray)),(10,(.int .i64 (((k:Nat):Int))))]) (λ⟨k,u⟩=>[own u ((iM x who k).length) (ints (iM x who k)) 3 1]) (λ⟨k,u⟩=>5-k) (0,(.slice none 0 0))
  ⟨aO _,rfl⟩ SB
  (λ_ s=>ik 3 1 (ak [] rfl s)) (λ⟨k,u⟩ hinv=>?_)
 obtain⟨hk,hu⟩:=hinv;have hol:=zK x who k;refine sr λ_ J5=>PS ?_
 refine ap ?_ ?_<;>intro h11;refine nx J5 (aa λ_ J6=>CY (qx J6 (aa λ_ J7=>aq (sr λ_ J8=>PS ?_))));refine tp (p9 (cs:=ints x.heir.toList) (v:=Value.int .i64 (x.heir[k]'(by omega))) (r:=k) rfl mS Y3 rfl aP rfl rfl (by omega) (by omega) (by omega) (kp x.heir (by omega))) ?_;refine P2 ?_;refine nx J8 (sr λ_ J9=>P3 ?_);refine ap ?_ ?_<;>intro h16;refine PS ?_;refine UT ?_;refine UT ?_;refine PS ?_;refine nx J9 (CY (ad (P2 ?_)));refine aV (cells:=#[(.int .i64 (((k:Nat):Int)))]) (ab rfl) rfl rfl rfl km sn rfl rfl rfl (by as_aux_lemma=>kernel_rfl) (λb23=>cL (k:=1) (news:=[(.int .i64 (((k:Nat):Int)))]) (nn':=(iM x who k).length+1) (xs':=ints (iM x who k)++[(.int .i64 (((k:Nat):Int)))]) (ab rfl) rfl rfl rfl km sn rfl rfl rfl rfl rfl rfl (λ_ _=>j7 rfl (RO 0) rfl) (by simp[Value.oneCell']) (by simp only[maxLen];omega) (by omega) (by simp) (by simp) (λv24 ov24=>PS ?_));refine aw (af (ac J7 (ad (AD ?_))));refine PS ?_;refine aw ?_
 exact aL ((k+1,v24):(Nat)×(Value)) ⟨by omega,ov24⟩ (by show 5- (k+1)<5-k;omega)
  SB
  (λ_ s=>by
   show bz [own v24 (iM x who (k+1)).length (ints (iM x who (k+1))) 3 1] _;rw[show iM x who (k+1)=iM x who k++[((k:Nat):Int)]by rw[r9,if_pos (by rw[xp x who (by omega)];simp;omega)],ai,eI]
   exact ak [1] rfl s)
 refine P3 ?_;refine ap ?_ ?_<;>intro h19;refine PS ?_;refine nx J9 (CY (ad (P2 ?_)));refine aV (cells:=#[(.int .i64 (((k:Nat):Int)))]) (ab rfl) rfl rfl rfl km sn rfl rfl rfl (by as_aux_lemma=>kernel_rfl) (λb23=>cL (k:=1) (news:=[(.int .i64 (((k:Nat):Int)))]) (nn':=(iM x who k).length+1) (xs':=ints (iM x who k)++[(.int .i64 (((k:Nat):Int)))]) (ab rfl) rfl rfl rfl km sn rfl rfl rfl rfl rfl rfl (λ_ _=>j7 rfl (RO 0) rfl) (by simp[Value.oneCell']) (by simp only[maxLen];omega) (by omega) (by simp) (by simp) (λv24 ov24=>PS ?_));refine aw (af (ac J7 (ad (AD ?_))));refine PS ?_;refine aw ?_
 exact aL ((k+1,v24):(Nat)×(Value)) ⟨by omega,ov24⟩ (by show 5- (k+1)<5-k;omega)
  SB
  (λ_ s=>by
   show bz [own v24 (iM x who (k+1)).length (ints (iM x who (k+1))) 3 1] _;rw[show iM x who (k+1)=iM x who k++[((k:Nat):Int)]by rw[r9,if_pos (by rw[xp x who (by omega)];simp;omega)],ai,eI]
   exact ak [1] rfl s)
 refine PS ?_;refine nx J9 (CN (aS (af (ac J7 (ad (AD ?_))))));refine PS ?_;refine aw ?_
 exact aL ((k+1,u):(Nat)×(Value)) ⟨by omega,hu⟩ (by show 5- (k+1)<5-k;omega)
  SB
  (λ_ s=>by
   show bz [own u (iM x who (k+1)).length (ints (iM x who (k+1))) 3 1] _;rw[show iM x who (k+1)=iM x who k by rw[r9,if_neg (by rw[xp x who (by omega)];simp;omega),aW]]
   exact ak [0] rfl s)
 refine nx J5 (aa λ_ J10=>CN (bh (aC (aC (bC (ac J3 (sr λ_ J11=>P2 ?_)))))));refine nx J11 (aj (WK [0] (av rfl rfl ?_)));obtain rfl:k=5:=by omega
 exact⟨u,rfl,rfl⟩
theorem A6(x:RowT)(who of' key:Int):
 DT 114 #[(.agg (ints x.flat).toArray),(.int .i64 (who)),(.int .i64 (of')),(.int .i64 (key))] T0 [] (RI (.tuple #[.agg (ints (rowCell x who of' key).1.flat).toArray, .int .i64 (rowCell x who of' key).2]) []):=by
 refine BD 53 Tryz.func114 rfl rfl rfl λw0 F hF=>sr λ_ J1=>XY (ints x.flat) λb4=>?_
 refine XZ KT (ints CellT.zero.flat) λb8=>?_
 refine PS ?_;refine nx J1 (aa λ_ J2=>sr λ_ J3=>PS ?_);refine CE GK (kM who) ID ?_;refine bb ?_ ?_<;>intro h11;refine PS ?_;refine P2 ?_;refine CE GK (kM of') ID ?_;refine bb ?_ ?_<;>intro h15;refine PS ?_;refine P4 ?_;refine ap ?_ ?_<;>intro h20;have hkb:m5 key=false:=decide_eq_false (by omega);refine P2 ?_;refine UT ?_;refine UT ?_;refine PS ?_;refine nx J3 (CY (sr λ_ J4=>BV ((ints CellT.zero.flat).toArray) ?_));refine SW 0 gL bB ?_;refine PS ?_;refine nx J4 (aj (ae (RT 0 [] oi gL (bB _) ?_)));exact⟨by simp[rowCell, *],rfl⟩;refine P4 ?_;refine ap ?_ ?_<;>intro h24;have hkb:m5 key=false:=decide_eq_false (by omega);refine PS ?_;refine nx J3 (CY (sr λ_ J5=>BV ((ints CellT.zero.flat).toArray) ?_));refine SW 0 gL bB ?_;refine PS ?_;refine nx J5 (aj (ae (RT 0 [] oi gL (bB _) ?_)));exact⟨by simp[rowCell, *],rfl⟩;have hw:cI who=true:=by simpa using h11
 have ho:cI of'=true:=by simpa using h15
 have hw2:0≤who∧who<5:=of_decide_eq_true hw;have ho2:0≤of'∧of'<5:=of_decide_eq_true ho;have hkb:m5 key=true:=decide_eq_true ⟨by omega,by omega⟩;have e1:heirAt x of'=x.heir[of'.toNat]'(by omega):=by rw[heirAt,dif_pos ho]
 have e2:leftAt x of' key=(x.left[of'.toNat]'(by omega))[key.toNat]'(by omega):=by rw[leftAt,dif_pos ⟨ho,hkb⟩]
 have e3:cellAt x key=x.cells[key.toNat]'(by omega):=by rw[cellAt,dif_pos hkb]
 refine PS ?_;refine nx J3 (CN (qx J2 (aa λ_ J6=>sr λ_ J7=>P3 ?_)));refine ap ?_ ?_<;>intro h29;refine nx J7 (CY (aa λ_ J8=>D1 1 bl ?_));refine PD 0 ?_;refine FD 1 1 dT lX ?_;refine IY 2 (1+key.toNat*7) B1 gL ?_;refine ta 3 rfl (aM (vs:=ints (x.cells[key.toNat]'(by omega)).flat) rfl oi rfl gL rfl (λ_ h=>h.2.1) (bB (x.cells[key.toNat]'(by omega))) (Es x (key.toNat*7) (by omega) (by omega) (ki bP x.cells (i:=key.toNat) 0 (by omega) (by omega) (by decide) (bo (bB (x.cells[key.toNat]'(by omega))))))) ?_;refine FD 4 0 dT aP ?_;refine LR 5 Y3 (cf x rfl) ?_;refine AL 6 ?_;refine SW 0 gL bB ?_;refine EN (PD 7 ?_);refine DN (ac J8 (aj (ae (RT 0 [] oi gL (bB _) ?_))));exact⟨by simp[rowCell, *],rfl⟩;refine nx J7 (CN (qx J6 (aa λ_ J9=>sr λ_ J10=>PS ?_)));refine FA 29 dT gM ?_;refine IX (29+(of').toNat) mS aP ?_;refine LT 1 Y3 (.int .i64 ((x.heir[(of').toNat]'(by omega)))) ?_ (hc:=by exact sB x ((of').toNat) (by omega) (by omega) (kp x.heir (by omega)));refine PS ?_;refine ap ?_ ?_<;>intro h40;refine nx J10 (CY (aa λ_ J11=>D1 1 bl ?_));refine PD 0 ?_;refine PD 1 ?_;refine FD 2 34 dT Cl ?_;refine IY 3 (34+((of').toNat)*28) MX lX ?_;refine IY 4 (34+((of').toNat)*28+key.toNat*7) B1 gL ?_
 refine ta 5 rfl (aM (vs:=ints ((x.left[(of').toNat]'(by omega))[key.toNat]'(by omega)).flat) rfl oi rfl gL rfl (λ_ h=>h.2.1) (bB ((x.left[(of').toNat]'(by omega))[key.toNat]'(by omega))) (Hb x (((of').toNat)*28+key.toNat*7) (by omega) (by omega) (ki uh x.left (i:=(of').toNat) (key.toNat*7) (by omega) (by omega) (by omega) (ki bP (x.left[(of').toNat]'(by omega)) (i:=key.toNat) 0 (by omega) (by omega) (by decide) (bo (bB ((x.left[(of').toNat]'(by omega))[key.toNat]'(by omega)))))))) ?_;refine PD 6 ?_;refine FD 7 29 dT gM ?_;refine IY 8 (29+(of').toNat) mS aP ?_;refine LX 9 Y3 (.int .i64 ((x.heir[(of').toNat]'(by omega)))) ?_ (hc:=by exact sB x ((of').toNat) (by omega) (by omega) (kp x.heir (by omega)));refine ta 10 rfl (j8 (r:=(fx ((x.heir[(of').toNat]'(by omega))-1))) rfl rfl rfl rfl) ?_;refine AL 11 ?_;refine SW 0 gL bB ?_;refine EN (PD 12 ?_);refine DN (ac J11 (aj (ae (RT 0 [] oi gL (bB _) ?_))));exact⟨by simp[rowCell, *],rfl⟩;refine nx J10 (CN (qx J9 (sr λ_ J12=>BV ((ints CellT.zero.flat).toArray) ?_)));refine SW 0 gL bB ?_;refine PS ?_;refine nx J12 (aj (RT 0 [] oi gL (bB _) ?_));exact⟨by simp[rowCell, *],rfl⟩;refine PS ?_;refine P2 ?_;refine UT ?_;refine UT ?_;refine P2 ?_;refine UT ?_;refine UT ?_;refine PS ?_;refine nx J3 (CY (sr λ_ J13=>BV ((ints CellT.zero.flat).toArray) ?_));refine SW 0 gL bB ?_;refine PS ?_;refine nx J13 (aj (ae (RT 0 [] oi gL (bB _) ?_)));exact⟨by simp[rowCell, *],rfl⟩;refine PS ?_;refine PS ?_
 iterate 3 refine UT ?_
 refine P2 ?_;refine UT ?_;refine UT ?_;refine P2 ?_;refine UT ?_;refine UT ?_;refine PS ?_;refine nx J3 (CY (sr λ_ J14=>BV ((ints CellT.zero.flat).toArray) ?_));refine SW 0 gL bB ?_;refine PS ?_;refine nx J14 (aj (ae (RT 0 [] oi gL (bB _) ?_)));exact⟨by simp[rowCell, *],rfl⟩
theorem qh(who:Int):
 DT 15 #[(.int .i64 (who))] T0 [] (dH (λr' H=>∃u,r'=u∧H=[own u (ix who).length (ints (ix who)) 3 1])):=by
 refine BD 20 Tryz.func15 rfl rfl rfl λw0 F hF=>sr λ_ J1=>PS ?_
 refine nx J1 (aa λ_ J2=>sr λ_ J3=>PS ?_);refine CE JL (ko who) ID ?_;refine bb ?_ ?_<;>intro h6;have hm:0≤who∧who<5:=of_decide_eq_true h6;refine PS ?_;refine nx J3 (CN (qx J2 (sr λ_ J4=>PE 3 1 (λon=>?_))));clear on;refine PS ?_;refine nx J4 (aa λ_ J5=>sr λ_ J6=>PS ?_);refine nx J6 (aq (sE 3 (aa λ_ J7=>sr λ_ J8=>P2 ?_)));refine nx J8 (CY (qx J7 (aa λ_ J9=>aq (ad (P3 ?_)))));refine tp (cB (r:=(who+1)) rfl rfl rfl (bK (by omega) (by omega))) ?_;refine tp (PV.rem (r:=((who+1)%5)) rfl rfl rfl (by omega) (Gz (by omega))) ?_;refine aV (cells:=#[(.int .i64 (((who+1)%5)))]) (ab rfl) rfl rfl rfl km sn rfl rfl rfl (by as_aux_lemma=>kernel_rfl) (λb17=>cL (k:=1) (news:=[(.int .i64 (((who+1)%5)))]) (nn':=1) (xs':=[(.int .i64 (((who+1)%5)))]) (ab rfl) rfl rfl rfl km sn rfl rfl rfl rfl rfl rfl (λ_ _=>j7 rfl (RO 0) rfl) (by simp[Value.oneCell']) (by simp only[maxLen];omega) (by omega) (by simp) (by simp) (λv18 ov18=>PS ?_));refine aw (af (ac J9 (ad (PS ?_))));refine tp (cB (r:=2) rfl rfl rfl (by decide)) ?_;refine PS ?_;refine aw (eJ (aa λ_ J10=>sr λ_ J11=>P2 ?_));refine nx J11 (CY (qx J10 (aa λ_ J12=>aq (ad (P3 ?_)))));refine tp (cB (r:=(who+2)) rfl rfl rfl (bK (by omega) (by omega))) ?_;refine tp (PV.rem (r:=((who+2)%5)) rfl rfl rfl (by omega) (Gz (by omega))) ?_
 refine cr (H':=[own v18 (1) ([(.int .i64 (((who+1)%5)))]) 3 1]) (λ_ s=>ak [1] rfl s) (aV (cells:=#[(.int .i64 (((who+2)%5)))]) (ab rfl) rfl rfl rfl km sn rfl rfl rfl (by as_aux_lemma=>kernel_rfl) (λb17=>cL (k:=1) (news:=[(.int .i64 (((who+2)%5)))]) (nn':=1+1) (xs':=[(.int .i64 (((who+1)%5)))]++[(.int .i64 (((who+2)%5)))]) (ab rfl) rfl rfl rfl km sn rfl rfl rfl rfl rfl rfl (λ_ _=>j7 rfl (RO 0) rfl) (by simp[Value.oneCell']) (by simp only[maxLen];omega) (by omega) (by simp) (by simp) (λv18 ov18=>PS ?_)));refine aw (af (ac J12 (ad (PS ?_))));refine tp (cB (r:=3) rfl rfl rfl (by decide)) ?_;refine PS ?_;refine aw (eJ (aa λ_ J13=>sr λ_ J14=>P2 ?_));refine nx J14 (CN (bh (aC (aC (bC (ac J5 (sr λ_ J15=>P2 ?_)))))));refine nx J15 (aj (WK [1] (av rfl rfl ?_)));exact⟨_,rfl,by rw[ix,if_pos h6];rfl⟩;refine PS ?_;refine nx J3 (CY (sr λ_ J16=>PS ?_));refine nx J16 (aj (ae (aF (H':=[own (.slice none 0 0) 0 [] 3 1]) (dV _) (λ_ s=>ik 3 1 s) (av rfl rfl ?_))));exact⟨_,rfl,by rw[ix,if_neg (by simp[h6])];rfl⟩
theorem na(b off T:Nat)(cs:BookT→List Value)(hA:Arnd cs (λx=>ints x.flat) off)(B:BookT)(who:Int):
 DT 67 #[(.pointer (some ⟨b,off,none⟩)),(.int .i64 (who))] T0 [ah b (cs B) T] (RI (.agg (ints (cj B who).flat).toArray) [ah b (cs B) T]):=by
 refine BD 15 Tryz.func67 rfl rfl rfl λw0 F hF=>sr λ_ J1=>XZ u6 (ints RowT.zero.flat) λb4=>?_
 refine nx J1 (aa λ_ J2=>sr λ_ J3=>PS ?_);refine CE Nt (lR who) ID ?_;refine bb ?_ ?_<;>intro h6;have hm:0≤who∧who<5:=of_decide_eq_true h6;refine PS ?_;refine nx J3 (CN (qx J2 (sr λ_ J4=>P3 ?_)));refine tp (bc (r:=off) rfl PB rfl pX rfl rfl) ?_;refine IX (off+who.toNat*174) Av aX ?_;refine tp (aM (vs:=ints (B.rows[who.toNat]'(by omega)).flat) rfl dT rfl aX rfl (RO 1) (ag (B.rows[who.toNat]'(by omega))) (PT hA (j:=who.toNat*174) (by omega) (LB (yj _)) (PP B (who.toNat*174) (by omega) (by omega) (ki co B.rows (i:=who.toNat) 0 (by omega) (by omega) (by decide) (bo (ag (B.rows[who.toNat]'(by omega)))))))) ?_;refine SW 0 aX ag ?_;refine nx J4 (aj (RC 0 [1] dT aX (ag _) ?_));exact⟨by rw[cj,dif_pos h6],rfl⟩;refine PS ?_;refine nx J3 (CY (sr λ_ J5=>BV ((ints RowT.zero.flat).toArray) ?_));refine SW 0 aX ag ?_;refine nx J5 (aj (ae (RC 0 [1] dT aX (ag _) ?_)));exact⟨by rw[cj,dif_neg (by simp[h6])],rfl⟩
theorem nO(b off T:Nat)(cs:BookT→List Value)(hA:Arnd cs (λx=>ints x.flat) off)(B:BookT)(who:Int)(x:RowT)(hx:WF x.flat):
 DT 100 #[(.pointer (some ⟨b,off,none⟩)),(.int .i64 (who)),(.agg (ints x.flat).toArray)] T0 [ah b (cs B) T] (RI (.bool (eU B who x).2) [ah b (cs (eU B who x).1) T]):=by
 refine BD 33 Tryz.func100 rfl rfl rfl λw0 F hF=>sr λ_ J1=>XY (ints x.flat) λb5=>?_
 refine PS ?_;refine nx J1 (aa λ_ J2=>aa λ_ J3=>D2 0 1 bl ?_);refine PD 0 ?_;refine AL 1 ?_;refine CE Nt (lR who) ID ?_;refine bb ?_ ?_<;>intro h8;have hm:0≤who∧who<5:=of_decide_eq_true h8;have hrow:cj B who=B.rows[who.toNat]'(by omega):=by rw[cj,dif_pos h8]
 refine aw (E2 0 1 (PD 2 ?_));refine PD 3 ?_;refine LY 4 dT aX ag ?_;refine AL 5 ?_;refine CE Dt (ku x hx) ID ?_;refine bb ?_ ?_<;>intro h12;refine aw (E2 0 1 (PD 6 ?_));refine PD 7 ?_;refine PD 8 ?_;refine FD 9 0 dT aP ?_;refine LR 10 Y3 (cf x rfl) ?_;refine PD 11 ?_;refine PD 12 ?_;refine PD 13 ?_;refine tb 14 rfl (bc (r:=off) rfl PB rfl pX rfl rfl) ?_;refine IY 15 (off+who.toNat*174) Av aX ?_;refine tb 16 rfl (bc (r:=off+who.toNat*174) rfl dT rfl aP rfl rfl) ?_;refine LX 17 Y3 (.int .i64 ((B.rows[who.toNat]'(by omega)).version)) ?_ (hc:=by exact Arnd.at hA (j:=who.toNat*174) (by omega) (LB (yj _)) (BookT.pt_rows B (who.toNat*174) (by omega) (by omega) (n8 co B.rows (i:=who.toNat) 0 (by omega) (by omega) (by decide) (cf _ rfl))));refine PD 18 ?_;refine gS ?_ ?_<;>intro h25;refine PD 19 ?_;refine DN (ac J3 (CY (sr λ_ J4=>PS ?_)));refine nx J4 (aj (ae (WK [1] (av rfl rfl ?_))));have e:eU B who x=(B,false):=by rw[eU,if_neg (λh=>by simp only[an,decide_eq_true_iff]at h;rw[hrow]at h;omega)]
 exact⟨by rw[e],by rw[e];rfl⟩;refine PD 19 ?_;refine DN (ac J3 (CN (qx J2 (aa λ_ J5=>D1 0 bl ?_))));refine PD 0 ?_;refine PD 1 ?_;refine LY 2 dT aX ag ?_;refine PD 3 ?_;refine ta 4 rfl (bc (r:=off) rfl PB rfl pX rfl rfl) ?_;refine IY 5 (off+who.toNat*174) Av aX ?_;refine AL 6 ?_;refine bL (vs:=ints x.flat) (i:=1) (ab rfl) rfl rfl rfl rfl rfl (by rw[(ag x)];exact aX) (bA _) rfl rfl (by have h0:=(yj B);have h2:=Arnd.le hA B;have h1:=(ag x);omega) (Arnd.wr hA (x:=B) (x':=(BookT.mk (B.rows.set who.toNat x (by omega)))) (j:=who.toNat*174) (by omega) (LC (yj _) (ag _)) (BookT.wr_rows_ B (who.toNat*174) (by omega) (by have h1:=(ag x);omega) (u9 co B.rows (i:=who.toNat) 0 (by omega) (by omega) (by have h1:=(ag x);omega) (ct ((ag (B.rows[who.toNat]'(by omega))).trans (ag x).symm))))) rfl (aw (E1 0 (DN (ac J5 (sr λ_ J6=>PS ?_)))));refine nx J6 (aj (WK [1] (av rfl rfl ?_)));have e:eU B who x=(xk B who x,true):=by rw[eU,if_pos (by simp only[an,decide_eq_true_iff,hrow];exact⟨⟨h8,h12⟩,by omega⟩)]
 exact⟨by rw[e],by rw[e,xk,dif_pos h8];rfl⟩;refine aw (E2 0 1 (PD 6 ?_));refine PD 7 ?_;refine PD 8 ?_;refine NT 9 ?_;refine NT 10 ?_;refine NT 11 ?_;refine NT 12 ?_;refine NT 13 ?_;refine NT 14 ?_;refine NT 15 ?_;refine NT 16 ?_;refine NT 17 ?_;refine NT 18 ?_;refine PD 19 ?_;refine DN (ac J3 (CY (sr λ_ J7=>PS ?_)));refine nx J7 (aj (ae (WK [1] (av rfl rfl ?_))));have e:eU B who x=(B,false):=by rw[eU,if_neg (λh=>by simp only[an,decide_eq_true_iff]at h;rw[h12]at h;exact absurd h.1.2 (by decide))]
 exact⟨by rw[e],by rw[e];rfl⟩;refine aw (E2 0 1 (PD 2 ?_));refine PD 3 ?_;refine NT 4 ?_;refine NT 5 ?_;refine NT 6 ?_;refine PD 7 ?_;refine PD 8 ?_;refine NT 9 ?_;refine NT 10 ?_;refine NT 11 ?_;refine NT 12 ?_;refine NT 13 ?_;refine NT 14 ?_;refine NT 15 ?_;refine NT 16 ?_;refine NT 17 ?_;refine NT 18 ?_;refine PD 19 ?_;refine DN (ac J3 (CY (sr λ_ J8=>PS ?_)));refine nx J8 (aj (ae (WK [1] (av rfl rfl ?_))));have e:eU B who x=(B,false):=by rw[eU,if_neg (λh=>by simp only[an,decide_eq_true_iff]at h;rw[h8]at h;exact absurd h.1.1 (by decide))]
 exact⟨by rw[e],by rw[e];rfl⟩
theorem rK(b off T:Nat)(cs:BookT→List Value)(hA:Arnd cs (λx=>ints x.flat) off)(B:BookT)(of' key:Int):
 DT 78 #[(.pointer (some ⟨b,off,none⟩)),(.int .i64 (of')),(.int .i64 (key))] T0 [ah b (cs B) T] (RI (.agg (ints (cE B of' key).flat).toArray) [ah b (cs B) T]):=by
 refine BD 35 Tryz.func78 rfl rfl rfl λw0 F hF=>sr λ_ J1=>XZ KT (ints CellT.zero.flat) λb6=>?_
 refine nx J1 (sr λ_ J2=>XZ KT (ints CellT.zero.flat) λb7=>?_);refine nx J2 (sr λ_ J3=>PS ?_);refine nx J3 (aa λ_ J4=>sr λ_ J5=>PS ?_);refine nx J5 (aq ?_)
 refine bD (α:=(Nat)×(CellT)×(Int)) (λ⟨k,c,n⟩=>k≤5∧(c,n)=pJ B of' key k) (λ⟨k,c,n⟩=>[(0,(.pointer (some ⟨b,off,none⟩))),(1,(.int .i64 (of'))),(2,(.int .i64 (key))),(6,(.pointer (some ⟨b6,0,none⟩))),(7,(.pointer (some ⟨b7,0,none⟩))),(8,(.int .i64 (n))),(12,(.int .i64 (((k:Nat):Int))))]) (λ⟨k,c,n⟩=>[ah b7 (ints c.flat) 47,ah b6 (ints CellT.zero.flat) 47,ah b (cs B) T]) (λ⟨k,c,n⟩=>5-k) (0,CellT.zero, -1)
  ⟨aO _,rfl⟩ SB
  (λ_ s=>s) (λ⟨k,c,n⟩ hinv=>?_)
 obtain⟨hk,hc⟩:=hinv;refine sr λ_ J6=>PS ?_
 refine ap ?_ ?_<;>intro h13;refine nx J6 (aa λ_ J7=>CY (qx J7 (aa λ_ J8=>aq (sr λ_ J9=>P2 ?_))));refine nx J9 (sr λ_ J10=>P3 ?_);refine tp (bc (r:=off) rfl PB rfl pX rfl rfl) ?_;refine IX (off+k*174) Av aX ?_;refine tp (aM (vs:=ints (B.rows[k]'(by omega)).flat) rfl dT rfl aX rfl (RO 2) (ag (B.rows[k]'(by omega))) (PT hA (j:=k*174) (by omega) (LB (yj _)) (PP B (k*174) (by omega) (by omega) (ki co B.rows (i:=k) 0 (by omega) (by omega) (by decide) (bo (ag (B.rows[k]'(by omega)))))))) ?_;refine P3 ?_;refine CE Pj (A6 (B.rows[k]'(by omega)) ((k:Nat):Int) of' key) ID ?_;refine P3 ?_;refine XZ KT (ints CellT.zero.flat) λb10=>?_
 refine SW 0 gL bB ?_;refine PS ?_;refine nx J10 (sr λ_ J11=>P3 ?_);refine ap ?_ ?_<;>intro h30;refine nx J11 (CY (ad (LW 0 oi gL bB ?_)));refine PS ?_;refine SW 1 gL bB ?_;refine PS ?_;refine aw (af (ac J8 (ad (AD ?_))));refine PS ?_;refine aw ?_
 exact aL ((k+1,(rowCell (B.rows[k]'(by omega)) ((k:Nat):Int) of' key).1,(rowCell (B.rows[k]'(by omega)) ((k:Nat):Int) of' key).2):(Nat)×(CellT)×(Int)) ⟨by omega,by rw[og,←hc,qQ,x9 B (by omega)];simp[h30]⟩ (by show 5- (k+1)<5-k;omega)
  SB
  (λ_ s=>ak [1,1,1] rfl s)
 refine nx J11 (CN (aS (af (ac J8 (ad (AD ?_))))));refine PS ?_;refine aw ?_
 exact aL ((k+1,c,n):(Nat)×(CellT)×(Int)) ⟨by omega,by rw[og,←hc,qQ,x9 B (by omega)];simp[h30]⟩ (by show 5- (k+1)<5-k;omega)
  SB
  (λ_ s=>ak [1,1,1] rfl s)
 refine nx J6 (aa λ_ J12=>CN (bh (aC (aC (bC (ac J4 (sr λ_ J13=>LW 0 oi gL bB ?_)))))));refine SW 1 gL bB ?_;refine nx J13 (aj (RC 1 [2] oi gL (bB _) ?_));obtain rfl:k=5:=by omega
 exact⟨by rw[cE,←hc],rfl⟩
theorem qP(b off T:Nat)(cs:BookT→List Value)(hA:Arnd cs (λx=>ints x.flat) off)(B:BookT)(key:Int):
 DT 44 #[(.pointer (some ⟨b,off,none⟩)),(.int .i64 (key))] T0 [ah b (cs B) T] (RI (.int .i64 (ni B key)) [ah b (cs B) T]):=by
 refine BD 24 Tryz.func44 rfl rfl rfl λw0 F hF=>sr λ_ J1=>PS ?_
 refine nx J1 (sr λ_ J2=>PS ?_);refine nx J2 (aa λ_ J3=>sr λ_ J4=>PS ?_);refine nx J4 (aq ?_)
 refine bD (α:=(Nat)×(Int)) (λ⟨k,n⟩=>k≤5∧n=valueTo B key k) (λ⟨k,n⟩=>[(0,(.pointer (some ⟨b,off,none⟩))),(1,(.int .i64 (key))),(4,(.int .i64 0)),(5,(.int .i64 (n))),(8,(.int .i64 (((k:Nat):Int))))]) (λ⟨k,n⟩=>[ah b (cs B) T]) (λ⟨k,n⟩=>5-k) (0,0)
  ⟨aO _,rfl⟩ SB
  (λ_ s=>s) (λ⟨k,n⟩ hinv=>?_)
 obtain⟨hk,hc⟩:=hinv;refine sr λ_ J5=>PS ?_
 refine ap ?_ ?_<;>intro h9;refine nx J5 (aa λ_ J6=>CY (qx J6 (aa λ_ J7=>aq (sr λ_ J8=>P2 ?_))));refine nx J8 (sr λ_ J9=>P3 ?_);refine CE OJ (rK b off T cs hA B ((k:Nat):Int) key) ID ?_;refine XZ KT (ints CellT.zero.flat) λb7=>?_
 refine SW 0 gL bB ?_;refine nx J9 (ad (PS ?_));refine FA 0 oi aP ?_;refine LT 0 Y3 (.int .i64 ((cE B ((k:Nat):Int) key).inn)) ?_ (hc:=by exact y3 _ rfl);refine FA 1 oi aP ?_;refine LT 0 Y3 (.int .i64 ((cE B ((k:Nat):Int) key).out)) ?_ (hc:=by exact y2 _ rfl);refine tp (j8 (r:=(fx (((cE B ((k:Nat):Int) key).inn)- ((cE B ((k:Nat):Int) key).out)))) rfl rfl rfl rfl) ?_;refine tp (cB (r:=(fx (n+(fx (((cE B ((k:Nat):Int) key).inn)- ((cE B ((k:Nat):Int) key).out)))))) rfl rfl rfl rfl) ?_;refine PS ?_;refine aw (af (ac J7 (ad (AD ?_))));refine PS ?_;refine aw ?_
 exact aL ((k+1,(fx (n+(fx (((cE B ((k:Nat):Int) key).inn)- ((cE B ((k:Nat):Int) key).out)))))):(Nat)×(Int)) ⟨by omega,by rw[pd,←hc]⟩ (by show 5- (k+1)<5-k;omega)
  SB
  (λ_ s=>ak [1] rfl s)
 refine nx J5 (aa λ_ J10=>CN (bh (aC (aC (bC (ac J3 (sr λ_ J11=>P2 ?_)))))));refine nx J11 (aj (WK [0] (av rfl rfl ?_)));obtain rfl:k=5:=by omega
 exact⟨by rw[hc];rfl,rfl⟩
theorem mF(b off T:Nat)(cs:BookT→List Value)(hA:Arnd cs (λx=>ints x.flat) off)(B:BookT)(who key:Int):
    DT 43 #[(.pointer (some ⟨b,off,none⟩)),(.int .i64 (who)),(.int .i64 (key))] T0 [ah b (cs B) T] (RI (.int .i64 (dG B who key)) [ah b (cs B) T]):=by
 refine BD 71 Tryz.func43 rfl rfl rfl λw0 F hF=>sr λ_ J1=>PS ?_
 refine nx J1 (aa λ_ J2=>sr λ_ J3=>PS ?_);refine CE Nt (lR who) ID ?_;refine bb ?_ ?_<;>intro h14;have hm:0≤who∧who<5:=of_decide_eq_true h14;refine PS ?_;refine nx J3 (CN (qx J2 (sr λ_ J4=>XZ Qe (ints ((#v[CellT.zero,CellT.zero,CellT.zero,CellT.zero,CellT.zero]).toList.flatMap CellT.flat)) λb7=>?_)));refine nx J4 (aa λ_ J5=>sr λ_ J6=>PS ?_);refine nx J6 (aq ?_)
 refine bD (α:=(Nat)×(Vector CellT 5)) (λ⟨k,C⟩=>k≤5∧∀(j:Nat) (h:j<5),j<k→C[j]=cE B j key) (λ⟨k,C⟩=>[(0,(.pointer (some ⟨b,off,none⟩))),(1,(.int .i64 (who))),(2,(.int .i64 (key))),(6,(.int .i64 0)),(7,(.pointer (some ⟨b7,0,none⟩))),(16,(.int .i64 (((k:Nat):Int))))]) (λ⟨k,C⟩=>[ah b7 (ints (C.toList.flatMap CellT.flat)) 152,ah b (cs B) T]) (λ⟨k,C⟩=>5-k) (0, #v[CellT.zero,CellT.zero,CellT.zero,CellT.zero,CellT.zero])
     ⟨aO _,λj _ h=>absurd h (by omega)⟩ SB
     (λ_ s=>ak [0,0] rfl s) (λ⟨k,C⟩ hinv=>?_)
 obtain⟨hk,hC⟩:=hinv;refine sr λ_ J7=>PS ?_
 refine ap ?_ ?_<;>intro h17;refine nx J7 (aa λ_ J8=>CY (qx J8 (aa λ_ J9=>aq (sr λ_ J10=>P2 ?_))));refine nx J10 (ad (P4 ?_));refine CE OJ (rK b off T cs hA B ((k:Nat):Int) key) (SM [1]) ?_;refine IX (k*7) KH gL ?_;refine bL (vs:=ints (cE B ((k:Nat):Int) key).flat) (i:=1) (ab rfl) rfl rfl rfl rfl rfl (by rw[(bB (cE B ((k:Nat):Int) key))];exact gL) (bA _) rfl rfl (by have h0:=(La C);have h1:=(bB (cE B ((k:Nat):Int) key));omega) (u9 bP C (i:=k) 0 (by omega) (by omega) (by have h1:=(bB (cE B ((k:Nat):Int) key));omega) (ct ((bB (C[k]'(by omega))).trans (bB (cE B ((k:Nat):Int) key)).symm))) rfl (aw (af (ac J9 (ad (AD ?_)))));refine PS ?_;refine aw ?_
 exact aL ((k+1,(C.set k (cE B ((k:Nat):Int) key) (by omega))):(Nat)×(Vector CellT 5)) ⟨by omega,λj h hj=>by
        rw[Vector.getElem_set];split
        · subst_vars;rfl
        · exact hC j h (by omega)⟩ (by show 5- (k+1)<5-k;omega)
   SB
   (λ_ s=>ak [1,0] rfl s)
 refine nx J7 (aa λ_ J11=>CN (bh (aC (aC (bC (ac J5 (sr λ_ J12=>PS ?_)))))));refine nx J12 (aa λ_ J13=>sr λ_ J14=>P3 ?_);refine tp (bc (r:=off) rfl PB rfl pX rfl rfl) ?_;refine IX (off+who.toNat*174) Av aX ?_;refine tp (aM (vs:=ints (B.rows[who.toNat]'(by omega)).flat) rfl dT rfl aX rfl (RO 1) (ag (B.rows[who.toNat]'(by omega))) (PT hA (j:=who.toNat*174) (by omega) (LB (yj _)) (PP B (who.toNat*174) (by omega) (by omega) (ki co B.rows (i:=who.toNat) 0 (by omega) (by omega) (by decide) (bo (ag (B.rows[who.toNat]'(by omega)))))))) ?_;refine PS ?_;have hbr:B.rows[who.toNat]'(by omega)=cj B who:=by rw[cj,dif_pos h14]
 rw[hbr];refine CR QC (C9 (cj B who) who) ID λvR HR hR=>?_
 obtain⟨_,rfl,rfl⟩:=hR;revert vR;intro ul1;refine iZ 0 rfl rfl (λhlul1 houl1=>tp (eA rfl km rfl hlul1) ?_);refine PS ?_;refine nx J14 (aq ?_)
 refine bD (α:=(Nat)×(Int)) (λ⟨i,r⟩=>i≤(fX (cj B who) who).length∧r=((fX (cj B who) who).take i).foldl (lL B key) 0) (λ⟨i,r⟩=>[(0,(.pointer (some ⟨b,off,none⟩))),(6,(.int .i64 0)),(7,(.pointer (some ⟨b7,0,none⟩))),(9,(.int .i64 (r))),(33,ul1),(34,(.int .i64 ((((fX (cj B who) who).length:Nat):Int)))),(35,(.int .i64 (((i:Nat):Int))))]) (λ⟨i,r⟩=>[own ul1 ((fX (cj B who) who).length) (ints (fX (cj B who) who)) 3 1,ah b7 (ints (C.toList.flatMap CellT.flat)) 152,ah b (cs B) T]) (λ⟨i,r⟩=>(fX (cj B who) who).length-i) (0,0)
     ⟨aO _,rfl⟩ SB
     (λ_ s=>ak [0,0,0] rfl s) (λ⟨i,r⟩ hinv=>?_)
 obtain⟨hi,hr⟩:=hinv;have hE: ∀(j:Nat) (h:j<5),C[j]=cE B j key:=λj h=>hC j h (by omega)
 refine sr λ_ J15=>PS ?_
 refine ap ?_ ?_<;>intro h36;refine nx J15 (aa λ_ J16=>CY (qx J16 (aa λ_ J17=>aq (sr λ_ J18=>jh 0 rfl rfl (by omega) (λga capa hva hcapa=>?_)))));obtain⟨q,hq,hq5⟩: ∃q:Nat,(fX (cj B who) who)[i]=((q:Nat):Int)∧q<5:=by have:=Fe (cj B who) who _ (fc (show i< (fX (cj B who) who).length by omega));exact⟨(fX (cj B who) who)[i].toNat,by omega,by omega⟩
 have hE2:C[q]=cE B (fX (cj B who) who)[i] key:=by rw[hE q hq5,hq]
 refine tp (bT (r:=i) hva rfl km aP rfl rfl (by omega) (by omega) (by omega)) ?_;refine tp (cZ (v:=(.int .i64 (((q:Nat):Int)))) rfl Y3 rfl rfl (gq 0 rfl hva rfl) (by rw[←hq];simp[ints,show i< (fX (cj B who) who).length by omega])) ?_;refine PS ?_;refine nx J18 (aa λ_ J19=>D1 1 bl ?_);refine PD 0 ?_;refine PD 1 ?_;refine IY 2 (q*7) KH gL ?_;refine ta 3 rfl (bc (r:=q*7) rfl oi rfl aP rfl rfl) ?_;refine LX 4 Y3 (.int .i64 ((C[q]'(by omega)).inn)) ?_ (hc:=by exact n8 bP C (i:=q) 0 (by omega) (by omega) (by decide) (y3 _ rfl));refine PD 5 ?_;refine IY 6 (q*7) KH gL ?_;refine ta 7 rfl (bc (r:=q*7+1) rfl oi rfl aP rfl rfl) ?_;refine LX 8 Y3 (.int .i64 ((C[q]'(by omega)).out)) ?_ (hc:=by exact n8 bP C (i:=q) 1 (by omega) (by omega) (by decide) (y2 _ rfl));refine ta 9 rfl (j8 (r:=(fx (((C[q]'(by omega)).inn)- ((C[q]'(by omega)).out)))) rfl rfl rfl rfl) ?_;refine ta 10 rfl (cB (r:=(fx (r+(fx (((C[q]'(by omega)).inn)- ((C[q]'(by omega)).out)))))) rfl rfl rfl rfl) ?_;refine PD 11 ?_;refine DN (ac J19 (sr λ_ J20=>PS ?_));refine nx J20 (aq ?_)
 refine bD (α:=(Nat)×(Int)) (λ⟨o,r3⟩=>o≤5∧r3=rightsIn B key (fX (cj B who) who)[i] (fx (r+fx (C[q].inn-C[q].out))) o) (λ⟨o,r3⟩=>[(0,(.pointer (some ⟨b,off,none⟩))),(6,(.int .i64 0)),(7,(.pointer (some ⟨b7,0,none⟩))),(9,(.int .i64 (r3))),(11,(.int .i64 (((q:Nat):Int)))),(33,ul1),(34,(.int .i64 ((((fX (cj B who) who).length:Nat):Int)))),(35,(.int .i64 (((i:Nat):Int)))),(50,(.int .i64 (((o:Nat):Int))))]) (λ⟨o,r3⟩=>[own ul1 ((fX (cj B who) who).length) (ints (fX (cj B who) who)) 3 1,ah b7 (ints (C.toList.flatMap CellT.flat)) 152,ah b (cs B) T]) (λ⟨o,r3⟩=>5-o) (0,(fx (r+(fx (((C[q]'(by omega)).inn)- ((C[q]'(by omega)).out))))))
     ⟨aO _,rfl⟩ SB
     (λ_ s=>ak [0,0,0] rfl s) (λ⟨o,r3⟩ hinv=>?_)
 obtain⟨ho,hr3⟩:=hinv;refine sr λ_ J21=>PS ?_
 refine ap ?_ ?_<;>intro h51;refine nx J21 (aa λ_ J22=>CY (qx J22 (aa λ_ J23=>aq (sr λ_ J24=>P2 ?_))));refine nx J24 (D1 1 bl ?_);refine PD 0 ?_;refine PD 1 ?_;refine PD 2 ?_;refine IY 3 (o*7) KH gL ?_;refine ta 4 rfl (bc (r:=o*7+2) rfl oi rfl gM rfl rfl) ?_;refine IY 5 (o*7+2+q) mS aP ?_;refine LX 6 Y3 (.int .i64 ((((C[o]'(by omega)).given)[q]'(by omega)))) ?_ (hc:=by exact n8 bP C (i:=o) (2+q) (by omega) (by omega) (by omega) (PN (C[o]'(by omega)) q (by omega) (by omega) (kp ((C[o]'(by omega)).given) (by omega))));refine PD 7 ?_;refine PD 8 ?_;refine IY 9 (q*7) KH gL ?_;refine ta 10 rfl (bc (r:=q*7+2) rfl oi rfl gM rfl rfl) ?_;refine IY 11 (q*7+2+o) mS aP ?_;refine LX 12 Y3 (.int .i64 ((((C[q]'(by omega)).given)[o]'(by omega)))) ?_ (hc:=by exact n8 bP C (i:=q) (2+o) (by omega) (by omega) (by omega) (PN (C[q]'(by omega)) o (by omega) (by omega) (kp ((C[q]'(by omega)).given) (by omega))));refine ta 13 rfl (j8 (r:=(fx ((((C[o]'(by omega)).given)[q]'(by omega))- (((C[q]'(by omega)).given)[o]'(by omega))))) rfl rfl rfl rfl) ?_;refine ta 14 rfl (cB (r:=(fx (r3+(fx ((((C[o]'(by omega)).given)[q]'(by omega))- (((C[q]'(by omega)).given)[o]'(by omega))))))) rfl rfl rfl rfl) ?_;refine PD 15 ?_;refine DN (af (ac J23 (ad (AD ?_))));refine PS ?_;refine aw ?_
 exact aL ((o+1,(fx (r3+(fx ((((C[o]'(by omega)).given)[q]'(by omega))- (((C[q]'(by omega)).given)[o]'(by omega))))))):(Nat)×(Int)) ⟨by omega,by rw[ox,←hr3,xH _ (by omega),hq,xH _ hq5,←hE o (by omega),←hE q hq5]⟩ (by show 5- (o+1)<5-o;omega)
   SB
   (λ_ s=>ak [0,0,0] rfl s)
 refine nx J21 (aa λ_ J25=>CN (bh (aC (aC (bC (af (ac J17 (ad (AD ?_)))))))));refine PS ?_;refine aw ?_
 exact aL ((i+1,r3):(Nat)×(Int)) ⟨by omega,by
          have h5:o=5:=by omega
          rw[da (by omega),fk,←hr];show r3=lL B key r _
          rw[hr3,h5,lL,←hE2]⟩ (by show(fX (cj B who) who).length- (i+1)< (fX (cj B who) who).length-i;omega)
   SB
   (λ_ s=>ak [0,0,0] rfl s)
 refine nx J15 (aa λ_ J26=>CN (bh (aC (aC (bC (ac J13 (sr λ_ J27=>P2 ?_)))))));refine nx J27 (aj (WK [2] (av rfl rfl ?_)));obtain rfl:i=(fX (cj B who) who).length:=by omega
 exact⟨by rw[dG,if_pos h14,hr,kG],rfl⟩;refine PS ?_;refine nx J3 (CY (sr λ_ J28=>PS ?_));refine nx J28 (aj (ae (WK [0] (av rfl rfl ?_))));exact⟨by rw[dG,if_neg (by simp[h14])],rfl⟩
theorem l9(b off T:Nat)(cs:MirT→List Value)(hA:Arnd cs MirT.cells off)(M:MirT)(who:Int):
 DT 75 #[(.pointer (some ⟨b,off,none⟩)),(.int .i64 (who))] T0 [ah b (cs M) T] (RI (.agg (ints (mirRow M who).flat).toArray) [ah b (cs M) T]):=by
 refine BD 15 Tryz.func75 rfl rfl rfl λw0 F hF=>sr λ_ J1=>XZ u6 (ints RowT.zero.flat) λb4=>?_
 refine nx J1 (aa λ_ J2=>sr λ_ J3=>PS ?_);refine CE GL (iQ who) ID ?_;refine bb ?_ ?_<;>intro h6;have hm:0≤who∧who<5:=of_decide_eq_true h6;refine PS ?_;refine nx J3 (CN (qx J2 (sr λ_ J4=>P3 ?_)));refine tp (bc (r:=off) rfl NX rfl pX rfl rfl) ?_;refine IX (off+who.toNat*174) Av aX ?_;refine tp (aM (vs:=ints (M.rows[who.toNat]'(by omega)).flat) rfl dT rfl aX rfl (RO 1) (ag (M.rows[who.toNat]'(by omega))) (PT hA (j:=who.toNat*174) (by omega) (LB (qV _)) (MirT.sub_rows M (who.toNat*174) (by omega) (by omega) (ki co M.rows (i:=who.toNat) 0 (by omega) (by omega) (by decide) (bo (ag (M.rows[who.toNat]'(by omega)))))))) ?_;refine SW 0 aX ag ?_;refine nx J4 (aj (RC 0 [1] dT aX (ag _) ?_));exact⟨by rw[mirRow,dif_pos h6],rfl⟩;refine PS ?_;refine nx J3 (CY (sr λ_ J5=>BV ((ints RowT.zero.flat).toArray) ?_));refine SW 0 aX ag ?_;refine nx J5 (aj (ae (RC 0 [1] dT aX (ag _) ?_)));exact⟨by rw[mirRow,dif_neg (by simp[h6])],rfl⟩
theorem nJ(b off T:Nat)(cs:MirT→List Value)(hA:Arnd cs MirT.cells off)(M:MirT)(who:Int):
 DT 76 #[(.pointer (some ⟨b,off,none⟩)),(.int .i64 (who))] T0 [ah b (cs M) T] (RI (.bool (eS M who)) [ah b (cs M) T]):=by
 refine BD 15 Tryz.func76 rfl rfl rfl λw0 F hF=>sr λ_ J1=>PS ?_
 refine nx J1 (sr λ_ J2=>PS ?_);refine CE GL (iQ who) ID ?_;refine bb ?_ ?_<;>intro h6;have hm:0≤who∧who<5:=of_decide_eq_true h6;refine P4 ?_;refine tq (bc (r:=off+870) rfl NX rfl M7 rfl rfl) ?_;refine IX (off+870+who.toNat) Tryz.underlying83 lE ?_;refine LT 0 Y4 (.bool ((M.sealed[who.toNat]'(by omega)))) ?_ (hc:=by exact Arnd.at hA (j:=870+who.toNat) (by omega) (LB (qV _)) (MirT.pt_sealed M (who.toNat) (by omega) (by omega) (MB M.sealed (by omega))));refine P2 ?_;refine nx J2 (aj (WK [0] (av rfl rfl ?_)));exact⟨by simp[eS, *],rfl⟩;refine PS ?_
 iterate 6 refine UF ?_
 refine P2 ?_;refine nx J2 (aj (WK [0] (av rfl rfl ?_)));exact⟨by simp[eS, *],rfl⟩
theorem rB(b off T:Nat)(cs:MirT→List Value)(hA:Arnd cs MirT.cells off)(M:MirT)(who:Int)(x:RowT)(hx:WF x.flat):
 DT 124 #[(.pointer (some ⟨b,off,none⟩)),(.int .i64 (who)),(.agg (ints x.flat).toArray)] T0 [ah b (cs M) T] (RI (.bool (gX M who x)) [ah b (cs M) T]):=by
 refine BD 34 Tryz.func124 rfl rfl rfl λw0 F hF=>sr λ_ J1=>XY (ints x.flat) λb5=>?_
 refine PS ?_;refine nx J1 (aa λ_ J2=>D2 1 0 bl ?_);refine PD 0 ?_;refine AL 1 ?_;refine CE GL (iQ who) ID ?_;refine bb ?_ ?_<;>intro h8;have hm:0≤who∧who<5:=of_decide_eq_true h8;refine EN (PD 2 ?_);refine PD 3 ?_;refine PD 4 ?_;refine PD 5 ?_;refine tb 6 rfl (bc (r:=off+870) rfl NX rfl M7 rfl rfl) ?_;refine IY 7 (off+870+who.toNat) Tryz.underlying83 lE ?_;refine LX 8 Y4 (.bool ((M.sealed[who.toNat]'(by omega)))) ?_ (hc:=by exact Arnd.at hA (j:=870+who.toNat) (by omega) (LB (qV _)) (MirT.pt_sealed M (who.toNat) (by omega) (by omega) (MB M.sealed (by omega))));refine sA ?_ ?_<;>intro h15;refine PD 9 ?_;refine PD 10 ?_;refine PD 11 ?_;refine NT 12 ?_;refine NT 13 ?_;refine PD 14 ?_;refine PD 15 ?_;refine NT 16 ?_;refine NT 17 ?_;refine NT 18 ?_;refine NT 19 ?_;refine NT 20 ?_;refine NT 21 ?_;refine NT 22 ?_;refine NT 23 ?_;refine NT 24 ?_;refine NT 25 ?_;refine PD 26 ?_;refine PD 27 ?_;refine DN (ac J2 (aj (WK [1] (av rfl rfl ?_))));exact⟨by simp[gX,eS,mirRow, *],rfl⟩;refine PD 9 ?_;refine PD 10 ?_;refine PD 11 ?_;refine LY 12 dT aX ag ?_;refine AL 13 ?_;refine CE Dt (ku x hx) ID ?_;refine bb ?_ ?_<;>intro h20;refine EN (PD 14 ?_);refine PD 15 ?_;refine FD 16 0 dT aP ?_;refine LR 17 Y3 (cf x rfl) ?_;refine PD 18 ?_;refine PD 19 ?_;refine PD 20 ?_;refine tb 21 rfl (bc (r:=off) rfl NX rfl pX rfl rfl) ?_;refine IY 22 (off+who.toNat*174) Av aX ?_;refine tb 23 rfl (bc (r:=off+who.toNat*174) rfl dT rfl aP rfl rfl) ?_
 refine LX 24 Y3 (.int .i64 ((M.rows[who.toNat]'(by omega)).version)) ?_ (hc:=by exact Arnd.at hA (j:=who.toNat*174) (by omega) (LB (qV _)) (MirT.pt_rows M (who.toNat*174) (by omega) (by omega) (n8 co M.rows (i:=who.toNat) 0 (by omega) (by omega) (by decide) (cf _ rfl))));refine PD 25 ?_;refine PD 26 ?_;refine PD 27 ?_;refine DN (ac J2 (aj (WK [1] (av rfl rfl ?_))));exact⟨by simp[gX,eS,mirRow, *],rfl⟩;refine EN (PD 14 ?_);refine PD 15 ?_;refine NT 16 ?_;refine NT 17 ?_;refine NT 18 ?_;refine NT 19 ?_;refine NT 20 ?_;refine NT 21 ?_;refine NT 22 ?_;refine NT 23 ?_;refine NT 24 ?_;refine NT 25 ?_;refine PD 26 ?_;refine PD 27 ?_;refine DN (ac J2 (aj (WK [1] (av rfl rfl ?_))));exact⟨by simp[gX,eS,mirRow, *],rfl⟩;refine EN (PD 2 ?_);refine NT 3 ?_;refine NT 4 ?_;refine NT 5 ?_;refine NT 6 ?_;refine NT 7 ?_;refine NT 8 ?_;refine NT 9 ?_;refine PD 10 ?_;refine PD 11 ?_;refine NT 12 ?_;refine NT 13 ?_;refine PD 14 ?_;refine PD 15 ?_;refine NT 16 ?_;refine NT 17 ?_;refine NT 18 ?_;refine NT 19 ?_;refine NT 20 ?_;refine NT 21 ?_;refine NT 22 ?_;refine NT 23 ?_;refine NT 24 ?_;refine NT 25 ?_;refine PD 26 ?_;refine PD 27 ?_;refine DN (ac J2 (aj (WK [1] (av rfl rfl ?_))));exact⟨by simp[gX,eS,mirRow, *],rfl⟩
theorem tB(b off T:Nat)(cs:MirT→List Value)(hA:Arnd cs MirT.cells off)(M:MirT)(who:Int)(x:RowT)(hx:WF x.flat):
 DT 86 #[(.pointer (some ⟨b,off,none⟩)),(.int .i64 (who)),(.agg (ints x.flat).toArray)] T0 [ah b (cs M) T] (RI (.bool (iz M who x).2) [ah b (cs (iz M who x).1) T]):=by
 refine BD 18 Tryz.func86 rfl rfl rfl λw0 F hF=>sr λ_ J1=>XY (ints x.flat) λb5=>?_
 refine PS ?_;refine nx J1 (aa λ_ J2=>sr λ_ J3=>P2 ?_);refine LW 0 dT aX ag ?_;refine CE MN (rB b off T cs hA M who x hx) (SM [1]) ?_;refine bb ?_ ?_<;>intro h10;have hm0:cI who=true:=by have:=h10;simp only[gX,an]at this;exact this.1.1.1
 have hm:0≤who∧who<5:=of_decide_eq_true hm0;refine PS ?_;refine nx J3 (CN (qx J2 (aa λ_ J4=>D1 1 bl ?_)));refine PD 0 ?_;refine PD 1 ?_;refine LY 2 dT aX ag ?_;refine PD 3 ?_;refine ta 4 rfl (bc (r:=off) rfl NX rfl pX rfl rfl) ?_;refine IY 5 (off+who.toNat*174) Av aX ?_;refine AL 6 ?_;refine bL (vs:=ints x.flat) (i:=0) (ab rfl) rfl rfl rfl rfl rfl (by rw[(ag x)];exact aX) (bA _) rfl rfl (by have h0:=(qV M);have h2:=Arnd.le hA M;have h1:=(ag x);omega) (Arnd.wr hA (x:=M) (x':=(MirT.mk (M.rows.set who.toNat x (by omega)) M.sealed)) (j:=who.toNat*174) (by omega) (LC (qV _) (ag _)) (MirT.wr_rows_ M (who.toNat*174) (by omega) (by have h1:=(ag x);omega) (u9 co M.rows (i:=who.toNat) 0 (by omega) (by omega) (by have h1:=(ag x);omega) (ct ((ag (M.rows[who.toNat]'(by omega))).trans (ag x).symm))))) rfl (aw (E1 1 (DN (ac J4 (sr λ_ J5=>PS ?_)))));refine nx J5 (aj (WK [0] (av rfl rfl ?_)));have e:iz M who x=(sc M who x,true):=by rw[iz,if_pos h10]
 exact⟨by rw[e],by rw[e,sc,dif_pos hm0];rfl⟩;refine PS ?_;refine nx J3 (CY (sr λ_ J6=>PS ?_));refine nx J6 (aj (ae (WK [0] (av rfl rfl ?_))));have e:iz M who x=(M,false):=by rw[iz,if_neg (by simp[h10])]
 exact⟨by rw[e],by rw[e];rfl⟩
theorem tA(b off T:Nat)(cs:MirT→List Value)(hA:Arnd cs MirT.cells off)(M:MirT)(who:Int):
 DT 87 #[(.pointer (some ⟨b,off,none⟩)),(.int .i64 (who))] T0 [ah b (cs M) T] (RI (.tuple #[.agg (ints (mirRow M who).flat).toArray, .bool (cI who)]) [ah b (cs (je M who)) T]):=by
 refine Leg.Does.body (vs:=[(.pointer (some ⟨b,off,none⟩)),(.int .i64 (who))]) (n:=21) Tryz.func87 rfl rfl rfl (λw0 F hF=>?_);refine sr λ_ J1=>?_
 refine qU (ab rfl) rfl rfl rfl u6 (λb4=>?_);change TL _ _ _ _ _ _ _ _ _ [ah b4 (ints RowT.zero.flat) 51,ah b (cs M) T];refine qb ?_;refine nx J1 ?_;clear J1;refine aa λ_ J2=>?_
 refine sr λ_ J3=>?_
 refine mv ?_;refine lC (ab rfl) rfl rfl rfl GL rfl (iQ who) (λ_ s=>s) (λ_ _ _=>trivial) (λvR HR hR=>?_);obtain⟨rfl,rfl⟩:=hR;refine bb (λh7=>?_) (λh7=>?_);have hm:0≤who∧who<5:=of_decide_eq_true h7;refine tp (nc (r:=false) rfl rfl rfl) ?_;refine nx J3 ?_;clear J3;refine Ha rfl ?_;refine aS ?_;refine ac J2 ?_;clear J2;refine sr λ_ J4=>?_
 refine mv ?_;refine mv ?_;refine tp (gR rfl rfl) ?_;refine tp (bc (r:=off+870) rfl NX rfl M7 rfl rfl) ?_;refine tp (oo (r:=off+870+who.toNat) rfl Tryz.underlying83 lE rfl rfl (by omega) (by omega) (by omega)) ?_;refine bO (i:=1) (ab rfl) rfl rfl rfl rfl rfl lE rfl rfl (by have h0:=(qV M);have h2:=Arnd.le hA M;omega) (Arnd.set hA (x:=M) (x':=(MirT.mk M.rows (M.sealed.set who.toNat true (by omega)))) (j:=870+who.toNat) (by omega) (by have h0:=(qV M);omega) (MirT.st_sealed M (who.toNat) (by omega) (by omega) (Oj M.sealed (by omega) _))) rfl ?_;refine nx J4 ?_;clear J4;refine sr λ_ J5=>?_
 refine mv ?_;refine mv ?_;refine tp (gR rfl rfl) ?_;refine tp (bc (r:=off) rfl NX rfl pX rfl rfl) ?_;refine tp (oo (r:=off+who.toNat*174) rfl Av aX rfl rfl (by omega) (by omega) (by omega)) ?_;refine tp (aM (vs:=ints (M.rows[who.toNat]'(by omega)).flat) rfl dT rfl aX rfl (fD 1 rfl rfl) (ag (M.rows[who.toNat]'(by omega))) (PT hA (j:=who.toNat*174) (by omega) (by have h0:=(qV (MirT.mk M.rows (M.sealed.set who.toNat true (by omega))));omega) (MirT.sub_rows (MirT.mk M.rows (M.sealed.set who.toNat true (by omega))) (who.toNat*174) (by omega) (by omega) (ki co M.rows (i:=who.toNat) 0 (by omega) (by omega) (by decide) (bo (ag (M.rows[who.toNat]'(by omega)))))))) ?_;refine bL (vs:=ints (M.rows[who.toNat]'(by omega)).flat) (i:=0) (ab rfl) rfl rfl rfl rfl rfl (by rw[(ag (M.rows[who.toNat]'(by omega)))];exact aX) (bA _) rfl rfl (by have h0:=(ag RowT.zero);have h1:=(ag (M.rows[who.toNat]'(by omega)));omega) (ct ((ag RowT.zero).trans (ag (M.rows[who.toNat]'(by omega))).symm)) rfl ?_;refine qb ?_;refine nx J5 ?_;clear J5;refine aj ?_;refine mm (H':=[ah b (cs (MirT.mk M.rows (M.sealed.set who.toNat true (by omega)))) T]) rfl rfl rfl dT rfl aX (fD 0 rfl rfl) (ag (M.rows[who.toNat]'(by omega))) (λ_ s=>ak [1] rfl s) ?_;exact⟨by simp[mirRow, *],by simp[je, *]⟩;refine tp (nc (r:=true) rfl rfl rfl) ?_;refine nx J3 ?_;clear J3;refine nZ rfl ?_;refine sr λ_ J6=>?_
 refine tp (kF (cells:=(ints RowT.zero.flat).toArray) rfl rfl (by as_aux_lemma=>kernel_rfl)) ?_;refine bL (vs:=ints RowT.zero.flat) (i:=0) (ab rfl) rfl rfl rfl rfl rfl (by rw[(ag RowT.zero)];exact aX) (bA _) rfl rfl (by have h0:=(ag RowT.zero);have h1:=(ag RowT.zero);omega) (ct ((ag RowT.zero).trans (ag RowT.zero).symm)) rfl ?_;refine qb ?_;refine nx J6 ?_;clear J6;refine aj ?_;refine ae ?_;clear J2;refine mm (H':=[ah b (cs M) T]) rfl rfl rfl dT rfl aX (fD 0 rfl rfl) (ag RowT.zero) (λ_ s=>ak [1] rfl s) ?_;exact⟨by simp[mirRow, *],by simp[je, *]⟩
end Go.Proofs.YtmcjhkbcmmddgaaGreat
end

section
namespace Api
open Go Leg Codec
def ee(k:Int):Bool:=decide (k=0∨k=2∨k=9)
def fg(k:Int):Bool:=decide (k=3∨k=6)
def cD:Ps (MsgT×Bool):=pb (fo 10) λk=>
 if ee k then pb (fo 5) λw=>pb th λx=>pr (⟨k,w,x,0,0, .zero, .zero, .zero, .zero⟩,fy x)
 else if k=1 then pb m3 λn=>pr (⟨k,0, .zero,n,0, .zero, .zero, .zero, .zero⟩,true)
 else if fg k then pb m3 λn=>pb js λb=>pr (⟨k,0, .zero,0,n,b, .zero, .zero, .zero⟩,true)
 else if k=4 then pb m3 λn=>pb js λb=>pb js λd=>pb kN λc=>pr (⟨k,0, .zero,0,n,b,d,c, .zero⟩,true)
 else if k=5 then pb m3 λn=>pb js λb=>pb kN λc=>pr (⟨k,0, .zero,0,n,b, .zero,c, .zero⟩,true)
 else if k=7 then pb lF λv=>pr (⟨k,0, .zero,0,0, .zero, .zero, .zero,v⟩,jB v)
 else if k=8 then pb (fo 5) λw=>pb lF λv=>pr (⟨k,w, .zero,0,0, .zero, .zero, .zero,v⟩,jB v)
 else pr (⟨k,0, .zero,0,0, .zero, .zero, .zero, .zero⟩,true)
def dy:Ps (RecT×Bool):=pb (fo 6) λk=>
 if k=0 then pb th λx=>pr (⟨k,0,x,0, .zero, .zero, .zero⟩,fy x)
 else if k=1 then pb (fo 5) λw=>pb th λx=>pr (⟨k,w,x,0, .zero, .zero, .zero⟩,fy x)
 else if k=2 then pb (fo 5) λw=>pr (⟨k,w, .zero,0, .zero, .zero, .zero⟩,true)
 else if k=3 then pb m3 λn=>pb js λb=>pr (⟨k,0, .zero,n,b, .zero, .zero⟩,true)
 else if k=4 then pb m3 λn=>pb js λb=>pb kN λc=>pr (⟨k,0, .zero,n,b,c, .zero⟩,true)
 else if k=5 then pb lF λv=>pr (⟨k,0, .zero,0, .zero, .zero,v⟩,jB v)
 else pr (⟨k,0, .zero,0, .zero, .zero, .zero⟩,true)
def ju(bs:List UInt8):MsgT×Int:=match cD bs with
 |some ((m,true),[])=>(m,0)
 |_=>(.zero,1)
def io(bs:List UInt8):RecT×Int:=match dy bs with
 |some ((m,true),[])=>(m,0)
 |_=>(.zero,1)
def cQ(m:MsgT):List UInt8:=
 if ee m.kind then bf [m.kind,m.whose]++im m.row
 else if m.kind=1 then bf [m.kind,m.version]
 else if fg m.kind then bf [m.kind,m.epoch]++bf m.ballot.flat
 else if m.kind=4 then bf [m.kind,m.epoch]++bf m.ballot.flat++bf m.had.flat++bf m.change.flat
 else if m.kind=5 then bf [m.kind,m.epoch]++bf m.ballot.flat++bf m.change.flat
 else if m.kind=7 then bf [m.kind]++bf m.view.flat
 else if m.kind=8 then bf [m.kind,m.whose]++bf m.view.flat
 else []
def eO(m:RecT):List UInt8:=
 if m.kind=0 then bf [m.kind]++im m.row
 else if m.kind=1 then bf [m.kind,m.whose]++im m.row
 else if m.kind=2 then bf [m.kind,m.whose]
 else if m.kind=3 then bf [m.kind,m.epoch]++bf m.ballot.flat
 else if m.kind=4 then bf [m.kind,m.epoch]++bf m.ballot.flat++bf m.change.flat
 else if m.kind=5 then bf [m.kind]++bf m.view.flat
 else []
theorem sM{v:ViewT}{bs r:List UInt8}(h:lF bs=some (v,r)):Rng v:=λi hi=>by
 have:=(oG h).1.2.2 i hi;exact⟨this.1,by omega⟩
theorem A4{x:RowT}{bs r:List UInt8}(h:th bs=some (x,r)):WF x.flat:=(tg h).1.wf
def Nm(n:Int):Prop:=0≤n∧n<9223372036854775808
def OkB(b:BallotT):Prop:=Nm b.round∧0≤b.who∧b.who<5
def OkC(c:ChangeT):Prop:=(0≤c.kind∧c.kind<2)∧(0≤c.who∧c.who<5)∧(0≤c.heir∧c.heir<5)
def OkV(v:ViewT):Prop:=Nm v.epoch∧(0≤v.members∧v.members<32)∧∀(i:Nat) (h:i<5),0≤v.heirs[i]∧v.heirs[i]<6
theorem lS{b:BallotT}(h:OkB b)(r:List UInt8):js (bf b.flat++r)=some (b,r):=by
 obtain⟨a,c⟩:=b;obtain⟨h1,h2,h3⟩:=h;replace h3:c<5:=h3;simp only[BallotT.flat,eT,fS,aE,aQ,js];rw[au (kV h1.1 h1.2 _),au (gy (n:=c) h2 h3 (by omega) _)];rfl
theorem sw{c:ChangeT}(h:OkC c)(r:List UInt8):kN (bf c.flat++r)=some (c,r):=by
 obtain⟨a,b,d⟩:=c;obtain⟨⟨h1,h2⟩,⟨h3,h4⟩,h5,h6⟩:=h;simp only at h1 h2 h3 h4 h5 h6;simp only[ChangeT.flat,eT,fS,aE,aQ,kN];rw[au (gy h1 h2 (by omega) _),au (gy h3 h4 (by omega) _),au (gy h5 h6 (by omega) _)];rfl
theorem wH{v:ViewT}(h:OkV v)(r:List UInt8):lF (bf v.flat++r)=some (v,r):=by
 obtain⟨i,o,g⟩:=v;obtain⟨h1,⟨h2,h3⟩,h4⟩:=h;replace h2:0≤o:=h2;replace h3:o<32:=h3;revert h4;refine Lb (p:=λg=>(∀(i_1:Nat) (h:i_1<5),0≤g[i_1]∧g[i_1]<6)→lF (bf (ViewT.flat ⟨i,o,g⟩)++r)=some (⟨i,o,g⟩,r)) (λa b c d e h4=>?_) g;have e0:=h4 0 (by omega);have e1:=h4 1 (by omega);have e2:=h4 2 (by omega);have e3:=h4 3 (by omega);have e4:=h4 4 (by omega);have s:=λn (h:0≤n∧n<6) r=>gy (n:=n) (lim:=6) h.1 h.2 (by omega) r
 simp only[ViewT.flat,Vector.toList_mk,eT,fS,aE,aQ,lF];rw[au (kV h1.1 h1.2 _),au (gy h2 h3 (by omega) _),au (s a e0 _),au (s b e1 _),au (s c e2 _),au (s d e3 _),au (s e e4 _)];rfl
def tu(m:MsgT):MsgT:=
 if ee m.kind then⟨m.kind,m.whose,m.row,0,0, .zero, .zero, .zero, .zero⟩
 else if m.kind=1 then⟨m.kind,0, .zero,m.version,0, .zero, .zero, .zero, .zero⟩
 else if fg m.kind then⟨m.kind,0, .zero,0,m.epoch,m.ballot, .zero, .zero, .zero⟩
 else if m.kind=4 then⟨m.kind,0, .zero,0,m.epoch,m.ballot,m.had,m.change, .zero⟩
 else if m.kind=5 then⟨m.kind,0, .zero,0,m.epoch,m.ballot, .zero,m.change, .zero⟩
 else if m.kind=7 then⟨m.kind,0, .zero,0,0, .zero, .zero, .zero,m.view⟩
 else⟨m.kind,m.whose, .zero,0,0, .zero, .zero, .zero,m.view⟩
def EA(m:MsgT):Bool:=if ee m.kind then fy m.row else if m.kind=7∨m.kind=8 then jB m.view else true
structure OkM(m:MsgT):Prop where
 kind:0≤m.kind∧m.kind<10
 whose:0≤m.whose∧m.whose<5
 row:TameR m.row
 version:Nm m.version
 epoch:Nm m.epoch
 ballot:OkB m.ballot
 had:OkB m.had
 change:OkC m.change
 view:OkV m.view
theorem L3{m:MsgT}(h:OkM m)(r:List UInt8):cD (cQ m++r)=some ((tu m,EA m),r):=by
 have hk:=h.kind;have k0:fo 10 (oz m.kind++r)=some (m.kind,r):=gy hk.1 hk.2 (by omega) r;have kk:=λr=>gy hk.1 hk.2 (show m.kind<9223372036854775808 by omega) r
 have kw:=λr=>gy h.whose.1 h.whose.2 (show m.whose<9223372036854775808 by have:=h.whose;omega) r
 have kv:=λr=>kV h.version.1 h.version.2 r
 have ke:=λr=>kV h.epoch.1 h.epoch.2 r
 unfold cD cQ tu EA
 by_cases c0:ee m.kind=true
 · simp only[if_pos c0,eT,fS,aE,aQ]
   rw[au (kk _)];simp only[if_pos c0];rw[au (kw _),au (xd h.row _)];rfl
 simp only[if_neg c0]
 by_cases c1:m.kind=1
 · have q: ¬(m.kind=7∨m.kind=8):=by omega
   simp only[if_pos c1,if_neg q,eT,fS,aE,aQ];rw[au (kk _)];simp only[if_neg c0,if_pos c1];rw[au (kv _)];rfl
 simp only[if_neg c1]
 by_cases c2:fg m.kind=true
 · have q: ¬(m.kind=7∨m.kind=8):=by have:=of_decide_eq_true c2;omega
   simp only[if_pos c2,if_neg q,eT,fS,aE,aQ];rw[au (kk _)];simp only[if_neg c0,if_neg c1,if_pos c2];rw[au (ke _),au (lS h.ballot _)];rfl
 simp only[if_neg c2]
 by_cases c3:m.kind=4
 · have q: ¬(m.kind=7∨m.kind=8):=by omega
   simp only[if_pos c3,if_neg q,eT,fS,aE,aQ];rw[au (kk _)];simp only[if_neg c0,if_neg c1,if_neg c2,if_pos c3];rw[au (ke _),au (lS h.ballot _),au (lS h.had _),au (sw h.change _)];rfl
 simp only[if_neg c3]
 by_cases c4:m.kind=5
 · have q: ¬(m.kind=7∨m.kind=8):=by omega
   simp only[if_pos c4,if_neg q,eT,fS,aE,aQ];rw[au (kk _)];simp only[if_neg c0,if_neg c1,if_neg c2,if_neg c3,if_pos c4];rw[au (ke _),au (lS h.ballot _),au (sw h.change _)];rfl
 simp only[if_neg c4]
 by_cases c5:m.kind=7
 · have q:m.kind=7∨m.kind=8:= .inl c5
   simp only[if_pos c5,if_pos q,eT,fS,aE,aQ];rw[au (kk _)];simp only[if_neg c0,if_neg c1,if_neg c2,if_neg c3,if_neg c4,if_pos c5];rw[au (wH h.view _)];rfl
 have c6:m.kind=8:=by
  have n0: ¬(m.kind=0∨m.kind=2∨m.kind=9):=λe=>c0 (decide_eq_true e)
  have n2: ¬(m.kind=3∨m.kind=6):=λe=>c2 (decide_eq_true e)
  omega
 have q:m.kind=7∨m.kind=8:= .inr c6;simp only[if_neg c5,if_pos c6,if_pos q,eT,fS,aE,aQ];rw[au (kk _)];simp only[if_neg c0,if_neg c1,if_neg c2,if_neg c3,if_neg c4,if_neg c5,if_pos c6];rw[au (kw _),au (wH h.view _)];rfl
theorem Kg(i:Nat)(hi:i<5):RowT.zero.heir[i]=0:=by match i,hi with|0,_|1,_|2,_|3,_|4,_=>rfl
theorem xV(k:Nat)(hk:k<4):RowT.zero.cells[k]=CellT.zero:=by match k,hk with|0,_|1,_|2,_|3,_=>rfl
theorem qJ(i:Nat)(hi:i<5):RowT.zero.left[i]=RowT.zero.cells:=by match i,hi with|0,_|1,_|2,_|3,_|4,_=>rfl
theorem tame_rzero:TameR RowT.zero:=⟨⟨by decide,by decide⟩,λk hk=>by rw[xV k hk];exact ui,λi hi=>by rw[Kg i hi];decide,λi k hi hk=>by rw[show RowT.zero.left[i][k]=RowT.zero.cells[k]from by rw[qJ i hi],xV k hk];exact ui,λi hi _=>by rw[qJ i hi,qJ 0 (by decide)]⟩
theorem FH{k:Int}(h: ¬ee k=true)(h2: ¬fg k=true):k≠0∧k≠2∧k≠9∧k≠3∧k≠6:=by
 have n0: ¬(k=0∨k=2∨k=9):=λe=>h (decide_eq_true e)
 have n2: ¬(k=3∨k=6):=λe=>h2 (decide_eq_true e)
 omega
theorem Pn{m:MsgT}{g:Bool}{bs r:List UInt8}(h:cD bs=some ((m,g),r)):bs=cQ m++r∧EA m=g∧(0≤m.kind∧m.kind<10)∧(0≤m.whose∧m.whose<5)∧TameR m.row:=by
 obtain⟨k,r1,h1,h2⟩:=bk h;clear h;obtain⟨k1,rfl⟩:=cU h1;have tz:=tame_rzero;have kz:(0:Int)≤0∧(0:Int)<5:=by omega
 by_cases c0:ee k=true
 · simp only[if_pos c0]at h2
   obtain⟨w,r2,h3,h4⟩:=bk h2;obtain⟨k3,rfl⟩:=cU h3;obtain⟨x,r3,h5,h6⟩:=bk h4;obtain⟨k5,rfl⟩:=tg h5;obtain⟨e,rfl⟩:=gj h6;injection e with e1 e2;subst e1;subst e2
   exact⟨by simp[cQ,c0,bf],by simp[EA,c0],⟨k1.1,k1.2.1⟩,⟨k3.1,k3.2.1⟩,k5⟩
 simp only[if_neg c0]at h2;have fin: ∀{m:MsgT} {bs':List UInt8},m.kind=k→oz k++bs'=cQ m++r→EA m=g→(0≤m.whose∧m.whose<5)→TameR m.row→oz k++bs'=cQ m++r∧EA m=g∧(0≤m.kind∧m.kind<10)∧(0≤m.whose∧m.whose<5)∧TameR m.row:=λe a b c d=>⟨a,b,by rw[e];exact⟨k1.1,k1.2.1⟩,c,d⟩
 by_cases c1:k=1
 · simp only[if_pos c1]at h2
   subst c1;obtain⟨n,r2,h3,h4⟩:=bk h2;obtain⟨_,_,rfl⟩:=iI h3;obtain⟨e,rfl⟩:=gj h4;injection e with e1 e2;subst e1;subst e2
   exact fin rfl (by simp[cQ,ee,fg,bf]) (by simp[EA,ee]) kz tz
 simp only[if_neg c1]at h2
 by_cases c2:fg k=true
 · simp only[if_pos c2]at h2
   obtain⟨n,r2,h3,h4⟩:=bk h2;obtain⟨_,_,rfl⟩:=iI h3;obtain⟨b,r3,h5,h6⟩:=bk h4;obtain⟨_,rfl⟩:=jR h5;obtain⟨e,rfl⟩:=gj h6;injection e with e1 e2;subst e1;subst e2
   have:=of_decide_eq_true c2;exact fin rfl (by simp[cQ,c0,c1,c2,bf]) (by simp[EA,c0];omega) kz tz
 simp only[if_neg c2]at h2
 by_cases c3:k=4
 · simp only[if_pos c3]at h2
   subst c3;obtain⟨n,r2,h3,h4⟩:=bk h2;obtain⟨_,_,rfl⟩:=iI h3;obtain⟨b,r3,h5,h6⟩:=bk h4;obtain⟨_,rfl⟩:=jR h5;obtain⟨d,r4,h7,h8⟩:=bk h6;obtain⟨_,rfl⟩:=jR h7;obtain⟨c,r5,h9,h10⟩:=bk h8;obtain⟨_,rfl⟩:=oe h9;obtain⟨e,rfl⟩:=gj h10;injection e with e1 e2;subst e1;subst e2
   exact fin rfl (by simp[cQ,ee,fg,bf]) (by simp[EA,ee]) kz tz
 simp only[if_neg c3]at h2
 by_cases c4:k=5
 · simp only[if_pos c4]at h2
   subst c4;obtain⟨n,r2,h3,h4⟩:=bk h2;obtain⟨_,_,rfl⟩:=iI h3;obtain⟨b,r3,h5,h6⟩:=bk h4;obtain⟨_,rfl⟩:=jR h5;obtain⟨c,r5,h9,h10⟩:=bk h6;obtain⟨_,rfl⟩:=oe h9;obtain⟨e,rfl⟩:=gj h10;injection e with e1 e2;subst e1;subst e2
   exact fin rfl (by simp[cQ,ee,fg,bf]) (by simp[EA,ee]) kz tz
 simp only[if_neg c4]at h2
 by_cases c5:k=7
 · simp only[if_pos c5]at h2
   subst c5;obtain⟨v,r3,h5,h6⟩:=bk h2;obtain⟨_,rfl⟩:=oG h5;obtain⟨e,rfl⟩:=gj h6;injection e with e1 e2;subst e1;subst e2
   exact fin rfl (by simp[cQ,ee,fg,bf]) (by simp[EA,ee]) kz tz
 simp only[if_neg c5]at h2;have c6:k=8:=by have:=FH c0 c2;omega
 simp only[if_pos c6]at h2;subst c6;obtain⟨w,r2,h3,h4⟩:=bk h2;obtain⟨k3,rfl⟩:=cU h3;obtain⟨v,r3,h5,h6⟩:=bk h4;obtain⟨_,rfl⟩:=oG h5;obtain⟨e,rfl⟩:=gj h6;injection e with e1 e2;subst e1;subst e2
 exact fin rfl (by simp[cQ,ee,fg,bf]) (by simp[EA,ee]) ⟨k3.1,k3.2.1⟩ tz
def pQ(m:RecT):RecT:=
 if m.kind=0 then⟨m.kind,0,m.row,0, .zero, .zero, .zero⟩
 else if m.kind=1 then⟨m.kind,m.whose,m.row,0, .zero, .zero, .zero⟩
 else if m.kind=2 then⟨m.kind,m.whose, .zero,0, .zero, .zero, .zero⟩
 else if m.kind=3 then⟨m.kind,0, .zero,m.epoch,m.ballot, .zero, .zero⟩
 else if m.kind=4 then⟨m.kind,0, .zero,m.epoch,m.ballot,m.change, .zero⟩
 else⟨m.kind,0, .zero,0, .zero, .zero,m.view⟩
def xq(m:RecT):Bool:=if m.kind=0∨m.kind=1 then fy m.row else if m.kind=5 then jB m.view else true
structure OkRc(m:RecT):Prop where
 kind:0≤m.kind∧m.kind<6
 whose:0≤m.whose∧m.whose<5
 row:TameR m.row
 epoch:Nm m.epoch
 ballot:OkB m.ballot
 change:OkC m.change
 view:OkV m.view
theorem LF{m:RecT}(h:OkRc m)(r:List UInt8):dy (eO m++r)=some ((pQ m,xq m),r):=by
 have hk:=h.kind;have kk:=λr=>gy hk.1 hk.2 (show m.kind<9223372036854775808 by omega) r
 have kw:=λr=>gy h.whose.1 h.whose.2 (show m.whose<9223372036854775808 by have:=h.whose;omega) r
 have ke:=λr=>kV h.epoch.1 h.epoch.2 r
 unfold dy eO pQ xq
 by_cases c0:m.kind=0
 · have q:m.kind=0∨m.kind=1:= .inl c0
   simp only[if_pos c0,if_pos q,eT,fS,aE,aQ];rw[au (kk _)];simp only[if_pos c0];rw[au (xd h.row _)];rfl
 simp only[if_neg c0]
 by_cases c1:m.kind=1
 · have q:m.kind=0∨m.kind=1:= .inr c1
   simp only[if_pos c1,if_pos q,eT,fS,aE,aQ];rw[au (kk _)];simp only[if_neg c0,if_pos c1];rw[au (kw _),au (xd h.row _)];rfl
 have q: ¬(m.kind=0∨m.kind=1):=by omega
 simp only[if_neg c1,if_neg q]
 by_cases c2:m.kind=2
 · have q: ¬m.kind=5:=by omega
   simp only[if_pos c2,if_neg q,eT,fS,aE,aQ];rw[au (kk _)];simp only[if_neg c0,if_neg c1,if_pos c2];rw[au (kw _)];rfl
 simp only[if_neg c2]
 by_cases c3:m.kind=3
 · have q: ¬m.kind=5:=by omega
   simp only[if_pos c3,if_neg q,eT,fS,aE,aQ];rw[au (kk _)];simp only[if_neg c0,if_neg c1,if_neg c2,if_pos c3];rw[au (ke _),au (lS h.ballot _)];rfl
 simp only[if_neg c3]
 by_cases c4:m.kind=4
 · have q: ¬m.kind=5:=by omega
   simp only[if_pos c4,if_neg q,eT,fS,aE,aQ];rw[au (kk _)];simp only[if_neg c0,if_neg c1,if_neg c2,if_neg c3,if_pos c4];rw[au (ke _),au (lS h.ballot _),au (sw h.change _)];rfl
 have c5:m.kind=5:=by omega
 simp only[if_neg c4,if_pos c5,eT,fS,aE,aQ];rw[au (kk _)];simp only[if_neg c0,if_neg c1,if_neg c2,if_neg c3,if_neg c4,if_pos c5];rw[au (wH h.view _)];rfl
theorem Df{m:RecT}{g:Bool}{bs r:List UInt8}(h:dy bs=some ((m,g),r)):bs=eO m++r∧xq m=g∧(0≤m.kind∧m.kind<6)∧(0≤m.whose∧m.whose<5)∧TameR m.row:=by
 obtain⟨k,r1,h1,h2⟩:=bk h;clear h;obtain⟨k1,rfl⟩:=cU h1;have tz:=tame_rzero;have kz:(0:Int)≤0∧(0:Int)<5:=by omega
 by_cases c0:k=0
 · simp only[if_pos c0]at h2
   subst c0;obtain⟨x,r3,h5,h6⟩:=bk h2;obtain⟨k5,rfl⟩:=tg h5;obtain⟨e,rfl⟩:=gj h6;injection e with e1 e2;subst e1;subst e2
   exact⟨by simp[eO,bf],by simp[xq],⟨k1.1,k1.2.1⟩,kz,k5⟩
 simp only[if_neg c0]at h2
 by_cases c1:k=1
 · simp only[if_pos c1]at h2
   subst c1;obtain⟨w,r2,h3,h4⟩:=bk h2;obtain⟨k3,rfl⟩:=cU h3;obtain⟨x,r3,h5,h6⟩:=bk h4;obtain⟨k5,rfl⟩:=tg h5;obtain⟨e,rfl⟩:=gj h6;injection e with e1 e2;subst e1;subst e2
   exact⟨by simp[eO,bf],by simp[xq],⟨k1.1,k1.2.1⟩,⟨k3.1,k3.2.1⟩,k5⟩
 simp only[if_neg c1]at h2
 by_cases c2:k=2
 · simp only[if_pos c2]at h2
   subst c2;obtain⟨w,r2,h3,h4⟩:=bk h2;obtain⟨k3,rfl⟩:=cU h3;obtain⟨e,rfl⟩:=gj h4;injection e with e1 e2;subst e1;subst e2
   exact⟨by simp[eO,bf],by simp[xq],⟨k1.1,k1.2.1⟩,⟨k3.1,k3.2.1⟩,tz⟩
 simp only[if_neg c2]at h2
 by_cases c3:k=3
 · simp only[if_pos c3]at h2
   subst c3;obtain⟨n,r2,h3,h4⟩:=bk h2;obtain⟨_,_,rfl⟩:=iI h3;obtain⟨b,r3,h5,h6⟩:=bk h4;obtain⟨_,rfl⟩:=jR h5;obtain⟨e,rfl⟩:=gj h6;injection e with e1 e2;subst e1;subst e2
   exact⟨by simp[eO,bf],by simp[xq],⟨k1.1,k1.2.1⟩,kz,tz⟩
 simp only[if_neg c3]at h2
 by_cases c4:k=4
 · simp only[if_pos c4]at h2
   subst c4;obtain⟨n,r2,h3,h4⟩:=bk h2;obtain⟨_,_,rfl⟩:=iI h3;obtain⟨b,r3,h5,h6⟩:=bk h4;obtain⟨_,rfl⟩:=jR h5;obtain⟨c,r5,h9,h10⟩:=bk h6;obtain⟨_,rfl⟩:=oe h9;obtain⟨e,rfl⟩:=gj h10;injection e with e1 e2;subst e1;subst e2
   exact⟨by simp[eO,bf],by simp[xq],⟨k1.1,k1.2.1⟩,kz,tz⟩
 simp only[if_neg c4]at h2;have c5:k=5:=by omega
 simp only[if_pos c5]at h2;subst c5;obtain⟨v,r3,h5,h6⟩:=bk h2;obtain⟨_,rfl⟩:=oG h5;obtain⟨e,rfl⟩:=gj h6;injection e with e1 e2;subst e1;subst e2
 exact⟨by simp[eO,bf],by simp[xq],⟨k1.1,k1.2.1⟩,kz,tz⟩
theorem Rng.zeros{v:ViewT}(h:v.heirs= #v[0,0,0,0,0]):Rng v:=λi hi=>by
 have:v.heirs[i]=0:=by
  rw[show v.heirs[i]=(#v[0,0,0,0,0]:Vector Int 5)[i]from by rw[h]]
  match i,hi with|0,_|1,_|2,_|3,_|4,_=>rfl
 omega
theorem Rng.zero:Rng ViewT.zero:=Rng.zeros rfl
theorem Rng.first:Rng firstV:=Rng.zeros rfl
def xe(x:RepT):MsgT:= {MsgT.zero with kind:=0,whose:=x.id,row:=x.own}
def pu(id:Int)(x:RowT):MsgT:= {MsgT.zero with kind:=2,whose:=id,row:=x}
def uY(k w:Int):Bool:=decide (k.fdiv (2^min w.toNat IntKind.i64.bits)%2=0)
def oa(x:RepT):List SaidT:=((ix x.id).filter λw=>uY x.kept w).map λw=>⟨w,xe x⟩
end Api
namespace Api
open Go Leg Codec
def fL(x:RepT)(o:OpT):RowT×Int:=
 if o.kind=0 then pk x.own o.key o.n else if o.kind=1 then pm x.own o.key o.n else if o.kind=2 then(if o.to'≠x.id then lV x.own o.key o.n o.to' else(.zero,5))else(.zero,5)
def kx(x:RepT)(o:OpT):RowT×Int×Int:=
 if iS x.view x.id=false then(.zero,0,9)else if m5 o.key=false then(.zero,0,5)else if o.kind=3 then(.zero,ni x.book o.key,0)else if x.busy then(.zero,0,8)
 else if(fL x o).2≠0 then(.zero,0,(fL x o).2)else if o.kind≠0∧dG x.book x.id o.key<o.n then(.zero,0,7)else((fL x o).1,0,0)
def e8(y:RowT):RecT:= {RecT.zero with kind:=0,row:=y}
end Api
namespace Api
open Go Leg Codec
end Api
namespace Api
open Go Leg Codec
end Api
namespace Api
open Go Leg Codec
end Api
namespace Api
open Go Leg Codec
end Api
end

section
namespace Leg
open Go
section
variable {P:Program} {w0:World} {F:Hl} {n:Nat} {ops:Array Oper} {Q:QQ} {D:List Deferred} {L:List (Nat×Value)} {H:List HP} {o:Oper} {l:List Oper} {d:Nat} {S:World→Prop}
def yh(P:Program)(t:TypeId)(rv:Value)(nm:String)(f:FuncId):Prop:=∀w,(method (P.types.size+Made.depth) t rv nm).run P w= .ok (f,rv) w
theorem TL.callI{recv:Operand}{nm:String}{t:TypeId}{rv:Value}{f:FuncId}{xs:Array Operand}{ts:Array TypeId}{vs:List Value}{R:Hl→Prop}{A B:List HP}{p:Value→List HP→Prop}(hw:Want n D ops o L)
 (ho:o.op= .call {callee:= .invoke recv nm,args:=xs,argTypes:=ts}) (hd:o.dst=some d) (hn:Nat.blt d n=true) (hr:cK L recv=some (.iface t rv)) (hm:yh P t rv nm f) (hf:Named P f) (hx:Bu L xs.toList=some vs)
 (sp:Does P f (rv::vs).toArray R A (dH p)) (hp: ∀h,bz H h→bz (A++B) h) (hR: ∀g,Dj g F→bz B g→R (jn g F))
 (hret: ∀v H',p v H'→TL P w0 F n ops Q l D ((d,v)::L) (H'++B)):TL P w0 F n ops Q (o::l) D L H:=
 TL.callw hw (λa w g=>by
  have e:xs.map a.eval=vs.toArray:=g.evals hx;have e2:a.eval recv= .iface t rv:=g.eval hr;have e3:=hm w
  simp[execOp,ho,resolve,invoke,callMethod,e,e2,e3,mY hf])
  sp hp hR (λv H' q a g w s m=>by rw[hd];exact hret v H' q _ w (g.put (lb hn) v) s m) (λ_ _ h=>h.elim) (λ_ h=>h)
theorem TE.retCTT{H':List HP}{fn:Func}{post:Ending→List HP→Prop}{t t' t2 ty e m b:Nat}{cs:List Value}{z:Nat×Nat}{dt:TypeDesc}{v' v2:Value}(hr:fn.results=#[.cell t ty, .tmp t', .tmp t2])(he:lk L t=some (.pointer (some ⟨b,0,none⟩)))(e':lk L t'=some v')(e2:lk L t2=some v2)
 (hu:P.underlying ty=some dt) (hp:dR dt=false) (hm:(P.info? ty).map (·.size)=some m) (hR:Rd (Sat H F) b (.cells cs.toArray e z)) (hl:cs.length=m) (hk: ∀h,bz H h→bz H' h)
 (h:post (.returned (.tuple #[.agg cs.toArray,v',v2])) H'):TE w0 F n (bodyPost P fn (jD post w0 F)) .ret [] L H:=λa w f s q=>by
 have h1:a.tmps.getD t undef= .pointer (some ⟨b,0,none⟩):=f.eval (x:= .tmp t) he;have h2:a.tmps.getD t' undef=v':=f.eval (x:= .tmp t') e';have h4:a.tmps.getD t2 undef=v2:=f.eval (x:= .tmp t2) e2
 have h3:(results fn a.tmps).run P w= .ok (.tuple #[.agg cs.toArray,v',v2]) w:=by
  have h1':a.tmps[t]?.getD undef= .pointer (some ⟨b,0,none⟩):=by simpa using h1
  have h2':a.tmps[t']?.getD undef=v':=by simpa using h2
  have h4':a.tmps[t2]?.getD undef=v2:=by simpa using h4
  simp[results,hr,h1',h2',h4',asAddr,run_loadVar_row w b e ty cs.toArray z dt (hR w q) hu (by cases dt<;>simp[dR]at hp ⊢) (by simp[hm,hl])]
 exact bodyPost_ret h3 f.2.1 ⟨s,H',q.mono hk,h⟩
theorem PV.ifaceNotNil{t t' u:TypeId}{x:Operand}{v:Value}{ms:Array (String×TypeId)}(ho:o.op= .binOp .neq t x (.const .nilIface) t')(ht:P.underlying t=some (.interface ms))(hx:cK L x=some (.iface u v)):PV P n D L S o (.bool true):=
 gT ho hx rfl λw=>by
  have:=rE (P:=P) (w:=w) 9999 (u:=u) (v:=v) ht;simp[eqGuard,binOp,Op.equal,Op.maxDepth,this]
end
theorem GV(i:Nat){v:Value}{l:List Int}{e:Nat}{B:List HP}{F:Hl}(hi:Nat.blt i B.length=true)(hH:B.getD i (λ_=>True)=own v l.length (Api.ints l) e 1): ∀g,Dj g F→bz B g→IsI .i64 v l (jn g F):=λg _ s=>by
 obtain⟨h1,h2,d',rfl,a,_⟩:=fm i (lb hi) s;rw[hH]at a;rcases a with⟨_,⟨h0,hn,_⟩| ⟨g,cap,cur,hv,hh,h3,h4,h5,h6⟩⟩
 · exact .inl ⟨h0,List.eq_nil_of_length_eq_zero hn⟩
 · refine .inr ⟨g,0,cap,cur.toList,e,(0,0),hv,h3,by simp only[maxLen]at h4;omega,iA (iA (by rw[hh];simp[sg])),λj hj=>?_⟩
   rw[gn]at h6;have e1:(cur.toList.take l.length)[j]?=some (.int .i64 (l.getD j 0)):=by rw[h6];exact Api.ints_get l j hj
   rw[List.getElem?_take,if_pos hj]at e1
   simpa using e1
variable {P:Program} {w0:World} {F:Hl} {n:Nat} {ops:Array Oper} {Q:QQ} {D:List Deferred} {L:List (Nat×Value)} {H:List HP} {d:Nat} {o:Oper} {l:List Oper}
theorem RU{fn:Func}{post:Ending→List HP→Prop}{t t' t2 ty e m b:Nat}{cs:List Value}{dt:TypeDesc}{v' v2:Value}(k:Nat)(is:List Nat)(hu:P.underlying ty=some dt)(hm:(P.info? ty).map (·.size)=some m)(hl:cs.length=m)(h:post (.returned (.tuple #[.agg cs.toArray,v',v2])) ((C3 H is).take is.length))(hr:fn.results=#[.cell t ty, .tmp t', .tmp t2]:=by exact rfl)(he:lk L t=some (.pointer (some ⟨b,0,none⟩)):=by exact rfl)(e':lk L t'=some v':=by exact rfl)(e2:lk L t2=some v2:=by exact rfl)(hp:dR dt=false:=by exact rfl)(hk:Nat.blt k H.length=true:=by exact rfl)(hH:H.getD k (λ_=>True)=ah b cs e:=by exact rfl)(hs:LK H.length is=true:=by exact rfl):TE w0 F n (bodyPost P fn (jD post w0 F)) .ret [] L H:=TE.retCTT hr he e' e2 hu hp hm (fD k hk hH) hl (λ_ s=>ak is hs s) h
end Leg
end

section
namespace Dsk
open Go Leg Codec Api
abbrev jt:=List UInt8
def zs:jt:=List.replicate 64 0
def C5(b:jt):Value:= .agg (ek b).toArray
abbrev fN:=List (Int×jt)
def gE(s:fN)(k:Int):jt:=match s with
 | []=>zs
 | (a,b)::s=>if k=a then b else gE s k
def oK(s:fN)(k:Int)(v:jt):fN:=match s with
 | []=>[(k,v)]
 | (a,b)::s=>if k=a then(a,v)::s else(a,b)::oK s k v
theorem Jm(s:fN)(k j:Int)(v:jt):gE (oK s k v) j=if j=k then v else gE s j:=by
 induction s with
 |nil=>simp[oK,gE]
 |cons p s ih=>
  obtain⟨a,b⟩:=p;simp only[oK]
  by_cases h:k=a
  · subst h
    rw[if_pos rfl]
    by_cases h2:j=k
    · simp[gE,h2]
    · simp[gE,h2]
  · rw[if_neg h]
    simp only[gE]
    by_cases h2:j=a
    · subst h2
      rw[if_pos rfl,if_pos rfl,if_neg (by omega)]
    · rw[if_neg h2,if_neg h2,ih]
def sj(s:fN):List (Int×Value):=s.map λp=>(p.1,C5 p.2)
theorem xE(s:fN)(k:Int):(Iq (sj s) k).getD (C5 zs)=C5 (gE s k):=by
 induction s with
 |nil=>rfl
 |cons p s ih=>
  obtain⟨a,b⟩:=p;simp only[sj,fb,Iq,gE]at ih ⊢;split
  · rfl
  · exact ih
theorem Kc(s:fN)(k:Int)(v:jt):vU (sj s) k (C5 v)=sj (oK s k v):=by
 induction s with
 |nil=>rfl
 |cons p s ih=>
  obtain⟨a,b⟩:=p;simp only[sj,fb,vU,oK]at ih ⊢;split
  · rfl
  · rw[ih];rfl
def df(p:Int×jt):List Value:= .int .i64 p.1::ek p.2
def dS(ws:fN):List Value:=ws.flatMap df
def eW(b:List UInt8):jt:=b++List.replicate (64-b.length) 0
theorem dN{b:List UInt8}(h:b.length≤64):(eW b).length=64:=by simp[eW];omega
def Whole(s:fN):Prop:=∀p∈s,p.2.length=64
theorem ci{p:Int×jt}(h:p.2.length=64):(df p).length=65:=by simp[df,ek,h]
theorem Hi{ws:fN}(h:Whole ws){k:Nat}(hk:k<ws.length):((dS ws).drop (k*65)).take 65=df ws[k]:=by
 induction ws generalizing k with
 |nil=>simp at hk
 |cons p ws ih=>
  have h1:=ci (h p (by simp));simp only[dS,db]at ih ⊢;cases k with
  |zero=>
   simp only[iK,be,o7];rw[cy (by omega),aD (by omega)]
  |succ k=>
   rw[ja,du (by omega),h1,show(k+1)*65-65=k*65 by omega,aQ]
   simpa using ih (λq hq=>h q (by simp[hq])) (by simpa using hk)
theorem cz{s:fN}(h:Whole s)(k:Int):(gE s k).length=64:=by
 induction s with
 |nil=>simp[gE,zs]
 |cons p s ih=>
  obtain⟨a,b⟩:=p;simp only[gE];split
  · exact h (a,b) (by simp)
  · exact ih λq hq=>h q (by simp[hq])
theorem Whole.put{s:fN}(h:Whole s)(k:Int){v:jt}(hv:v.length=64):Whole (oK s k v):=by
 induction s with
 |nil=>intro p hp;simp only[oK,fu]at hp;subst hp;exact hv
 |cons p s ih=>
  obtain⟨a,b⟩:=p;intro q hq;simp only[oK]at hq;split at hq
  · rcases cn.1 hq with rfl|hq
    · exact hv
    · exact h q (by simp[hq])
  · rcases cn.1 hq with rfl|hq
    · exact h (a,b) (by simp)
    · exact ih (λq hq=>h q (by simp[hq])) q hq
theorem Whole.add{s:fN}(h:Whole s)(k:Int){v:jt}(hv:v.length=64):Whole (s++[(k,v)]):=λp hp=>by
 rcases eY.1 hp with hp|hp
 · exact h p hp
 · simp only[fu]at hp;subst hp;exact hv
section
variable {P:Program} {n:Nat} {D:List Deferred} {L:List (Nat×Value)} {S:World→Prop} {o:Oper}
theorem PV.mapNil{t t' k e m:TypeId}{x y:Operand}(ho:o.op= .binOp .eql t x y t')(hu:P.underlying t=some (.map k e))(hx:cK L x=some (.map (some m)))(hy:cK L y=some (.map none)):PV P n D L S o (.bool false):=
 gT ho hx hy λw=>by
  have e:(Op.equal t (.map (some m)) (.map none)).run P w= .ok false w:=run_equalIn_map_nil w 9999 t k e (some m) hu;simp[eqGuard,binOp,e]
end
end Dsk
namespace Dsk
open Go Leg Codec Api
theorem AA{k:Int}{b:List UInt8}(h:b.length≤64):wr (.int .i64 k::ek zs) 1 ((ek b).take (min b.length 64))=df (k,eW b):=by
 have e:(ek b).take (min b.length 64)=ek b:=aD (by rw[aZ];omega);rw[e,wr,aZ]
 have e2:(Value.int IntKind.i64 k::ek zs).drop (1+b.length)=ek (List.replicate (64-b.length) 0):=by
  rw[show 1+b.length=b.length+1 by omega,iJ];rw[ek,ek,zs,←lD,List.drop_replicate]
 rw[e2];simp only[df,eW,ek,ec,List.take_succ_cons,List.take_zero,kI,aQ]
theorem Km(vs:List Value): ∀(j:Nat) (pre zeros:List Value),pre.length=j→zeros.length=vs.length→
 ((vs.zipIdx j).foldl (λ(cs:Array Value) (c,i)=>cs.setIfInBounds (0+i) c) (pre++zeros).toArray)=(pre++vs).toArray:=by
 induction vs with
 |nil=>intro j pre zeros _ h;rw[List.eq_nil_of_length_eq_zero h];rfl
 |cons v vs ih=>
  intro j pre zeros hp hz
  match zeros,hz with
  |z::zeros,hz=>
   rw[List.zipIdx_cons,List.foldl_cons]
   have e:(pre++z::zeros).toArray.setIfInBounds (0+j) v=((pre++[v])++zeros).toArray:=by
    rw[bq,List.setIfInBounds_toArray,gY _ _ (by omega),hp,yZ,bZ,aE];rfl
   simp only[e];rw[ih (j+1) (pre++[v]) zeros (by simp[hp]) (by simpa using hz),aE];rfl
theorem FN{zeros:Array Value}{vs:List Value}(h:zeros.size=vs.length):Instr.fill (λi=>some (i*vs.length,vs.length)) zeros [(0, .agg vs.toArray)]=some vs.toArray:=by
 have e:=Km vs 0 [] zeros.toList rfl (by simpa using h);simp only[aQ,Array.toArray_toList]at e;simp only[Instr.fill,Value.cells,List.size_toArray,iK,bq,ne_eq,not_true_eq_false,false_or,decide_false,Bool.false_or];rw[if_neg (by simp[h])];rw[←Array.foldl_toList,Array.toList_zipIdx];simp only[bq]at e;rw[e]
theorem m7{zeros:Array Value}{vs:List Value}{size:Nat}(h:vs.length=size)(hz:zeros.size=size):Instr.fill (λi=>some (i*size,size)) zeros [(0, .agg vs.toArray)]=some vs.toArray:=by
 subst h;exact FN hz
theorem jk(p:Int×jt): ∀u∈df p,u.oneCell'=true:=by
 intro u hu;rcases cn.1 hu with rfl|hu
 · rfl
 · exact fl _ u hu
end Dsk
namespace Leg
open Go
section
variable {P:Program} {w0:World} {F:Hl} {n:Nat} {ops:Array Oper} {Q:QQ} {D:List Deferred} {L:List (Nat×Value)} {H:List HP} {l:List Oper}
end
end Leg
namespace Dsk
open Go Leg Codec Api
def kZ(ws:fN)(k:Nat):Int×jt:=ws.getD k (0,zs)
theorem wD{ws:fN}{k:Nat}(hk:k<ws.length):kZ ws k=ws[k]:=by simp[kZ,List.getD_eq_getElem?_getD,hk]
theorem dW{ws:fN}(h:Whole ws){k:Nat}(hk:k<ws.length):(kZ ws k).2.length=64:=by rw[wD hk];exact h _ (fc hk)
theorem qZ{ws:fN}(h:Whole ws){k:Nat}(hk:k<ws.length):((dS ws).drop (k*65)).take 65=df (kZ ws k):=by rw[wD hk];exact Hi h hk
theorem Hk{ws:fN}(h:Whole ws){k:Nat}(hk:k<ws.length):(dS ws)[k*65]?=some (.int .i64 (kZ ws k).1):=by
 have e:=congrArg (λl:List Value=>l[0]?) (qZ h hk)
 simpa [df]using e
theorem Hj{ws:fN}(h:Whole ws){k:Nat}(hk:k<ws.length):((dS ws).drop (k*65+1)).take 64=ek (kZ ws k).2:=by
 have e:=congrArg (λl:List Value=>l.drop 1) (qZ h hk);simp only[o8,mr,df,iJ,be]at e;exact e
theorem wy{p:Int×jt}(h:p.2.length=64):((df p).drop 1).take 64=ek p.2:=by
 simp only[df,iJ,be];exact aD (by rw[aZ,h];exact aH _)
theorem Ca{p:Int×jt}{c:Nat}(h:p.2.length=64)(hc:c≤64):((df p).drop 1).take (min c 64)=(ek p.2).take c:=by
 simp only[df,iJ,be];congr 1;omega
theorem wI{l:List Value}{n:Nat}(h:l.length=n):(l.drop 0).take n=l:=by rw[be,aD (by omega)]
def DF(s ws:fN):Nat→fN
 |0=>s
 |k+1=>oK (DF s ws k) (kZ ws k).1 (kZ ws k).2
theorem Whole.lay{s ws:fN}(h:Whole s)(hw:Whole ws): ∀k,k≤ws.length→Whole (DF s ws k)
 |0,_=>h
 |k+1,hk=>(Whole.lay h hw k (by omega)).put _ (dW hw (by omega))
def sR(old new:jt)(c:Nat):jt:=new.take c++old.drop c
theorem q6{old new:jt}{c:Nat}(h1:old.length=64)(h2:new.length=64):(sR old new c).length=64:=by simp[sR];omega
def qN(n:Int):Nat:=(min (max n 0) 64).toNat
theorem Mh(n:Int):min (max n 0) 64=((qN n:Nat):Int):=by unfold qN;omega
theorem tN(n:Int):qN n≤64:=by unfold qN;omega
def nh(mask torn:Int)(c:Nat)(s:fN)(k:Nat)(p:Int×jt):fN:=
 if(k:Int)=torn then oK s p.1 (sR (gE s p.1) p.2 c)else if mask.fdiv (2^ (k%32))%2=1 then oK s p.1 p.2 else s
def nM(mask torn:Int)(c:Nat)(s ws:fN):Nat→fN
 |0=>s
 |k+1=>nh mask torn c (nM mask torn c s ws k) k (kZ ws k)
theorem Whole.crash{mask torn:Int}{c:Nat}{s ws:fN}(h:Whole s)(hw:Whole ws): ∀k,k≤ws.length→Whole (nM mask torn c s ws k)
 |0,_=>h
 |k+1,hk=>by
  have ih:=Whole.crash (mask:=mask) (torn:=torn) (c:=c) h hw k (by omega);simp only[nM,nh];split
  · exact ih.put _ (q6 (cz ih _) (dW hw (by omega)))
  · split
    · exact ih.put _ (dW hw (by omega))
    · exact ih
def jd(s ws:fN)(at':Int):Nat→jt
 |0=>gE s at'
 |k+1=>if(kZ ws k).1=at' then(kZ ws k).2 else jd s ws at' k
theorem zw{s ws:fN}(h:Whole s)(hw:Whole ws)(at':Int): ∀k,k≤ws.length→(jd s ws at' k).length=64
 |0,_=>cz h _
 |k+1,hk=>by
  simp only[jd];split
  · exact dW hw (by omega)
  · exact zw h hw at' k (by omega)
theorem HW{s ws:fN}{at':Int}{k:Nat}(h:(kZ ws k).1=at'):jd s ws at' (k+1)=(kZ ws k).2:=by simp[jd,h]
theorem Fi{s ws:fN}{at':Int}{k:Nat}(h:(kZ ws k).1≠at'):jd s ws at' (k+1)=jd s ws at' k:=by simp[jd,h]
theorem Hs{old new:jt}{c m:Nat}(hc:c≤64)(h1:old.length=64)(h2:new.length=64)(hm:m=c):wr (ek old) 0 (((ek new).take c).take m)=ek (sR old new c):=by
 subst hm;have:((ek new).take m).length=m:=by rw[bR,aZ];omega
 rw[aD (by omega),wr,this,List.take_zero,aQ,bq];simp[ek,sR,qf,lD]
structure DS where
 s:fN
 ws:fN
 ar:Bool
 lf:Int
 dn:Bool
structure DS.Ok(D:DS):Prop where
 s:Whole D.s
 ws:Whole D.ws
 lf:0≤D.lf∧D.lf≤9223372036854775807
def DS.new:DS:=⟨[],[],false,0,false⟩
def DS.arm(D:DS)(n:Int):DS:= {D with ar:=true,lf:=max n 0}
def DS.write(D:DS)(at':Int)(bs:List UInt8):Int×DS:=
 if at'<0∨2048≤at'∨64<bs.length then(5,D)
 else if D.dn=true∨(D.ar=true∧D.lf=0)then(4,{D with dn:=true})
 else(0,{D with ws:=D.ws++[(at',eW bs)],lf:=if D.ar=true then D.lf-1 else D.lf,dn:=false})
def DS.sync(D:DS):Int×DS:=if D.dn=true then(4,D)else(0,{D with s:=DF D.s D.ws D.ws.length,ws:=[]})
def DS.crash(D:DS)(mask torn n:Int):DS:=⟨nM mask torn (qN n) D.s D.ws D.ws.length,[],false,0,false⟩
def DS.read(D:DS)(at':Int):jt:=jd D.s D.ws at' D.ws.length
theorem nf:Whole []:=λ_ h=>absurd h (by simp)
theorem DS.new_ok:DS.new.Ok:=⟨nf,nf,⟨by decide,by decide⟩⟩
theorem DS.write_ok{D:DS}(h:D.Ok)(at':Int)(bs:List UInt8):(D.write at' bs).2.Ok:=by
 unfold DS.write;split
 · exact h
 · split
   · exact⟨h.s,h.ws,h.lf⟩
   · rename_i h1 h2
     refine⟨h.s,h.ws.add _ (dN (by omega)),?_⟩;have:=h.lf;show 0≤(if D.ar=true then D.lf-1 else D.lf)∧(if D.ar=true then D.lf-1 else D.lf)≤9223372036854775807;split<;>rename_i h3
     · have:D.lf≠0:=λq=>h2 (.inr ⟨h3,q⟩)
       exact⟨by omega,by omega⟩
     · exact this
theorem DS.sync_ok{D:DS}(h:D.Ok):D.sync.2.Ok:=by
 unfold DS.sync;split
 · exact h
 · exact⟨h.s.lay h.ws _ (aH _),nf,h.lf⟩
theorem DS.crash_ok{D:DS}(h:D.Ok)(mask torn n:Int):(D.crash mask torn n).Ok:=⟨h.s.crash h.ws _ (aH _),nf,⟨by simp[DS.crash],by simp[DS.crash]⟩⟩
theorem DS.read_len{D:DS}(h:D.Ok)(at':Int):(D.read at').length=64:=zw h.s h.ws _ _ (aH _)
abbrev mw:= @DS.read_len
theorem DS.write_ws{D:DS}{at':Int}{bs:List UInt8}:(D.write at' bs).2.ws.length≤D.ws.length+1:=by
 unfold DS.write;split
 · simp
 · split
   · simp
   · simp
abbrev Pv(DT WT:Nat)(d:Nat)(D:DS):HP:=pack λx:Nat×Value=>[ah d [.map (some x.1),x.2, .bool D.ar, .int .i64 D.lf, .bool D.dn] DT,jK x.1 (sj D.s),own x.2 D.ws.length (dS D.ws) WT 65]
end Dsk
end

section
namespace Go.Proofs.YtmcjhkbcmmddgaaGreat
open Go Leg Codec Api Dsk
theorem BA(d m:Nat)(wv:Value)(ar dn:Bool)(lf:Int):
 DT 45 #[(.pointer (some ⟨d,0,none⟩))] T0 [ah d [(.map (some m)),wv,(.bool (ar)),(.int .i64 (lf)),(.bool (dn))] 115] (RI (.bool dn) [ah d [(.map (some m)),wv,(.bool (ar)),(.int .i64 (lf)),(.bool (dn))] 115]):=by
 refine BD 7 Tryz.func45 rfl rfl rfl λw0 F hF=>sr λ_ J1=>PS ?_
 refine nx J1 (sr λ_ J2=>P2 ?_);refine FA 4 ig lE ?_;refine LA 0 Y4 ?_;refine PS ?_;exact nx J2 (aj (WK [0] (av rfl rfl ⟨rfl,rfl⟩)))
theorem D3(d m:Nat)(wv:Value)(ar dn:Bool)(lf n:Int):
 DT 30 #[(.pointer (some ⟨d,0,none⟩)),(.int .i64 (n))] T0 [ah d [(.map (some m)),wv,(.bool (ar)),(.int .i64 (lf)),(.bool (dn))] 115] (dH (λ_ H=>H=[ah d [(.map (some m)),wv,(.bool true),(.int .i64 ((max n 0))),(.bool (dn))] 115])):=by
 refine BD 12 Tryz.func30 rfl rfl rfl λw0 F hF=>ad (P3 ?_)
 refine tp (yW rfl rfl rfl) ?_;refine PS ?_;refine FA 2 ig lE ?_;refine S0 0 lE ?_;refine PS ?_;refine FA 3 ig aP ?_;refine S0 0 aP ?_;exact aw (WK [0] (bw rfl rfl))
theorem DZ:
 DT 24 #[] T0 [] (dH (λv H=>∃d m,v= .pointer (some ⟨d,0,none⟩)∧H=[ah d [(.map (some m)),(.slice none 0 0),(.bool false),(.int .i64 0),(.bool false)] 115,jK m ([])])):=by
 refine BD 4 Tryz.func24 rfl rfl rfl λw0 F hF=>sr λ_ J1=>PS ?_
 refine nx J1 (sr λ_ J2=>TL.makeMap (ab rfl) rfl rfl rfl (λm1=>BV #[(.map (some m1)),(.slice none 0 0),(.bool false),(.int .i64 0),(.bool false)] ?_));refine XB λb3=>?_
 refine PS ?_;exact nx J2 (aj (WK [0,0] (av rfl rfl ⟨b3,m1,rfl,rfl⟩)))
theorem By(d m:Nat)(wv:Value)(s:fN)(ar dn:Bool)(lf at':Int)(hs:Whole s):
 DT 39 #[(.pointer (some ⟨d,0,none⟩)),(.int .i64 (at'))] T0 [ah d [(.map (some m)),wv,(.bool (ar)),(.int .i64 (lf)),(.bool (dn))] 115,jK m (sj s)] (RI (C5 (gE s at')) [ah d [(.map (some m)),wv,(.bool (ar)),(.int .i64 (lf)),(.bool (dn))] 115,jK m (sj s)]):=by
 refine BD 11 Tryz.func39 rfl rfl rfl λw0 F hF=>sr λ_ J1=>XA M3 λb4=>?_
 refine nx J1 (sr λ_ J2=>P2 ?_);refine FA 0 ig Cm ?_;refine LA 1 yO ?_;refine PS ?_;refine tp (PV.lookup rfl yO Y3 M3 rfl rfl (RdM.own 2 rfl rfl) (xE _ _)) ?_;exact bL (vs:=ek (gE s at')) (i:=0) (ab rfl) rfl rfl rfl rfl rfl (by rw[aZ,cz hs];exact nY) (fl _) rfl rfl (by rw[aZ,cz hs];exact aH _) (gC (by rw[aZ,cz hs];rfl)) rfl (nx J2 (aj (TE.retC (H':=[ah d [(.map (some m)),wv,(.bool (ar)),(.int .i64 (lf)),(.bool (dn))] 115,jK m (sj s)]) rfl rfl BZ rfl nY (RO 0) (by rw[aZ];exact cz hs _) (λ_ s=>ak [1,1] rfl s) ⟨rfl,rfl⟩)))
theorem dA:Tryz.prog.follows .mixedOrders=true:=by kernel_rfl
theorem pF(d m:Nat)(wv:Value)(s:fN)(ar dn:Bool)(lf at':Int)(b:List UInt8)(hb:b.length=64):
 DT 73 #[(.pointer (some ⟨d,0,none⟩)),(.int .i64 (at')),(.agg (ek b).toArray)] T0 [ah d [(.map (some m)),wv,(.bool (ar)),(.int .i64 (lf)),(.bool (dn))] 115,jK m (sj s)] (dH (λ_ H=>H=[ah d [(.map (some m)),wv,(.bool (ar)),(.int .i64 (lf)),(.bool (dn))] 115,jK m (sj (oK s at' b))])):=by
 refine BD 21 Tryz.func73 rfl rfl rfl λw0 F hF=>sr λ_ J1=>XY (ek b) λb5=>?_
 refine nx J1 (aa λ_ J2=>sr λ_ J3=>P2 ?_);refine FA 0 ig Cm ?_;refine LA 1 yO ?_;refine tp (PV.mapNil rfl yO rfl rfl) ?_;refine nx J3 (CN (qx J2 (D2 1 0 dA ?_)));refine PD 0 ?_;refine PD 1 ?_;refine FD 2 0 ig Cm ?_;refine LX 3 yO (.map (some m)) ?_ (hc:=by exact rfl);refine PD 4 ?_;refine ta 5 rfl (aM (vs:=ek b) rfl BZ rfl nY rfl (λ_ h=>h.2.2.1) (by rw[aZ];exact hb) (by rw[be,aD (by rw[aZ,hb];exact aH _)])) ?_;refine AL 6 ?_;exact TL.mapUpdate (i:=2) (H':=[ah b5 (ek b) 98,ah d [(.map (some m)),wv,(.bool (ar)),(.int .i64 (lf)),(.bool (dn))] 115,jK m (sj (oK s at' b))]) (ab rfl) rfl rfl yO Y3 rfl rfl rfl rfl rfl (congrArg (λq=>List.set _ 2 (jK m q)) (Kc _ _ _)) (EN (DN (WK [1,1] (bw rfl rfl))))
theorem yG(d m:Nat)(wv:Value)(ws:fN)(ar dn:Bool)(lf at':Int)(x:Value)(bs:List UInt8)(hl:0≤lf∧lf≤9223372036854775807)(hw:ws.length≤1000000000):
 DT 40 #[(.pointer (some ⟨d,0,none⟩)),(.int .i64 (at')),x] (IsW x bs) [ah d [(.map (some m)),wv,(.bool (ar)),(.int .i64 (lf)),(.bool (dn))] 115,own wv (ws.length) (dS ws) 147 65] (dH (λv H=>if at'<0∨2048≤at'∨64<bs.length then v= .int .i64 5∧H=[ah d [(.map (some m)),wv,(.bool (ar)),(.int .i64 (lf)),(.bool (dn))] 115,own wv (ws.length) (dS ws) 147 65]else if dn=true∨(ar=true∧lf=0)then v= .int .i64 4∧H=[ah d [(.map (some m)),wv,(.bool (ar)),(.int .i64 (lf)),(.bool true)] 115,own wv (ws.length) (dS ws) 147 65]else v= .int .i64 0∧∃wv',H=[ah d [(.map (some m)),wv',(.bool (ar)),(.int .i64 ((if ar=true then lf-1 else lf))),(.bool false)] 115,own wv' ((ws++[(at',eW bs)]).length) (dS (ws++[(at',eW bs)])) 147 65])):=by
 refine BD 64 Tryz.func40 rfl rfl rfl λw0 F hF=>sr λ_ J1=>PS ?_
 refine nx J1 (aa λ_ J2=>sr λ_ J3=>P2 ?_);refine ap ?_ ?_<;>intro h9;refine PS ?_;refine UT ?_;refine UT ?_;refine P2 ?_
 iterate 3 refine UT ?_
 refine PS ?_;refine nx J3 (CY (sr λ_ J4=>PS ?_));refine nx J4 (aj (ae (WK [0,0] (av rfl rfl ?_))));show(if _ then _ else _)
 first
  | (rw[if_pos (by omega)];exact⟨rfl,rfl⟩)
  | (rw[if_neg (by omega),if_pos (by simp_all)];exact⟨rfl,by simp_all<;>rfl⟩)
  | (rw[if_neg (by omega),if_neg (by simp_all)];exact⟨rfl,v61,by simp_all<;>rfl⟩)
 refine P3 ?_;refine ap ?_ ?_<;>intro h12;refine P2 ?_
 iterate 3 refine UT ?_
 refine PS ?_;refine nx J3 (CY (sr λ_ J5=>PS ?_));refine nx J5 (aj (ae (WK [0,0] (av rfl rfl ?_))));show(if _ then _ else _)
 first
  | (rw[if_pos (by omega)];exact⟨rfl,rfl⟩)
  | (rw[if_neg (by omega),if_pos (by simp_all)];exact⟨rfl,by simp_all<;>rfl⟩)
  | (rw[if_neg (by omega),if_neg (by simp_all)];exact⟨rfl,v61,by simp_all<;>rfl⟩)
 refine P3 ?_;refine tq (eA rfl ia rfl hF.len) ?_;refine PS ?_;refine ap ?_ ?_<;>intro h17;refine PS ?_;refine nx J3 (CY (sr λ_ J6=>PS ?_));refine nx J6 (aj (ae (WK [0,0] (av rfl rfl ?_))));show(if _ then _ else _)
 first
  | (rw[if_pos (by omega)];exact⟨rfl,rfl⟩)
  | (rw[if_neg (by omega),if_pos (by simp_all)];exact⟨rfl,by simp_all<;>rfl⟩)
  | (rw[if_neg (by omega),if_neg (by simp_all)];exact⟨rfl,v61,by simp_all<;>rfl⟩)
 refine PS ?_;refine nx J3 (CN (qx J2 (aa λ_ J7=>sr λ_ J8=>P2 ?_)));refine FA 2 ig lE ?_;refine LA 0 Y4 ?_;refine bb ?_ ?_<;>intro h22;refine P3 ?_;refine FA 3 ig aP ?_;refine LA 0 Y3 ?_;refine PS ?_;refine ap ?_ ?_<;>intro h28;refine PS ?_;refine nx J8 (CY (ad (P2 ?_)));refine FA 4 ig lE ?_;refine S0 0 lE ?_;refine nx J7 (aa λ_ J9=>sr λ_ J10=>P2 ?_);refine FA 4 ig lE ?_;refine LA 0 Y4 ?_;refine nx J10 (CY (sr λ_ J11=>PS ?_));refine nx J11 (aj (ae (WK [0,0] (av rfl rfl ?_))));show(if _ then _ else _)
 first
  | (rw[if_pos (by omega)];exact⟨rfl,rfl⟩)
  | (rw[if_neg (by omega),if_pos (by simp_all)];exact⟨rfl,by simp_all<;>rfl⟩)
  | (rw[if_neg (by omega),if_neg (by simp_all)];exact⟨rfl,v61,by simp_all<;>rfl⟩)
 refine PS ?_;refine nx J8 (CN (qx J7 (aa λ_ J12=>sr λ_ J13=>P2 ?_)));refine FA 4 ig lE ?_;refine LA 0 Y4 ?_;refine bb ?_ ?_<;>intro h36;refine nx J13 (CY (sr λ_ J14=>PS ?_));refine nx J14 (aj (ae (WK [0,0] (av rfl rfl ?_))));show(if _ then _ else _)
 first
  | (rw[if_pos (by omega)];exact⟨rfl,rfl⟩)
  | (rw[if_neg (by omega),if_pos (by simp_all)];exact⟨rfl,by simp_all<;>rfl⟩)
  | (rw[if_neg (by omega),if_neg (by simp_all)];exact⟨rfl,v61,by simp_all<;>rfl⟩)
 refine nx J13 (CN (qx J12 (aa λ_ J15=>sr λ_ J16=>P2 ?_)));refine FA 2 ig lE ?_;refine LA 0 Y4 ?_;refine bb ?_ ?_<;>intro h40;refine nx J16 (CY (ad (P2 ?_)));refine FA 3 ig aP ?_;refine LA 0 Y3 ?_;refine tp (j8 rfl rfl rfl (bK (by omega) (by omega))) ?_;refine PS ?_;refine FA 3 ig aP ?_;refine S0 0 aP ?_;refine nx J15 (sr λ_ J17=>PS ?_);refine BV (((.int .i64 (at'))::List.replicate 64 (.int .u8 0)).toArray) ?_;refine XA He λb7=>?_
 refine bL (vs:=((.int .i64 (at'))::List.replicate 64 (.int .u8 0))) (i:=0) (ab rfl) rfl rfl rfl rfl rfl mO (by simp[Value.oneCell']) rfl rfl (L5 rfl) rfl rfl (nx J17 (sr λ_ J18=>FA 1 pK nY ?_));refine tp (ol rfl BZ lT rfl) ?_;refine PS ?_;refine N5 (i:=0) (m:=bs.length) (news:=(ek bs)) (H':=[ah b7 (df (at',eW bs)) 147,ah d [(.map (some m)),wv,(.bool (ar)),(.int .i64 (lf-1)),(.bool (dn))] 115,own wv (ws.length) (dS ws) 147 65]) (ab rfl) rfl rfl rfl ia lT rfl rfl rfl rfl (λ_ _=>hF.src (λ_ h=>fE h)) (fl _) (by show 1+min bs.length 64≤65;omega) (AA (by omega)) rfl (nx J18 (aa λ_ J19=>D1 0 dA ?_));refine PD 0 ?_;refine PD 1 ?_;refine PD 2 ?_;refine FD 3 1 ig ib ?_;refine ta 5 rfl (aM (vs:=df (at',eW bs)) rfl pK rfl mO rfl (λ_ h=>h.2.1) (ci (dN (by omega))) (by rw[be,aD (by rw[(ci (dN (by omega)))];exact aH _)])) ?_;refine cT [4,6] (by kernel_rfl) rfl (aG rfl ?_ ?_);refine LA 1 jv ?_;refine EN (AL 6 ?_);refine aV (cells:=(df (at',eW bs)).toArray) (ab rfl) rfl rfl rfl jv mQ rfl rfl rfl (m7 (ci (dN (by omega))) (by simp)) (λb60=>?_);change TL _ _ _ _ _ _ _ _ _ [ah b60 (df (at',eW bs)) 147,ah b7 (df (at',eW bs)) 147,ah d [(.map (some m)),wv,(.bool (ar)),(.int .i64 (lf-1)),(.bool (dn))] 115,own wv (ws.length) (dS ws) 147 65];refine EN (AL 7 ?_)
 refine cL (k:=3) (news:=df (at',eW bs)) (nn':=(ws++[(at',eW bs)]).length) (xs':=dS (ws++[(at',eW bs)])) (ab rfl) rfl rfl rfl jv mQ rfl rfl rfl rfl rfl rfl (λ_ _=>j7 (ci (dN (by omega))) (RO 0) (by rw[be,aD (aH _)])) (jk _) (by simp only[maxLen];omega) (by omega) (by simp) (by simp[dS]) (λv61 ov61=>EN (PD 8 ?_));refine FD 9 1 ig ib ?_;refine AL 10 ?_;refine bO (i:=2) (ab rfl) rfl rfl rfl rfl ov61 ib rfl rfl (lb rfl) rfl rfl (EN (DN (ac J19 (sr λ_ J20=>PS ?_))));refine nx J20 (aj (WK [2,2] (av rfl rfl ?_)));show(if _ then _ else _)
 first
  | (rw[if_pos (by omega)];exact⟨rfl,rfl⟩)
  | (rw[if_neg (by omega),if_pos (by simp_all)];exact⟨rfl,by simp_all<;>rfl⟩)
  | (rw[if_neg (by omega),if_neg (by simp_all)];exact⟨rfl,v61,by simp_all<;>rfl⟩)
 refine aG rfl ?_ ?_;refine aV (cells:=(df (at',eW bs)).toArray) (ab rfl) rfl rfl rfl jv mQ rfl rfl rfl (m7 (ci (dN (by omega))) (by simp)) (λb60=>?_);change TL _ _ _ _ _ _ _ _ _ [ah b60 (df (at',eW bs)) 147,ah b7 (df (at',eW bs)) 147,ah d [(.map (some m)),wv,(.bool (ar)),(.int .i64 (lf-1)),(.bool (dn))] 115,own wv (ws.length) (dS ws) 147 65];refine EN (AL 4 ?_);refine LA 2 jv ?_;refine EN (AL 7 ?_);refine cL (k:=3) (news:=df (at',eW bs)) (nn':=(ws++[(at',eW bs)]).length) (xs':=dS (ws++[(at',eW bs)])) (ab rfl) rfl rfl rfl jv mQ rfl rfl rfl rfl rfl rfl (λ_ _=>j7 (ci (dN (by omega))) (RO 0) (by rw[be,aD (aH _)])) (jk _) (by simp only[maxLen];omega) (by omega) (by simp) (by simp[dS]) (λv61 ov61=>EN (PD 8 ?_));refine FD 9 1 ig ib ?_;refine AL 10 ?_;refine bO (i:=2) (ab rfl) rfl rfl rfl rfl ov61 ib rfl rfl (lb rfl) rfl rfl (EN (DN (ac J19 (sr λ_ J21=>PS ?_))));refine nx J21 (aj (WK [2,2] (av rfl rfl ?_)));show(if _ then _ else _)
 first
  | (rw[if_pos (by omega)];exact⟨rfl,rfl⟩)
  | (rw[if_neg (by omega),if_pos (by simp_all)];exact⟨rfl,by simp_all<;>rfl⟩)
  | (rw[if_neg (by omega),if_neg (by simp_all)];exact⟨rfl,v61,by simp_all<;>rfl⟩)
 exact bJ;refine nx J16 (CN (qx J15 (sr λ_ J22=>PS ?_)));refine BV (((.int .i64 (at'))::List.replicate 64 (.int .u8 0)).toArray) ?_;refine XA He λb7=>?_
 refine bL (vs:=((.int .i64 (at'))::List.replicate 64 (.int .u8 0))) (i:=0) (ab rfl) rfl rfl rfl rfl rfl mO (by simp[Value.oneCell']) rfl rfl (L5 rfl) rfl rfl (nx J22 (sr λ_ J23=>FA 1 pK nY ?_));refine tp (ol rfl BZ lT rfl) ?_;refine PS ?_;refine N5 (i:=0) (m:=bs.length) (news:=(ek bs)) (H':=[ah b7 (df (at',eW bs)) 147,ah d [(.map (some m)),wv,(.bool (ar)),(.int .i64 (lf)),(.bool (dn))] 115,own wv (ws.length) (dS ws) 147 65]) (ab rfl) rfl rfl rfl ia lT rfl rfl rfl rfl (λ_ _=>hF.src (λ_ h=>fE h)) (fl _) (by show 1+min bs.length 64≤65;omega) (AA (by omega)) rfl (nx J23 (aa λ_ J24=>D1 0 dA ?_));refine PD 0 ?_;refine PD 1 ?_;refine PD 2 ?_;refine FD 3 1 ig ib ?_;refine ta 5 rfl (aM (vs:=df (at',eW bs)) rfl pK rfl mO rfl (λ_ h=>h.2.1) (ci (dN (by omega))) (by rw[be,aD (by rw[(ci (dN (by omega)))];exact aH _)])) ?_;refine cT [4,6] (by kernel_rfl) rfl (aG rfl ?_ ?_);refine LA 1 jv ?_;refine EN (AL 6 ?_);refine aV (cells:=(df (at',eW bs)).toArray) (ab rfl) rfl rfl rfl jv mQ rfl rfl rfl (m7 (ci (dN (by omega))) (by simp)) (λb60=>?_);change TL _ _ _ _ _ _ _ _ _ [ah b60 (df (at',eW bs)) 147,ah b7 (df (at',eW bs)) 147,ah d [(.map (some m)),wv,(.bool (ar)),(.int .i64 (lf)),(.bool (dn))] 115,own wv (ws.length) (dS ws) 147 65];refine EN (AL 7 ?_)
 refine cL (k:=3) (news:=df (at',eW bs)) (nn':=(ws++[(at',eW bs)]).length) (xs':=dS (ws++[(at',eW bs)])) (ab rfl) rfl rfl rfl jv mQ rfl rfl rfl rfl rfl rfl (λ_ _=>j7 (ci (dN (by omega))) (RO 0) (by rw[be,aD (aH _)])) (jk _) (by simp only[maxLen];omega) (by omega) (by simp) (by simp[dS]) (λv61 ov61=>EN (PD 8 ?_));refine FD 9 1 ig ib ?_;refine AL 10 ?_;refine bO (i:=2) (ab rfl) rfl rfl rfl rfl ov61 ib rfl rfl (lb rfl) rfl rfl (EN (DN (ac J24 (sr λ_ J25=>PS ?_))));refine nx J25 (aj (WK [2,2] (av rfl rfl ?_)));show(if _ then _ else _)
 first
  | (rw[if_pos (by omega)];exact⟨rfl,rfl⟩)
  | (rw[if_neg (by omega),if_pos (by simp_all)];exact⟨rfl,by simp_all<;>rfl⟩)
  | (rw[if_neg (by omega),if_neg (by simp_all)];exact⟨rfl,v61,by simp_all<;>rfl⟩)
 refine aG rfl ?_ ?_;refine aV (cells:=(df (at',eW bs)).toArray) (ab rfl) rfl rfl rfl jv mQ rfl rfl rfl (m7 (ci (dN (by omega))) (by simp)) (λb60=>?_);change TL _ _ _ _ _ _ _ _ _ [ah b60 (df (at',eW bs)) 147,ah b7 (df (at',eW bs)) 147,ah d [(.map (some m)),wv,(.bool (ar)),(.int .i64 (lf)),(.bool (dn))] 115,own wv (ws.length) (dS ws) 147 65];refine EN (AL 4 ?_);refine LA 2 jv ?_;refine EN (AL 7 ?_);refine cL (k:=3) (news:=df (at',eW bs)) (nn':=(ws++[(at',eW bs)]).length) (xs':=dS (ws++[(at',eW bs)])) (ab rfl) rfl rfl rfl jv mQ rfl rfl rfl rfl rfl rfl (λ_ _=>j7 (ci (dN (by omega))) (RO 0) (by rw[be,aD (aH _)])) (jk _) (by simp only[maxLen];omega) (by omega) (by simp) (by simp[dS]) (λv61 ov61=>EN (PD 8 ?_));refine FD 9 1 ig ib ?_;refine AL 10 ?_;refine bO (i:=2) (ab rfl) rfl rfl rfl rfl ov61 ib rfl rfl (lb rfl) rfl rfl (EN (DN (ac J24 (sr λ_ J26=>PS ?_))));refine nx J26 (aj (WK [2,2] (av rfl rfl ?_)));show(if _ then _ else _)
 first
  | (rw[if_pos (by omega)];exact⟨rfl,rfl⟩)
  | (rw[if_neg (by omega),if_pos (by simp_all)];exact⟨rfl,by simp_all<;>rfl⟩)
  | (rw[if_neg (by omega),if_neg (by simp_all)];exact⟨rfl,v61,by simp_all<;>rfl⟩)
 exact bJ;refine PS ?_
 iterate 5 refine UF ?_
 refine PS ?_;refine nx J8 (CN (qx J7 (aa λ_ J27=>sr λ_ J28=>P2 ?_)));refine FA 4 ig lE ?_;refine LA 0 Y4 ?_;refine bb ?_ ?_<;>intro h36;refine nx J28 (CY (sr λ_ J29=>PS ?_));refine nx J29 (aj (ae (WK [0,0] (av rfl rfl ?_))));show(if _ then _ else _)
 first
  | (rw[if_pos (by omega)];exact⟨rfl,rfl⟩)
  | (rw[if_neg (by omega),if_pos (by simp_all)];exact⟨rfl,by simp_all<;>rfl⟩)
  | (rw[if_neg (by omega),if_neg (by simp_all)];exact⟨rfl,v61,by simp_all<;>rfl⟩)
 refine nx J28 (CN (qx J27 (aa λ_ J30=>sr λ_ J31=>P2 ?_)));refine FA 2 ig lE ?_;refine LA 0 Y4 ?_;refine bb ?_ ?_<;>intro h40;refine nx J31 (CY (ad (P2 ?_)));refine FA 3 ig aP ?_;refine LA 0 Y3 ?_;refine tp (j8 rfl rfl rfl (bK (by omega) (by omega))) ?_;refine PS ?_;refine FA 3 ig aP ?_;refine S0 0 aP ?_;refine nx J30 (sr λ_ J32=>PS ?_);refine BV (((.int .i64 (at'))::List.replicate 64 (.int .u8 0)).toArray) ?_;refine XA He λb7=>?_
 refine bL (vs:=((.int .i64 (at'))::List.replicate 64 (.int .u8 0))) (i:=0) (ab rfl) rfl rfl rfl rfl rfl mO (by simp[Value.oneCell']) rfl rfl (L5 rfl) rfl rfl (nx J32 (sr λ_ J33=>FA 1 pK nY ?_));refine tp (ol rfl BZ lT rfl) ?_;refine PS ?_;refine N5 (i:=0) (m:=bs.length) (news:=(ek bs)) (H':=[ah b7 (df (at',eW bs)) 147,ah d [(.map (some m)),wv,(.bool (ar)),(.int .i64 (lf-1)),(.bool (dn))] 115,own wv (ws.length) (dS ws) 147 65]) (ab rfl) rfl rfl rfl ia lT rfl rfl rfl rfl (λ_ _=>hF.src (λ_ h=>fE h)) (fl _) (by show 1+min bs.length 64≤65;omega) (AA (by omega)) rfl (nx J33 (aa λ_ J34=>D1 0 dA ?_));refine PD 0 ?_;refine PD 1 ?_;refine PD 2 ?_;refine FD 3 1 ig ib ?_;refine ta 5 rfl (aM (vs:=df (at',eW bs)) rfl pK rfl mO rfl (λ_ h=>h.2.1) (ci (dN (by omega))) (by rw[be,aD (by rw[(ci (dN (by omega)))];exact aH _)])) ?_;refine cT [4,6] (by kernel_rfl) rfl (aG rfl ?_ ?_);refine LA 1 jv ?_;refine EN (AL 6 ?_);refine aV (cells:=(df (at',eW bs)).toArray) (ab rfl) rfl rfl rfl jv mQ rfl rfl rfl (m7 (ci (dN (by omega))) (by simp)) (λb60=>?_);change TL _ _ _ _ _ _ _ _ _ [ah b60 (df (at',eW bs)) 147,ah b7 (df (at',eW bs)) 147,ah d [(.map (some m)),wv,(.bool (ar)),(.int .i64 (lf-1)),(.bool (dn))] 115,own wv (ws.length) (dS ws) 147 65];refine EN (AL 7 ?_)
 refine cL (k:=3) (news:=df (at',eW bs)) (nn':=(ws++[(at',eW bs)]).length) (xs':=dS (ws++[(at',eW bs)])) (ab rfl) rfl rfl rfl jv mQ rfl rfl rfl rfl rfl rfl (λ_ _=>j7 (ci (dN (by omega))) (RO 0) (by rw[be,aD (aH _)])) (jk _) (by simp only[maxLen];omega) (by omega) (by simp) (by simp[dS]) (λv61 ov61=>EN (PD 8 ?_));refine FD 9 1 ig ib ?_;refine AL 10 ?_;refine bO (i:=2) (ab rfl) rfl rfl rfl rfl ov61 ib rfl rfl (lb rfl) rfl rfl (EN (DN (ac J34 (sr λ_ J35=>PS ?_))));refine nx J35 (aj (WK [2,2] (av rfl rfl ?_)));show(if _ then _ else _)
 first
  | (rw[if_pos (by omega)];exact⟨rfl,rfl⟩)
  | (rw[if_neg (by omega),if_pos (by simp_all)];exact⟨rfl,by simp_all<;>rfl⟩)
  | (rw[if_neg (by omega),if_neg (by simp_all)];exact⟨rfl,v61,by simp_all<;>rfl⟩)
 refine aG rfl ?_ ?_;refine aV (cells:=(df (at',eW bs)).toArray) (ab rfl) rfl rfl rfl jv mQ rfl rfl rfl (m7 (ci (dN (by omega))) (by simp)) (λb60=>?_);change TL _ _ _ _ _ _ _ _ _ [ah b60 (df (at',eW bs)) 147,ah b7 (df (at',eW bs)) 147,ah d [(.map (some m)),wv,(.bool (ar)),(.int .i64 (lf-1)),(.bool (dn))] 115,own wv (ws.length) (dS ws) 147 65];refine EN (AL 4 ?_);refine LA 2 jv ?_;refine EN (AL 7 ?_);refine cL (k:=3) (news:=df (at',eW bs)) (nn':=(ws++[(at',eW bs)]).length) (xs':=dS (ws++[(at',eW bs)])) (ab rfl) rfl rfl rfl jv mQ rfl rfl rfl rfl rfl rfl (λ_ _=>j7 (ci (dN (by omega))) (RO 0) (by rw[be,aD (aH _)])) (jk _) (by simp only[maxLen];omega) (by omega) (by simp) (by simp[dS]) (λv61 ov61=>EN (PD 8 ?_));refine FD 9 1 ig ib ?_;refine AL 10 ?_;refine bO (i:=2) (ab rfl) rfl rfl rfl rfl ov61 ib rfl rfl (lb rfl) rfl rfl (EN (DN (ac J34 (sr λ_ J36=>PS ?_))));refine nx J36 (aj (WK [2,2] (av rfl rfl ?_)));show(if _ then _ else _)
 first
  | (rw[if_pos (by omega)];exact⟨rfl,rfl⟩)
  | (rw[if_neg (by omega),if_pos (by simp_all)];exact⟨rfl,by simp_all<;>rfl⟩)
  | (rw[if_neg (by omega),if_neg (by simp_all)];exact⟨rfl,v61,by simp_all<;>rfl⟩)
 exact bJ;refine nx J31 (CN (qx J30 (sr λ_ J37=>PS ?_)));refine BV (((.int .i64 (at'))::List.replicate 64 (.int .u8 0)).toArray) ?_;refine XA He λb7=>?_
 refine bL (vs:=((.int .i64 (at'))::List.replicate 64 (.int .u8 0))) (i:=0) (ab rfl) rfl rfl rfl rfl rfl mO (by simp[Value.oneCell']) rfl rfl (L5 rfl) rfl rfl (nx J37 (sr λ_ J38=>FA 1 pK nY ?_));refine tp (ol rfl BZ lT rfl) ?_;refine PS ?_;refine N5 (i:=0) (m:=bs.length) (news:=(ek bs)) (H':=[ah b7 (df (at',eW bs)) 147,ah d [(.map (some m)),wv,(.bool (ar)),(.int .i64 (lf)),(.bool (dn))] 115,own wv (ws.length) (dS ws) 147 65]) (ab rfl) rfl rfl rfl ia lT rfl rfl rfl rfl (λ_ _=>hF.src (λ_ h=>fE h)) (fl _) (by show 1+min bs.length 64≤65;omega) (AA (by omega)) rfl (nx J38 (aa λ_ J39=>D1 0 dA ?_));refine PD 0 ?_;refine PD 1 ?_;refine PD 2 ?_;refine FD 3 1 ig ib ?_;refine ta 5 rfl (aM (vs:=df (at',eW bs)) rfl pK rfl mO rfl (λ_ h=>h.2.1) (ci (dN (by omega))) (by rw[be,aD (by rw[(ci (dN (by omega)))];exact aH _)])) ?_;refine cT [4,6] (by kernel_rfl) rfl (aG rfl ?_ ?_);refine LA 1 jv ?_;refine EN (AL 6 ?_);refine aV (cells:=(df (at',eW bs)).toArray) (ab rfl) rfl rfl rfl jv mQ rfl rfl rfl (m7 (ci (dN (by omega))) (by simp)) (λb60=>?_);change TL _ _ _ _ _ _ _ _ _ [ah b60 (df (at',eW bs)) 147,ah b7 (df (at',eW bs)) 147,ah d [(.map (some m)),wv,(.bool (ar)),(.int .i64 (lf)),(.bool (dn))] 115,own wv (ws.length) (dS ws) 147 65];refine EN (AL 7 ?_)
 refine cL (k:=3) (news:=df (at',eW bs)) (nn':=(ws++[(at',eW bs)]).length) (xs':=dS (ws++[(at',eW bs)])) (ab rfl) rfl rfl rfl jv mQ rfl rfl rfl rfl rfl rfl (λ_ _=>j7 (ci (dN (by omega))) (RO 0) (by rw[be,aD (aH _)])) (jk _) (by simp only[maxLen];omega) (by omega) (by simp) (by simp[dS]) (λv61 ov61=>EN (PD 8 ?_));refine FD 9 1 ig ib ?_;refine AL 10 ?_;refine bO (i:=2) (ab rfl) rfl rfl rfl rfl ov61 ib rfl rfl (lb rfl) rfl rfl (EN (DN (ac J39 (sr λ_ J40=>PS ?_))));refine nx J40 (aj (WK [2,2] (av rfl rfl ?_)));show(if _ then _ else _)
 first
  | (rw[if_pos (by omega)];exact⟨rfl,rfl⟩)
  | (rw[if_neg (by omega),if_pos (by simp_all)];exact⟨rfl,by simp_all<;>rfl⟩)
  | (rw[if_neg (by omega),if_neg (by simp_all)];exact⟨rfl,v61,by simp_all<;>rfl⟩)
 refine aG rfl ?_ ?_;refine aV (cells:=(df (at',eW bs)).toArray) (ab rfl) rfl rfl rfl jv mQ rfl rfl rfl (m7 (ci (dN (by omega))) (by simp)) (λb60=>?_);change TL _ _ _ _ _ _ _ _ _ [ah b60 (df (at',eW bs)) 147,ah b7 (df (at',eW bs)) 147,ah d [(.map (some m)),wv,(.bool (ar)),(.int .i64 (lf)),(.bool (dn))] 115,own wv (ws.length) (dS ws) 147 65];refine EN (AL 4 ?_);refine LA 2 jv ?_;refine EN (AL 7 ?_);refine cL (k:=3) (news:=df (at',eW bs)) (nn':=(ws++[(at',eW bs)]).length) (xs':=dS (ws++[(at',eW bs)])) (ab rfl) rfl rfl rfl jv mQ rfl rfl rfl rfl rfl rfl (λ_ _=>j7 (ci (dN (by omega))) (RO 0) (by rw[be,aD (aH _)])) (jk _) (by simp only[maxLen];omega) (by omega) (by simp) (by simp[dS]) (λv61 ov61=>EN (PD 8 ?_));refine FD 9 1 ig ib ?_;refine AL 10 ?_;refine bO (i:=2) (ab rfl) rfl rfl rfl rfl ov61 ib rfl rfl (lb rfl) rfl rfl (EN (DN (ac J39 (sr λ_ J41=>PS ?_))));refine nx J41 (aj (WK [2,2] (av rfl rfl ?_)));show(if _ then _ else _)
 first
  | (rw[if_pos (by omega)];exact⟨rfl,rfl⟩)
  | (rw[if_neg (by omega),if_pos (by simp_all)];exact⟨rfl,by simp_all<;>rfl⟩)
  | (rw[if_neg (by omega),if_neg (by simp_all)];exact⟨rfl,v61,by simp_all<;>rfl⟩)
 exact bJ
theorem uU(d m:Nat)(wv:Value)(ar:Bool)(lf:Int):
 DT 41 #[(.pointer (some ⟨d,0,none⟩))] T0 [ah d [(.map (some m)),wv,(.bool (ar)),(.int .i64 (lf)),(.bool true)] 115] (RI (.int .i64 4) [ah d [(.map (some m)),wv,(.bool (ar)),(.int .i64 (lf)),(.bool true)] 115]):=by
 refine BD 28 Tryz.func41 rfl rfl rfl λw0 F hF=>sr λ_ J1=>PS ?_
 refine nx J1 (aa λ_ J2=>sr λ_ J3=>P2 ?_);refine FA 4 ig lE ?_;refine LA 0 Y4 ?_;refine nx J3 (CY (sr λ_ J4=>PS ?_));exact nx J4 (aj (ae (WK [0] (av rfl rfl ⟨rfl,rfl⟩))))
theorem xP(d m:Nat)(wv:Value)(s ws:fN)(ar:Bool)(lf:Int)(hw:Whole ws):
 DT 41 #[(.pointer (some ⟨d,0,none⟩))] T0 [ah d [(.map (some m)),wv,(.bool (ar)),(.int .i64 (lf)),(.bool false)] 115,jK m (sj s),own wv (ws.length) (dS ws) 147 65] (RI (.int .i64 0) [ah d [(.map (some m)),(.slice none 0 0),(.bool (ar)),(.int .i64 (lf)),(.bool false)] 115,jK m (sj (DF s ws ws.length)),own (.slice none 0 0) 0 [] 147 65]):=by
 refine BD 28 Tryz.func41 rfl rfl rfl λw0 F hF=>sr λ_ J1=>iZ 2 rfl rfl (λhwl _=>PS ?_)
 refine nx J1 (aa λ_ J2=>sr λ_ J3=>P2 ?_);refine FA 4 ig lE ?_;refine LA 0 Y4 ?_;refine nx J3 (CN (qx J2 (aa λ_ J4=>sr λ_ J5=>P2 ?_)));refine FA 1 ig ib ?_;refine LA 0 jv ?_;refine tp (eA rfl jv rfl hwl) ?_;refine PS ?_;refine nx J5 (aq ?_)
 refine bD (α:=(Nat)×(fN)) (λ⟨k,s'⟩=>k≤ws.length∧s'=DF s ws k) (λ⟨k,s'⟩=>[(0,(.pointer (some ⟨d,0,none⟩))),(2,(.int .i64 0)),(12,wv),(13,(.int .i64 (((ws.length:Nat):Int)))),(14,(.int .i64 (((k:Nat):Int))))]) (λ⟨k,s'⟩=>[ah d [(.map (some m)),wv,(.bool (ar)),(.int .i64 (lf)),(.bool false)] 115,jK m (sj s'),own wv (ws.length) (dS ws) 147 65]) (λ⟨k,s'⟩=>ws.length-k) (0,s)
  ⟨aO _,rfl⟩ SB
  (λ_ s=>s) (λ⟨k,s'⟩ hinv=>?_)
 obtain⟨hk,hs'⟩:=hinv;refine sr λ_ J6=>PS ?_
 refine ap ?_ ?_<;>intro h15;refine jh 2 rfl rfl (by omega) (λg cap hv hcap=>nx J6 (aa λ_ J7=>CY (qx J7 (aa λ_ J8=>aq (sr λ_ J9=>tp (bT (r:=k*65) hv rfl jv mO rfl rfl (by omega) (by omega) (by omega)) ?_)))));refine tp (PV.loadNX (vs:=df (kZ ws k)) rfl pK rfl mO rfl (gq 2 rfl hv rfl) (ci (dW hw (by omega))) (qZ hw (by omega))) ?_;refine XA He λb4=>?_
 refine bL (vs:=df (kZ ws k)) (i:=0) (ab rfl) rfl rfl rfl rfl rfl (by rw[ci (dW hw (by omega))];exact mO) (jk _) rfl rfl (by rw[ci (dW hw (by omega))];exact aH _) (gC (Eq.trans (rfl:_=65) (by rw[ci (dW hw (by omega))]:(df (kZ ws k)).length=65).symm)) rfl (nx J9 (ad (PS ?_)));refine FA 0 pK aP ?_;refine LA 0 Y3 ?_;refine FA 1 pK nY ?_;refine tp (aM (vs:=ek (kZ ws k).2) rfl BZ rfl nY rfl (RO 0) (by rw[aZ];exact dW hw (by omega)) (wy (dW hw (by omega)))) ?_;refine CR Nw (pF d m wv s' ar false lf ((kZ ws k).1) (kZ ws k).2 (by exact dW hw (by omega))) (SM [1,1]) λvR HR hR=>?_
 subst hR;refine aw (af (ac J8 (ad (AD ?_))));refine PS ?_;refine aw ?_
 exact aL ((k+1,oK s' (kZ ws k).1 (kZ ws k).2):(Nat)×(fN)) ⟨by omega,by rw[hs'];rfl⟩ (by show ws.length- (k+1)<ws.length-k;omega)
  SB
  (λ_ s=>ak [0,0,1] rfl s)
 refine nx J6 (aa λ_ J10=>CN (bh (aC (aC (bC (ac J4 (sr λ_ J11=>P2 ?_)))))));refine FA 1 ig ib ?_;refine S0 0 ib ?_;refine nx J11 (sr λ_ J12=>PS ?_);refine nx J12 (aj (aF (H':=[ah d [(.map (some m)),(.slice none 0 0),(.bool (ar)),(.int .i64 (lf)),(.bool false)] 115,jK m (sj s'),own (.slice none 0 0) 0 [] 147 65]) (dV _) (λ_ s=>eH (List.Perm.trans (List.Perm.swap _ _ _) (List.Perm.cons _ (List.Perm.swap _ _ _))) (ik 147 65 (ak [0,0] rfl s))) (av rfl rfl ?_)));obtain rfl:k=ws.length:=by omega
 subst hs';exact⟨rfl,rfl⟩
theorem Bz(d m:Nat)(wv:Value)(s ws:fN)(ar dn:Bool)(lf at':Int)(hs2:Whole s)(hw:Whole ws)(hb:ws.length≤1000000000):
 DT 82 #[(.pointer (some ⟨d,0,none⟩)),(.int .i64 (at'))] T0 [ah d [(.map (some m)),wv,(.bool (ar)),(.int .i64 (lf)),(.bool (dn))] 115,jK m (sj s),own wv (ws.length) (dS ws) 147 65] (RI (C5 (jd s ws at' ws.length)) [ah d [(.map (some m)),wv,(.bool (ar)),(.int .i64 (lf)),(.bool (dn))] 115,jK m (sj s),own wv (ws.length) (dS ws) 147 65]):=by
 refine BD 40 Tryz.func82 rfl rfl rfl λw0 F hF=>sr λ_ J1=>iZ 2 rfl rfl (λhwl _=>XA M3 λb4=>?_)
 refine nx J1 (aa λ_ J2=>sr λ_ J3=>P2 ?_);refine FA 1 ig ib ?_;refine LA 1 jv ?_;refine tp (eA rfl jv rfl hwl) ?_;refine tp (j8 rfl rfl rfl (bK (by omega) (by omega))) ?_;refine PS ?_;refine nx J3 (aq ?_)
 refine bD (α:=(Int)) (λp=> -1≤p∧p<ws.length∧jd s ws at' (p+1).toNat=jd s ws at' ws.length) (λp=>[(0,(.pointer (some ⟨d,0,none⟩))),(1,(.int .i64 (at'))),(4,(.pointer (some ⟨b4,0,none⟩))),(5,(.int .i64 (p)))]) (λp=>[ah b4 [(.int .u8 0),(.int .u8 0),(.int .u8 0),(.int .u8 0),(.int .u8 0),(.int .u8 0),(.int .u8 0),(.int .u8 0),(.int .u8 0),(.int .u8 0),(.int .u8 0),(.int .u8 0),(.int .u8 0),(.int .u8 0),(.int .u8 0),(.int .u8 0),(.int .u8 0),(.int .u8 0),(.int .u8 0),(.int .u8 0),(.int .u8 0),(.int .u8 0),(.int .u8 0),(.int .u8 0),(.int .u8 0),(.int .u8 0),(.int .u8 0),(.int .u8 0),(.int .u8 0),(.int .u8 0),(.int .u8 0),(.int .u8 0),(.int .u8 0),(.int .u8 0),(.int .u8 0),(.int .u8 0),(.int .u8 0),(.int .u8 0),(.int .u8 0),(.int .u8 0),(.int .u8 0),(.int .u8 0),(.int .u8 0),(.int .u8 0),(.int .u8 0),(.int .u8 0),(.int .u8 0),(.int .u8 0),(.int .u8 0),(.int .u8 0),(.int .u8 0),(.int .u8 0),(.int .u8 0),(.int .u8 0),(.int .u8 0),(.int .u8 0),(.int .u8 0),(.int .u8 0),(.int .u8 0),(.int .u8 0),(.int .u8 0),(.int .u8 0),(.int .u8 0),(.int .u8 0)] 98,ah d [(.map (some m)),wv,(.bool (ar)),(.int .i64 (lf)),(.bool (dn))] 115,jK m (sj s),own wv (ws.length) (dS ws) 147 65]) (λp=>(p+1).toNat) (((ws.length:Nat):Int)-1)
  ⟨by omega,by omega,by congr 1;omega⟩ SB
  (λ_ s=>s) (λp hinv=>?_)
 obtain⟨hp1,hp2,hp3⟩:=hinv;refine aa λ_ J4=>sr λ_ J5=>P2 ?_
 refine ap ?_ ?_<;>intro h13;refine jh 3 rfl rfl (by omega) (λg cap hv hcap=>nx J5 (CY (qx J4 (aa λ_ J6=>aq (sr λ_ J7=>P2 ?_)))));refine FA 1 ig ib ?_;refine LA 1 jv ?_;refine PS ?_;refine tp (bT (r:=p.toNat*65) hv rfl jv mO rfl rfl (by omega) (by omega) (by omega)) ?_;refine tp (bc (r:=p.toNat*65) rfl pK rfl aP rfl rfl) ?_;refine tp (cZ (v:=(.int .i64 ((kZ ws p.toNat).1))) rfl Y3 rfl rfl (gq 3 rfl hv rfl) (Hk hw (by omega))) ?_;refine P2 ?_;refine ap ?_ ?_<;>intro h25;refine nx J7 (CY (sr λ_ J8=>P2 ?_));refine FA 1 ig ib ?_;refine LA 1 jv ?_;refine PS ?_;refine tp (bT (r:=p.toNat*65) hv rfl jv mO rfl rfl (by omega) (by omega) (by omega)) ?_;refine tp (bc (r:=p.toNat*65+1) rfl pK rfl nY rfl rfl) ?_;refine tp (PV.loadNX (vs:=ek (kZ ws p.toNat).2) rfl BZ rfl nY rfl (gq 3 rfl hv rfl) (by rw[aZ];exact dW hw (by omega)) (Hj hw (by omega))) ?_;refine bL (vs:=ek (kZ ws p.toNat).2) (i:=0) (ab rfl) rfl rfl rfl rfl rfl (by rw[aZ,dW hw (by omega)];exact nY) (fl _) rfl rfl (by rw[aZ,dW hw (by omega)];exact aH _) (gC (Eq.trans (rfl:_=64) (by rw[aZ,dW hw (by omega)]:(ek (kZ ws p.toNat).2).length=64).symm)) rfl (nx J8 (aj (aJ (ae (ae (aJ (ae (TE.retC (H':=[ah d [(.map (some m)),wv,(.bool (ar)),(.int .i64 (lf)),(.bool (dn))] 115,jK m (sj s),own wv (ws.length) (dS ws) 147 65]) rfl rfl BZ rfl nY (RO 0) (by rw[aZ];exact dW hw (by omega)) (λ_ s=>ak [1,1,1] rfl s) ?_))))))));have e:=HW (s:=s) h25
 rw[show p.toNat+1=(p+1).toNat by omega,hp3]at e;exact⟨by rw[e];rfl,rfl⟩;refine nx J7 (CN (aS (af (ac J6 (ad (PS ?_))))));refine tp (j8 rfl rfl rfl (bK (by omega) (by omega))) ?_;refine PS ?_;refine aw ?_
 exact aL ((p-1):(Int)) ⟨by omega,by omega,by rw[←hp3,show(p+1).toNat=p.toNat+1 by omega,Fi h25];congr 1;omega⟩ (by show(p-1+1).toNat< (p+1).toNat;omega)
  SB
  (λ_ s=>s)
 refine nx J5 (CN (bh (aC (aC (bC (ac J2 (sr λ_ J9=>P2 ?_)))))));refine FA 0 ig Cm ?_;refine LA 1 yO ?_;refine PS ?_;refine tp (PV.lookup rfl yO Y3 M3 rfl rfl (RdM.own 2 rfl rfl) (xE _ _)) ?_;refine bL (vs:=ek (gE s at')) (i:=0) (ab rfl) rfl rfl rfl rfl rfl (by rw[aZ,cz hs2];exact nY) (fl _) rfl rfl (by rw[aZ,cz hs2];exact aH _) (gC (Eq.trans (rfl:_=64) (by rw[aZ,cz hs2]:(ek (gE s at')).length=64).symm)) rfl (nx J9 (aj (TE.retC (H':=[ah d [(.map (some m)),wv,(.bool (ar)),(.int .i64 (lf)),(.bool (dn))] 115,jK m (sj s),own wv (ws.length) (dS ws) 147 65]) rfl rfl BZ rfl nY (RO 0) (by rw[aZ];exact cz hs2 _) (λ_ s=>ak [1,1,1] rfl s) ?_)));rw[show(p+1).toNat=0 by omega]at hp3;exact⟨by rw[←hp3];rfl,rfl⟩
theorem yH(d m:Nat)(wv:Value)(s ws:fN)(ar dn:Bool)(lf mask torn n:Int)(hs1:Whole s)(hw:Whole ws):
 DT 32 #[(.pointer (some ⟨d,0,none⟩)),(.int .i64 (mask)),(.int .i64 (torn)),(.int .i64 (n))] T0 [ah d [(.map (some m)),wv,(.bool (ar)),(.int .i64 (lf)),(.bool (dn))] 115,jK m (sj s),own wv (ws.length) (dS ws) 147 65] (dH (λ_ H=>H=[ah d [(.map (some m)),(.slice none 0 0),(.bool false),(.int .i64 0),(.bool false)] 115,jK m (sj (nM mask torn (qN n) s ws ws.length)),own (.slice none 0 0) 0 [] 147 65])):=by
 refine BD 70 Tryz.func32 rfl rfl rfl λw0 F hF=>sr λ_ J1=>iZ 2 rfl rfl (λhwl _=>PS ?_)
 refine tp (yW rfl rfl rfl) ?_;refine tp (Ri (v':=(.int .i64 (((qN n:Nat):Int)))) (PV.minI rfl rfl rfl) (congrArg (Value.int .i64) (Mh n))) ?_;refine PS ?_;refine nx J1 (aa λ_ J2=>sr λ_ J3=>P2 ?_);refine FA 1 ig ib ?_;refine LA 0 jv ?_;refine tp (eA rfl jv rfl hwl) ?_;refine PS ?_;refine nx J3 (aq ?_)
 refine bD (α:=(Nat)×(fN)) (λ⟨k,s'⟩=>k≤ws.length∧s'=nM mask torn (qN n) s ws k) (λ⟨k,s'⟩=>[(0,(.pointer (some ⟨d,0,none⟩))),(1,(.int .i64 (mask))),(2,(.int .i64 (torn))),(3,(.int .i64 (((qN n:Nat):Int)))),(17,wv),(18,(.int .i64 (((ws.length:Nat):Int)))),(19,(.int .i64 (((k:Nat):Int))))]) (λ⟨k,s'⟩=>[ah d [(.map (some m)),wv,(.bool (ar)),(.int .i64 (lf)),(.bool (dn))] 115,jK m (sj s'),own wv (ws.length) (dS ws) 147 65]) (λ⟨k,s'⟩=>ws.length-k) (0,s)
  ⟨aO _,rfl⟩ SB
  (λ_ s=>s) (λ⟨k,s'⟩ hinv=>?_)
 obtain⟨hk,hs'⟩:=hinv;have hs2:Whole s':=by rw[hs'];exact hs1.crash hw k hk
 have hcn:=tN n;refine sr λ_ J4=>PS ?_
 refine ap ?_ ?_<;>intro h20;refine jh 2 rfl rfl (by omega) (λg cap hv hcap=>nx J4 (aa λ_ J5=>CY (qx J5 (aa λ_ J6=>aq (sr λ_ J7=>PS ?_)))));refine tp (bT (r:=k*65) hv rfl jv mO rfl rfl (by omega) (by omega) (by omega)) ?_;refine tp (PV.loadNX (vs:=df (kZ ws k)) rfl pK rfl mO rfl (gq 2 rfl hv rfl) (ci (dW hw (by omega))) (qZ hw (by omega))) ?_;refine XA He λb9=>?_
 refine PS ?_;refine bL (vs:=df (kZ ws k)) (i:=0) (ab rfl) rfl rfl rfl rfl rfl (by rw[ci (dW hw (by omega))];exact mO) (jk _) rfl rfl (by rw[ci (dW hw (by omega))];exact aH _) (gC (Eq.trans (rfl:_=65) (by rw[ci (dW hw (by omega))]:(df (kZ ws k)).length=65).symm)) rfl (nx J7 (sr λ_ J8=>P3 ?_));refine ap ?_ ?_<;>intro h26;refine nx J8 (CY (aa λ_ J9=>oZ (λw=>Frm F w∧w.heap[d]?=some (.cells ([(.map (some m)),wv,(.bool (ar)),(.int .i64 (lf)),(.bool (dn))]).toArray 115 (0,0))∧Hm m (sj s') w∧w.heap[b9]?=some (.cells (df (kZ ws k)).toArray 147 (0,0))∧True) dA rfl (λ_ s=>⟨fE s,s.block 1 (lb rfl) rfl,s.map 2 rfl rfl,s.block 0 (lb rfl) rfl,trivial⟩) (PD 0 ?_)));refine PD 1 ?_;refine FD 2 0 ig Cm ?_;refine LX 3 yO (.map (some m)) ?_ (hc:=by exact rfl);refine FD 4 0 pK aP ?_;refine LX 5 Y3 (.int .i64 ((kZ ws k).1)) ?_ (hc:=by exact rfl);refine ta 6 rfl (PV.lookup rfl yO Y3 M3 rfl rfl (λ_ h=>h.2.2.1) (xE _ _)) ?_;refine AL 7 ?_;refine XA M3 λb10=>?_
 refine aw (vJ (λ_ s=>⟨fE s,s.block 2 (lb rfl) rfl,s.map 3 rfl rfl,s.block 1 (lb rfl) rfl,trivial⟩) (AL 8 ?_));refine bL (vs:=ek (gE s' ((kZ ws k).1))) (i:=0) (ab rfl) rfl rfl rfl rfl rfl (by rw[aZ,cz hs2];exact nY) (fl _) rfl rfl (by rw[aZ,cz hs2];exact aH _) (gC (Eq.trans (rfl:_=64) (by rw[aZ,cz hs2]:(ek (gE s' ((kZ ws k).1))).length=64).symm)) rfl (aw (vJ (λ_ s=>⟨fE s,s.block 2 (lb rfl) rfl,s.map 3 rfl rfl,s.block 1 (lb rfl) rfl,trivial⟩) (DN (ac J9 (aa λ_ J10=>D1 1 dA ?_)))));refine PD 0 ?_;refine ta 1 rfl (Ra (k:=qN n) rfl BZ lT rfl rfl (by omega) (by omega) rfl) ?_;refine FD 2 1 pK nY ?_;refine PD 3 ?_;refine ta 4 rfl (Ra (k:=qN n) rfl BZ lT rfl rfl (by omega) (by omega) rfl) ?_;refine AL 5 ?_;refine N5 (i:=0) (m:=qN n) (news:=((ek (kZ ws k).2).take (qN n))) (H':=[ah b10 (ek (sR (gE s' ((kZ ws k).1)) (kZ ws k).2 (qN n))) 98,ah b9 (df (kZ ws k)) 147,ah d [(.map (some m)),wv,(.bool (ar)),(.int .i64 (lf)),(.bool (dn))] 115,jK m (sj s'),own wv (ws.length) (dS ws) 147 65]) (ab rfl) rfl rfl rfl ia lT rfl rfl rfl rfl (λ_ _=>j7 (by rw[bR,aZ,dW hw (by omega)];have:=tN n;omega) (RO 1) (by rw[bR,aZ,dW hw (by omega)];exact Ca (dW hw (by omega)) (tN n))) (λu hu=>fl _ u (qX hu)) (by rw[aZ,cz hs2];have:=tN n;omega) (Hs (tN n) (cz hs2 _) (dW hw (by omega)) (by omega)) rfl (EN (DN (ac J10 (ad (PS ?_)))));refine FA 0 pK aP ?_;refine LA 1 Y3 ?_
 refine tp (aM (vs:=ek (sR (gE s' ((kZ ws k).1)) (kZ ws k).2 (qN n))) rfl BZ rfl nY rfl (RO 0) (by rw[aZ];exact q6 (cz hs2 _) (dW hw (by omega))) (wI (by rw[aZ];exact q6 (cz hs2 _) (dW hw (by omega))))) ?_;refine CR Nw (pF d m wv s' ar (dn) lf ((kZ ws k).1) (sR (gE s' ((kZ ws k).1)) (kZ ws k).2 (qN n)) (by exact q6 (cz hs2 _) (dW hw (by omega)))) (SM [2,2]) λvR HR hR=>?_
 subst hR;refine aw (af (ac J6 (ad (AD ?_))));refine PS ?_;refine aw ?_
 exact aL ((k+1,oK s' (kZ ws k).1 (sR (gE s' (kZ ws k).1) (kZ ws k).2 (qN n))):(Nat)×(fN)) ⟨by omega,by rw[hs',nM,nh,if_pos h26]⟩ (by show ws.length- (k+1)<ws.length-k;omega)
  SB
  (λ_ s=>ak [0,0,2] rfl s)
 refine nx J8 (CN (sr λ_ J11=>P2 ?_));refine tp (PV.rem (r:=((k%32:Nat):Int)) rfl rfl rfl (by omega) (by rw[show(32:Int)=((32:Nat):Int)from rfl,←Int.ofNat_tmod])) ?_;refine tp (mp (r:=mask.fdiv (2^ (k%32))) rfl rfl rfl (by omega) (by congr 2;show min ((k%32:Nat):Int).toNat 64=k%32;omega)) ?_;refine tp (o5 (r:=mask.fdiv (2^ (k%32))%2) rfl rfl rfl (Q2 _)) ?_;refine PS ?_;refine ap ?_ ?_<;>intro h50;refine nx J11 (CY (ad (PS ?_)));refine FA 0 pK aP ?_;refine LA 0 Y3 ?_;refine FA 1 pK nY ?_;refine tp (aM (vs:=ek (kZ ws k).2) rfl BZ rfl nY rfl (RO 0) (by rw[aZ];exact dW hw (by omega)) (wy (dW hw (by omega)))) ?_;refine CR Nw (pF d m wv s' ar (dn) lf ((kZ ws k).1) (kZ ws k).2 (by exact dW hw (by omega))) (SM [1,1]) λvR HR hR=>?_
 subst hR;refine aw (af (ac J6 (ad (AD ?_))));refine PS ?_;refine aw ?_
 exact aL ((k+1,oK s' (kZ ws k).1 (kZ ws k).2):(Nat)×(fN)) ⟨by omega,by rw[hs',nM,nh,if_neg h26,if_pos h50]⟩ (by show ws.length- (k+1)<ws.length-k;omega)
  SB
  (λ_ s=>ak [0,0,1] rfl s)
 refine nx J11 (CN (aS (af (ac J6 (ad (AD ?_))))));refine PS ?_;refine aw ?_
 exact aL ((k+1,s'):(Nat)×(fN)) ⟨by omega,by rw[nM,nh,if_neg h26,if_neg h50];exact hs'⟩ (by show ws.length- (k+1)<ws.length-k;omega)
  SB
  (λ_ s=>ak [1,1,1] rfl s)
 refine nx J4 (aa λ_ J12=>CN (bh (aC (aC (bC (ac J2 (ad ?_)))))))
 iterate 5 refine PS ?_
 refine FA 1 ig ib ?_;refine S0 0 ib ?_;refine PS ?_;refine FA 2 ig lE ?_;refine S0 0 lE ?_;refine PS ?_;refine FA 3 ig aP ?_;refine S0 0 aP ?_;refine PS ?_;refine FA 4 ig lE ?_;refine S0 0 lE ?_;refine aw (aF (H':=[ah d [(.map (some m)),(.slice none 0 0),(.bool false),(.int .i64 0),(.bool false)] 115,jK m (sj s'),own (.slice none 0 0) 0 [] 147 65]) (dV _) (λ_ s=>eH (List.Perm.trans (List.Perm.swap _ _ _) (List.Perm.cons _ (List.Perm.swap _ _ _))) (ik 147 65 (ak [0,0] rfl s))) (bw rfl ?_));obtain rfl:k=ws.length:=by omega
 subst hs';exact rfl
theorem Oo:Tryz.prog.eqGuardType Tryz.prog.depth 98=false:=by kernel_rfl
theorem On:Tryz.prog.keyTypeAt 2 98=true:=by kernel_rfl
theorem Oq:oU Tryz.prog 2 98=some (List.replicate 64 (some .u8)):=by kernel_rfl
theorem Ou:El Tryz.prog 98=true:=by kernel_rfl
theorem Ot:Tryz.prog.cellsOf 98=64:=by kernel_rfl
abbrev dk(d:Nat)(D:DS):HP:=Pv 115 147 d D
theorem GX(d:Nat)(D:DS):DT 45 #[(.pointer (some ⟨d,0,none⟩))] T0 [dk d D] (RI (.bool D.dn) [dk d (D)]):=Leg.Does.pack (B:=[]) λ⟨m,wv⟩=>
 Leg.Does.withinR (BA d m wv D.ar D.dn D.lf) (B:=[jK m (sj D.s),own wv D.ws.length (dS D.ws) 147 65]) (λ_ _ _ _=>trivial) (λ_ s=>s) (λv H h=>by
  obtain⟨rfl,rfl⟩:=h
  exact⟨_,λ_ s=>bn (H:=[]) (m,wv) (s),rfl,rfl⟩)
theorem NS(d:Nat)(D:DS)(n:Int):DT 30 #[(.pointer (some ⟨d,0,none⟩)), .int .i64 n] T0 [dk d D] (dH (λv H=>True∧H=[dk d (D.arm n)])):=Leg.Does.pack (B:=[]) λ⟨m,wv⟩=>
 Leg.Does.withinR (D3 d m wv D.ar D.dn D.lf n) (B:=[jK m (sj D.s),own wv D.ws.length (dS D.ws) 147 65]) (λ_ _ _ _=>trivial) (λ_ s=>s) (λv H h=>by
  subst h
  exact⟨_,λ_ s=>bn (H:=[]) (m,wv) s,trivial,rfl⟩)
theorem Mc(d:Nat)(D:DS)(at':Int)(hD:D.Ok):DT 39 #[(.pointer (some ⟨d,0,none⟩)), .int .i64 at'] T0 [dk d D] (RI (C5 (gE D.s at')) [dk d (D)]):=Leg.Does.pack (B:=[]) λ⟨m,wv⟩=>
 Leg.Does.withinR (By d m wv D.s D.ar D.dn D.lf at' hD.s) (B:=[own wv D.ws.length (dS D.ws) 147 65]) (λ_ _ _ _=>trivial) (λ_ s=>s) (λv H h=>by
  obtain⟨rfl,rfl⟩:=h
  exact⟨_,λ_ s=>bn (H:=[]) (m,wv) (s),rfl,rfl⟩)
theorem BC(d:Nat)(D:DS)(at':Int)(hD:D.Ok)(hb:D.ws.length≤1000000000):DT 82 #[(.pointer (some ⟨d,0,none⟩)), .int .i64 at'] T0 [dk d D] (RI (C5 (D.read at')) [dk d (D)]):=Leg.Does.pack (B:=[]) λ⟨m,wv⟩=>
 Leg.Does.withinR (Bz d m wv D.s D.ws D.ar D.dn D.lf at' hD.s hD.ws hb) (B:=[]) (λ_ _ _ _=>trivial) (λ_ s=>s) (λv H h=>by
  obtain⟨rfl,rfl⟩:=h
  exact⟨_,λ_ s=>bn (H:=[]) (m,wv) (s),rfl,rfl⟩)
theorem D8(d:Nat)(D:DS)(mask torn n:Int)(hD:D.Ok):DT 32 #[(.pointer (some ⟨d,0,none⟩)), .int .i64 mask, .int .i64 torn, .int .i64 n] T0 [dk d D] (dH (λv H=>True∧H=[dk d (D.crash mask torn n)])):=Leg.Does.pack (B:=[]) λ⟨m,wv⟩=>
 Leg.Does.withinR (yH d m wv D.s D.ws D.ar D.dn D.lf mask torn n hD.s hD.ws) (B:=[]) (λ_ _ _ _=>trivial) (λ_ s=>s) (λv H h=>by
  subst h
  exact⟨_,λ_ s=>bn (H:=[]) (m,(.slice none 0 0:Value)) s,trivial,rfl⟩)
theorem xQ(d:Nat)(D:DS)(at':Int)(x:Value)(bs:List UInt8)(hD:D.Ok)(hb:D.ws.length≤1000000000):DT 40 #[(.pointer (some ⟨d,0,none⟩)), .int .i64 at',x] (IsW x bs) [dk d D] (RI (.int .i64 (D.write at' bs).1) [dk d ((D.write at' bs).2)]):=Leg.Does.pack (B:=[]) λ⟨m,wv⟩=>
 Leg.Does.withinR (yG d m wv D.ws D.ar D.dn D.lf at' x bs hD.lf hb) (B:=[jK m (sj D.s)]) (λ_ _ h d=>h.more d) (λ_ s=>az [0,1] rfl s) (λv H h=>by
  unfold DS.write;replace h:(if at'<0∨2048≤at'∨64<bs.length then _ else _):=h;split at h<;>rename_i h1
  · rw[if_pos h1]
    obtain⟨rfl,rfl⟩:=h;exact⟨_,λ_ s=>bn (H:=[]) (m,wv) (az [0,1] rfl s),rfl,rfl⟩
  · rw[if_neg h1]
    split at h<;>rename_i h2
    · rw[if_pos h2]
      obtain⟨rfl,rfl⟩:=h;exact⟨_,λ_ s=>bn (H:=[]) (m,wv) (az [0,1] rfl s),rfl,rfl⟩
    · rw[if_neg h2]
      obtain⟨rfl,wv',rfl⟩:=h
      exact⟨_,λ_ s=>bn (H:=[]) (m,wv') (az [0,1] rfl s),rfl,rfl⟩)
theorem BB(d:Nat)(D:DS)(hD:D.Ok):DT 41 #[(.pointer (some ⟨d,0,none⟩))] T0 [dk d D] (RI (.int .i64 D.sync.1) [dk d D.sync.2]):=by
 obtain⟨s,ws,ar,lf,dn⟩:=D;cases dn
 · exact Leg.Does.pack (B:=[]) λ⟨m,wv⟩=>Leg.Does.withinR (xP d m wv s ws ar lf hD.ws) (B:=[]) (λ_ _ _ _=>trivial) (λ_ s=>s) (λv H h=>by
    obtain⟨rfl,rfl⟩:=h
    exact⟨_,λ_ s=>bn (H:=[]) (m,(.slice none 0 0:Value)) s,rfl,rfl⟩)
 · exact Leg.Does.pack (B:=[]) λ⟨m,wv⟩=>Leg.Does.withinR (uU d m wv ar lf) (B:=[jK m (sj s),own wv ws.length (dS ws) 147 65]) (λ_ _ _ _=>trivial) (λ_ s=>s) (λv H h=>by
    obtain⟨rfl,rfl⟩:=h
    exact⟨_,λ_ s=>bn (H:=[]) (m,wv) s,rfl,rfl⟩)
theorem Kp:DT 24 #[] T0 [] (dH (λv H=>∃d,v= .pointer (some ⟨d,0,none⟩)∧H=[dk d DS.new])):=
 Leg.Does.withinR DZ (B:=[]) (λ_ _ _ _=>trivial) (λ_ s=>s) (λv H h=>by
  obtain⟨d,m,rfl,rfl⟩:=h
  exact⟨_,λ_ s=>bn (H:=[]) (m,(.slice none 0 0:Value)) (eH (List.Perm.trans (List.Perm.swap _ _ _) (List.Perm.cons _ (List.Perm.swap _ _ _))) (ik 147 65 s)),d,rfl,rfl⟩)
end Go.Proofs.YtmcjhkbcmmddgaaGreat
end

section
namespace Wal
open Go Leg Codec Api Dsk
theorem uE{x y:Int}(k:Nat)(hx:0≤x)(hx2:x<2^k)(hy:0≤y)(h:x+y*2^k<4294967296):iP .u32 x (y*2^k)=x+y*2^k:=by
 obtain⟨a,rfl⟩:=Int.eq_ofNat_of_zero_le hx;obtain⟨b,rfl⟩:=Int.eq_ofNat_of_zero_le hy;have e2:((b:Nat):Int)*2^k=((b*2^k:Nat):Int):=by simp
 rw[e2]at h ⊢
 have ha:a<2^k:=by
  have:(((2:Nat)^k:Nat):Int)=(2:Int)^k:=by simp
  omega
 have hs:a+b*2^k<4294967296:=by omega
 have h1:(BitVec.ofInt 32 (a:Int)).toNat=a:=by rw[BitVec.toNat_ofInt];omega
 have h2:(BitVec.ofInt 32 ((b*2^k:Nat):Int)).toNat=b*2^k:=by
  rw[BitVec.toNat_ofInt];generalize b*2^k=q at*;omega
 have h3:a|||b*2^k=a+b*2^k:=by
  rw[Nat.or_comm,←Nat.shiftLeft_eq,←Nat.shiftLeft_add_eq_or_of_lt ha,mL]
 show IntKind.u32.wrap (((BitVec.ofInt 32 (a:Int))||| (BitVec.ofInt 32 ((b*2^k:Nat):Int))).toNat:Nat)=_;rw[BitVec.toNat_or,h1,h2,h3];generalize b*2^k=q at*;rw[lc (by omega) (by omega)];omega
theorem Ib{x y:Int}(k:Nat)(hx:0≤x)(hx2:x<2^k)(hy:0≤y)(h:x+y*2^k<9223372036854775808):iP .i64 (y*2^k) x=x+y*2^k:=by
 obtain⟨a,rfl⟩:=Int.eq_ofNat_of_zero_le hx;obtain⟨b,rfl⟩:=Int.eq_ofNat_of_zero_le hy;have e2:((b:Nat):Int)*2^k=((b*2^k:Nat):Int):=by simp
 rw[e2]at h ⊢
 have ha:a<2^k:=by
  have:(((2:Nat)^k:Nat):Int)=(2:Int)^k:=by simp
  omega
 have h1:(BitVec.ofInt 64 (a:Int)).toNat=a:=by rw[BitVec.toNat_ofInt];omega
 have h2:(BitVec.ofInt 64 ((b*2^k:Nat):Int)).toNat=b*2^k:=by
  rw[BitVec.toNat_ofInt];generalize b*2^k=q at*;omega
 have h3:b*2^k|||a=a+b*2^k:=by
  rw[←Nat.shiftLeft_eq,←Nat.shiftLeft_add_eq_or_of_lt ha,mL]
 show IntKind.i64.wrap (((BitVec.ofInt 64 ((b*2^k:Nat):Int))||| (BitVec.ofInt 64 (a:Int))).toNat:Nat)=_;rw[BitVec.toNat_or,h1,h2,h3];generalize b*2^k=q at*;rw[bK (by omega) (by omega)];omega
theorem Hp(x:Int):0≤IntKind.u32.wrap x∧IntKind.u32.wrap x<4294967296:=by
 simp only[IntKind.wrap,IntKind.signed,IntKind.bits];simp;omega
theorem B2(a b:Int):0≤qg .u32 a b∧qg .u32 a b<4294967296:=Hp _
def r8(x:Int):UInt8:=UInt8.ofNat (x%256).toNat
theorem mC(x:Int):(((r8 x).toNat:Nat):Int)=x%256:=by
 have:(x%256).toNat<256:=by omega
 simp only[r8,UInt8.toNat_ofNat'];omega
theorem r8_wrap(x:Int):IntKind.u8.wrap x=(((r8 x).toNat:Nat):Int):=by
 rw[mC];simp only[IntKind.wrap,IntKind.signed,IntKind.bits];simp
def F1(r:Int):Int:=if tS .u32 r 1=1 then qg .u32 (r.fdiv 2) 3988292384 else r.fdiv 2
def m9(r:Int):Nat→Int
 |0=>r
 |k+1=>F1 (m9 r k)
def G3(r:Int)(c:UInt8):Int:=m9 (qg .u32 r ((c.toNat:Nat):Int)) 8
def fM(r:Int)(bs:List UInt8):Int:=bs.foldl G3 r
def gG(bs:List UInt8):Int:=qg .u32 4294967295 (fM 4294967295 bs)
theorem Ea{r:Int}{bs:List UInt8}{k:Nat}(h:k<bs.length):fM r (bs.take (k+1))=G3 (fM r (bs.take k)) (bs.getD k 0):=by
 rw[fM,fM,da h,fk,List.getD_eq_getElem?_getD,List.getElem?_eq_getElem h];rfl
theorem yI(r:Int)(a b:List UInt8):fM r (a++b)=fM (fM r a) b:=by simp[fM]
theorem Eb{r:Int}{ps:List (List UInt8)}{k:Nat}(h:k<ps.length):fM r (ps.take (k+1)).flatten=fM (fM r (ps.take k).flatten) ps[k]:=by
 rw[da h,List.flatten_append,yI];simp
theorem Ec(bs:List UInt8):0≤gG bs∧gG bs<4294967296:=B2 _ _
def QY(r:Int):List UInt8:=[r8 r,r8 (r.fdiv 256),r8 (r.fdiv 65536),r8 (r.fdiv 16777216)]
def Kb(a b c d:UInt8):Int:=
 iP .u32 (iP .u32 (iP .u32 ((a.toNat:Nat):Int) (IntKind.u32.wrap (((b.toNat:Nat):Int)*2^8))) (IntKind.u32.wrap (((c.toNat:Nat):Int)*2^16))) (IntKind.u32.wrap (((d.toNat:Nat):Int)*2^24))
theorem L4(a b c d:UInt8):Kb a b c d=((a.toNat:Nat):Int)+((b.toNat:Nat):Int)*256+((c.toNat:Nat):Int)*65536+((d.toNat:Nat):Int)*16777216:=by
 have ha:=a.toNat_lt;have hb:=b.toNat_lt;have hc:=c.toNat_lt;have hd:=d.toNat_lt;unfold Kb;generalize a.toNat=a at*;generalize b.toNat=b at*;generalize c.toNat=c at*;generalize d.toNat=d at*;rw[lc (x:=(b:Int)*2^8) (by omega) (by omega),lc (x:=(c:Int)*2^16) (by omega) (by omega),lc (x:=(d:Int)*2^24) (by omega) (by omega)];rw[uE 8 (by omega) (by omega) (by omega) (by omega),uE 16 (by omega) (by omega) (by omega) (by omega),uE 24 (by omega) (by omega) (by omega) (by omega)];omega
def qE(bs:List UInt8):List UInt8:=bs++QY (gG bs)
def nt(bs:List UInt8):Option (List UInt8):=
 if bs.length<4 then none
 else if gG (bs.take (bs.length-4))=Kb ((bs.drop (bs.length-4)).getD 0 0) ((bs.drop (bs.length-4)).getD 1 0) ((bs.drop (bs.length-4)).getD 2 0) ((bs.drop (bs.length-4)).getD 3 0)then some (bs.take (bs.length-4))else none
theorem lv(bs:List UInt8):(qE bs).length=bs.length+4:=by simp[qE,QY]
theorem Ka{r:Int}(h:0≤r∧r<4294967296):Kb (r8 r) (r8 (r.fdiv 256)) (r8 (r.fdiv 65536)) (r8 (r.fdiv 16777216))=r:=by
 rw[L4,mC,mC,mC,mC,Int.fdiv_eq_ediv_of_nonneg _ (by decide),Int.fdiv_eq_ediv_of_nonneg _ (by decide),Int.fdiv_eq_ediv_of_nonneg _ (by decide)];omega
theorem rS(bs:List UInt8):nt (qE bs)=some bs:=by
 have hl:=lv bs;have e1:(qE bs).take (bs.length+4-4)=bs:=by rw[IV,qE];exact tW
 have e2:(qE bs).drop (bs.length+4-4)=QY (gG bs):=by rw[IV,qE];exact Ew
 unfold nt;rw[hl,if_neg (by omega),e1,e2];exact if_pos (Ka (Ec bs)).symm
theorem zd{bs t:List UInt8}(h:nt bs=some t):t.length+4=bs.length:=by
 unfold nt at h;split at h
 · cases h
 · split at h
   · injection h with h;subst h;rw[bR];omega
   · cases h
def bj(n:Nat):Nat:=if n=0 then 1 else(n-1) / 52+1
theorem qG(n:Nat):0<bj n:=by unfold bj;split<;>omega
theorem po{n:Nat}(h:n≤3000):bj n≤58:=by unfold bj;split<;>omega
theorem yx(n:Nat):n≤bj n*52:=by unfold bj;split<;>omega
def KX(n:Int):List UInt8:=[r8 (n.fdiv 16777216),r8 (n.fdiv 65536),r8 (n.fdiv 256),r8 n]
def IR(bs:List UInt8):Int:=bs.foldl (λh c=>iP .i64 (IntKind.i64.wrap (h*2^8)) ((c.toNat:Nat):Int)) 0
theorem KA{bs:List UInt8}{k:Nat}(h:k<bs.length):IR (bs.take (k+1))=iP .i64 (IntKind.i64.wrap (IR (bs.take k)*2^8)) (((bs.getD k 0).toNat:Nat):Int):=by
 rw[IR,IR,da h,fk,List.getD_eq_getElem?_getD,List.getElem?_eq_getElem h];rfl
theorem wo{h:Int}(c:UInt8)(h0:0≤h)(h1:h<4294967296):iP .i64 (IntKind.i64.wrap (h*2^8)) ((c.toNat:Nat):Int)=h*256+((c.toNat:Nat):Int):=by
 have hc:=c.toNat_lt;generalize c.toNat=c at*;rw[bK (by omega) (by omega),Ib 8 (by omega) (by omega) (by omega) (by omega)];omega
theorem KB(a b c d:UInt8):IR [a,b,c,d]=((a.toNat:Nat):Int)*16777216+((b.toNat:Nat):Int)*65536+((c.toNat:Nat):Int)*256+((d.toNat:Nat):Int):=by
 have ha:=a.toNat_lt;have hb:=b.toNat_lt;have hc:=c.toNat_lt;have hd:=d.toNat_lt;simp only[IR,List.foldl_cons,List.foldl_nil];rw[wo a (by omega) (by omega),wo b (by omega) (by omega),wo c (by omega) (by omega),wo d (by omega) (by omega)];omega
theorem Mr{n:Int}(h0:0≤n)(h1:n<4294967296):IR (KX n)=n:=by
 rw[KX,KB,mC,mC,mC,mC,Int.fdiv_eq_ediv_of_nonneg _ (by decide),Int.fdiv_eq_ediv_of_nonneg _ (by decide),Int.fdiv_eq_ediv_of_nonneg _ (by decide)];omega
def hJ(b:List UInt8)(i:Nat):List UInt8:=(b.drop (i*52)).take 52
theorem uB(b:List UInt8)(i:Nat):(hJ b i).length≤52:=by rw[hJ,bR];omega
theorem LI{n k:Nat}(h:k<bj n):k*52≤n:=by unfold bj at h;split at h<;>omega
theorem LJ(b:List UInt8)(k:Nat):((b.take (min ((k+1)*52) b.length)).drop (k*52))=hJ b k:=by
 rw[hJ,o8,gp,Nat.one_mul]
 by_cases q:k*52+52≤b.length
 · rw[Nat.min_eq_left q,cq]
 · rw[Nat.min_eq_right (by omega),aD (by rw[ej];omega),aD (by rw[ej];omega)]
theorem H8(b:List UInt8): ∀k,b.length≤k*52→((List.range k).map (hJ b)).flatten=b:=by
 have key: ∀k,((List.range k).map (hJ b)).flatten=b.take (k*52):=by
  intro k
  induction k with
  |zero=>simp
  |succ k ih=>
   rw[de,ec,List.flatten_append,ih,gp,Nat.one_mul,List.take_add];simp[hJ]
 intro k hk;rw[key,aD hk]
def kd(number:Int)(place all:Nat)(p:List UInt8):List UInt8:=KX number++([r8 (place:Int),r8 (all:Int),r8 (p.length:Int)]++(p++List.replicate (52-p.length) 0))
theorem jV{number:Int}{place all:Nat}{p:List UInt8}(h:p.length≤52):(kd number place all p).length=59:=by simp[kd,KX];omega
def qz(number:Int)(place all:Nat)(p:List UInt8):jt:=qE (kd number place all p)++[1]
theorem HI{number:Int}{place all:Nat}{p:List UInt8}(h:p.length≤52):(qz number place all p).length=64:=by simp[qz,lv,jV h]
def bW(number:Int)(b:List UInt8):List jt:=(List.range (bj b.length)).map λi=>qz number i (bj b.length) (hJ b i)
def nC(number:Int)(b:List UInt8)(k:Nat):List jt:=(List.range k).map λi=>qz number i (bj b.length) (hJ b i)
theorem E8(number:Int)(b:List UInt8)(k:Nat):nC number b (k+1)=nC number b k++[qz number k (bj b.length) (hJ b k)]:=by simp[nC,de]
theorem zk(number:Int)(b:List UInt8)(k:Nat):(nC number b k).length=k:=by simp[nC]
theorem Ht{number:Int}{place all:Nat}{p:List UInt8}(h:p.length≤52):
 wr (ek (KX number++([r8 (place:Int),r8 (all:Int),r8 (p.length:Int)]++List.replicate 52 0))) 7 ((ek p).take (min p.length 52))=ek (kd number place all p):=by
 have e:(ek p).take (min p.length 52)=ek p:=aD (by rw[aZ];omega);rw[e,wr,aZ];have e2:(ek (KX number++([r8 (place:Int),r8 (all:Int),r8 (p.length:Int)]++List.replicate 52 0))).take 7=ek (KX number++[r8 (place:Int),r8 (all:Int),r8 (p.length:Int)]):=rfl
 have e3:(ek (KX number++([r8 (place:Int),r8 (all:Int),r8 (p.length:Int)]++List.replicate 52 0))).drop (7+p.length)=ek (List.replicate (52-p.length) 0):=by
  rw[←mr];have:(ek (KX number++([r8 (place:Int),r8 (all:Int),r8 (p.length:Int)]++List.replicate 52 0))).drop 7=ek (List.replicate 52 0):=rfl;rw[this,ek,ek,←lD,List.drop_replicate]
 rw[e2,e3,kd];simp[ek]
theorem dQ(number:Int)(b:List UInt8):(bW number b).length=bj b.length:=by simp[bW]
def fK(s:jt)(number place:Int):Option (List UInt8×Int):=
 match nt (s.take 63)with
 |none=>none
 |some t=>if s.getD 63 0≠1 then none
  else if IR (t.take 4)≠number∨(((t.getD 4 0).toNat:Nat):Int)≠place∨place≥(((t.getD 5 0).toNat:Nat):Int)∨(((t.getD 6 0).toNat:Nat):Int)>52 then none
  else some ((t.drop 7).take (t.getD 6 0).toNat,(((t.getD 5 0).toNat:Nat):Int))
theorem Dn{number:Int}{place all:Nat}{p:List UInt8}(h:p.length≤52)(h0:0≤number)(h1:number<4294967296)(hp:place<all)(ha:all≤255):fK (qz number place all p) number place=some (p,(all:Int)):=by
 have e1:(qz number place all p).take 63=qE (kd number place all p):=by
  rw[qz,cy (by rw[lv,jV h];omega),aD (by rw[lv,jV h];omega)]
 have e2:(qz number place all p).getD 63 0=1:=by
  rw[qz,List.getD_eq_getElem?_getD,List.getElem?_append_right (by rw[lv,jV h];omega),lv,jV h];rfl
 have n1:(((r8 (place:Int)).toNat:Nat):Int)=place:=by rw[mC];omega
 have n2:(((r8 (all:Int)).toNat:Nat):Int)=all:=by rw[mC];omega
 have n3:(((r8 (p.length:Int)).toNat:Nat):Int)=p.length:=by rw[mC];omega
 unfold fK;rw[e1,rS];simp only[e2,ne_eq,not_true_eq_false,if_false];have t4:(kd number place all p).take 4=KX number:=rfl;have g4:(kd number place all p).getD 4 0=r8 (place:Int):=rfl;have g5:(kd number place all p).getD 5 0=r8 (all:Int):=rfl;have g6:(kd number place all p).getD 6 0=r8 (p.length:Int):=rfl;have g7:(kd number place all p).drop 7=p++List.replicate (52-p.length) 0:=rfl;rw[t4,Mr h0 h1,g4,g5,g6,g7,n1,n2,n3];rw[if_neg (by omega)];have n3':(r8 (p.length:Int)).toNat=p.length:=by omega
 rw[n3'];simp
theorem rZ{s:jt}{number place:Int}(h:s.getD 63 0≠1):fK s number place=none:=by
 unfold fK;split
 · rfl
 · rw[if_pos h]
theorem pp{s b:jt}{number place all:Int}(hs:s.length=64)(h:fK s number place=some (b,all)):place<all∧all≤255∧b.length≤52:=by
 unfold fK at h;split at h
 · cases h
 · rename_i t ht
   have hl:=zd ht;split at h
   · cases h
   · split at h
     · cases h
     · rename_i h2
       injection h with h
       simp only[Prod.mk.injEq]at h;obtain⟨rfl,rfl⟩:=h;have:=(t.getD 5 0).toNat_lt;rw[bR];omega
theorem Bg{s:jt}{number place:Int}(h:nt (s.take 63)=none):fK s number place=none:=by simp only[fK,h]
theorem mZ{s t:jt}{number place:Int}(h:nt (s.take 63)=some t)(h2:IR (t.take 4)≠number∨(((t.getD 4 0).toNat:Nat):Int)≠place∨place≥(((t.getD 5 0).toNat:Nat):Int)∨(((t.getD 6 0).toNat:Nat):Int)>52):fK s number place=none:=by
 simp only[fK,h];split
 · rfl
 · first|rfl|rw[if_pos h2]
theorem Dm{s t:jt}{number place:Int}(h:nt (s.take 63)=some t)(h1:s.getD 63 0=1)(h2: ¬(IR (t.take 4)≠number∨(((t.getD 4 0).toNat:Nat):Int)≠place∨place≥(((t.getD 5 0).toNat:Nat):Int)∨(((t.getD 6 0).toNat:Nat):Int)>52)):
 fK s number place=some ((t.drop 7).take (t.getD 6 0).toNat,(((t.getD 5 0).toNat:Nat):Int)):=by
 simp only[fK,h,h1,ne_eq,not_true_eq_false,if_false];rw[if_neg h2]
def lx(rd:Int→jt)(number at' all:Int):Nat→Option (List UInt8)
 |0=>some []
 |k+1=>match lx rd number at' all k with
  |none=>none
  |some b=>match fK (rd (at'+k)) number k with
   |none=>none
   |some (m,same)=>if same=all then some (b++m)else none
def gx(rd:Int→jt)(number at':Int):Option (List UInt8×Int):=
 match fK (rd at') number 0 with
 |none=>none
 |some (_,all)=>(lx rd number at' all all.toNat).map λb=>(b,all)
theorem Fy{rd:Int→jt}{number at' all:Int}{k:Nat}(h:lx rd number at' all k=none): ∀m,k≤m→lx rd number at' all m=none:=by
 intro m hm
 induction hm with
 |refl=>exact h
 |step _ ih=>simp only[lx,ih]
theorem xv{rd:Int→jt}{number at' all:Int}{k:Nat}(h:fK (rd (at'+k)) number k=none∨∃m same,fK (rd (at'+k)) number k=some (m,same)∧same≠all): ∀m,k<m→lx rd number at' all m=none:=by
 refine λm hm=>Fy (k:=k+1) ?_ m hm
 simp only[lx];cases lx rd number at' all k with
 |none=>rfl
 |some b=>
  rcases h with h| ⟨x,same,h,h2⟩
  · simp only[h]
  · simp only[h,if_neg h2]
theorem xx{rd:Int→jt}{number at' all:Int}{k:Nat}{b x:List UInt8}(h:lx rd number at' all k=some b)(h2:fK (rd (at'+k)) number k=some (x,all)):lx rd number at' all (k+1)=some (b++x):=by
 simp only[lx,h,h2,if_true]
theorem Ii{rd:Int→jt}{number at' all:Int}{b:List UInt8}(h:fK (rd at') number 0=some (b,all)):lx rd number at' all 1=some b:=by
 have h0:lx rd number at' all 0=some []:=rfl;have:=xx (rd:=rd) (number:=number) (at':=at') (all:=all) (k:=0) h0 (x:=b) (by simpa using h)
 simpa using this
theorem rz{rd:Int→jt}{number at':Int}(h:fK (rd at') number 0=none):gx rd number at'=none:=by simp only[gx,h]
theorem ry{rd:Int→jt}{number at' all:Int}{b:List UInt8}(h:fK (rd at') number 0=some (b,all))(h2:lx rd number at' all all.toNat=none):gx rd number at'=none:=by simp only[gx,h,h2,Option.map_none]
theorem sV{rd:Int→jt}{number at' all:Int}{b c:List UInt8}(h:fK (rd at') number 0=some (b,all))(h2:lx rd number at' all all.toNat=some c):gx rd number at'=some (c,all):=by simp only[gx,h,h2,Option.map_some]
def gF(rd:Int→jt):Nat→Int→Int→List (List UInt8)×Int
 |0,_,used=>([],used)
 |f+1,cnt,used=>match gx rd (cnt+1) used with
  |none=>([],used)
  |some (b,all)=>let r:=gF rd f (cnt+1) (used+all);(b::r.1,r.2)
def kb:Nat→Int→DS→Int×DS
 |0,_,D=>(0,D)
 |n+1,at',D=>if D.read at'=zs then kb n (at'+1) D else if(D.write at' []).1=0 then kb n (at'+1) (D.write at' []).2 else D.write at' []
structure OpenR where
 err:Int
 recs:List (List UInt8)
 used:Int
 D:DS
def jM:Nat:=2049
theorem tE:jM=2049:=rfl
def bN(D:DS):OpenR:=
 let r:=gF D.read jM 0 0;let w:=kb (2048-r.2).toNat r.2 D
 if w.1≠0 then⟨w.1,[],0,w.2⟩else if w.2.sync.1≠0 then⟨w.2.sync.1,[],0,w.2.sync.2⟩else⟨0,r.1,r.2,w.2.sync.2⟩
def In(s:fN):Prop:=∀p∈s,0≤p.1∧p.1<2048
def DS.In(D:DS):Prop:=Wal.In D.s∧Wal.In D.ws
end Wal
end

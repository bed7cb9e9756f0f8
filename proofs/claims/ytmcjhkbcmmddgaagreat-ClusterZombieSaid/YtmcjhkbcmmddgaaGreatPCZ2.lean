/-
  Joined texts:what a statement's proof reaches.
-/
import Derived.Test.YtmcjhkbcmmddgaaGreatPCZ1
set_option maxHeartbeats 8000000
set_option maxRecDepth 100000
set_option linter.unusedSimpArgs false
set_option linter.unusedVariables false
section
namespace Leg
open Go Codec Api
def RdX(S:World→Prop)(b:Nat)(xs:List Value):Prop:=∀w,S w→∀j v,xs[j]?=some v→w.cell? ⟨b,j,none⟩=some v
theorem RdX.own{H:List HP}{F:Hl}{g cap n:Nat}{xs:List Value}{e size:Nat}(i:Nat)(hi:Nat.blt i H.length=true){v:Value}(hv:v= .slice (some ⟨g,0,none⟩) n cap)(hH:H.getD i (λ_=>True)=Leg.own v n xs e size):RdX (Sat H F) g xs:=λw s j u h=>by
 subst hv;obtain⟨cur,h1,_,_,_,h2⟩:=s.own_block (lb hi) hH;subst h2;rw[List.getElem?_take]at h;split at h
 · simpa [World.cell?,h1]using h
 · cases h
abbrev gq:= @RdX.own
theorem RdX.frm{S:World→Prop}{F:Hl}{b:Nat}{cs:List Value}{T:TypeId}{z:Nat×Nat}(e:F b=some (.cells (List.toArray cs) T z))(hS: ∀w,S w→Frm F w):RdX S b cs:=λw s j u h=>by
 rw[oX (hS w s b _ e)];exact h
abbrev KK:= @RdX.frm
section
variable {P:Program} {w0:World} {F:Hl} {n:Nat} {ops:Array Oper} {Q:QQ} {D:List Deferred} {L:List (Nat×Value)} {H:List HP} {o:Oper} {l:List Oper} {d:Nat} {S:World→Prop}
theorem PV.load1X{t:TypeId}{x:Operand}{dt:TypeDesc}{b j:Nat}{xs:List Value}{v:Value}(ho:o.op= .load t x)
 (ht:P.underlying t=some dt) (hp:dR dt=true) (hx:cK L x=some (.pointer (some ⟨b,j,none⟩))) (hR:RdX S b xs) (hc:xs[j]?=some v):PV P n D L S o (v):=
 λa w f m=>by
  simp[execOp,ho,f.eval hx,zp ht hp (hR w m j v hc)]
abbrev cZ:= @PV.load1X
theorem PV.loadNX{t:TypeId}{x:Operand}{dt:TypeDesc}{b j m:Nat}{xs vs:List Value}(ho:o.op= .load t x)
 (ht:P.underlying t=some dt) (hp:dR dt=false) (hm:(P.info? t).map (·.size)=some m) (hx:cK L x=some (.pointer (some ⟨b,j,none⟩))) (hR:RdX S b xs)
 (hl:vs.length=m) (hc:(xs.drop j).take m=vs):PV P n D L S o (.agg vs.toArray):=
 λa w f s=>by
  have:=zo (P:=P) (w:=w) ht hp (b:=b) (o:=j) hm hl (λi v e=>by
   subst hc;rw[List.getElem?_take]at e;split at e
   · exact hR w s _ v (by simpa using e)
   · cases e)
  simp[execOp,ho,f.eval hx,this]
theorem PV.indexSlV{t e:TypeId}{x y:Operand}{v:Value}{b j len cap s r:Nat}{k:IntKind}{i:Int}(hv:v= .slice (some ⟨b,j,none⟩) len cap)(ho:o.op= .indexAddr t x y)(ht:P.underlying t=some (.slice e))
 (hs:(P.info? e).map (·.size)=some s) (hx:cK L x=some v) (hy:cK L y=some (.int k i)) (h0:0≤i) (h1:i<len) (hr:j+i.toNat*s=r):PV P n D L S o (.pointer (some ⟨b,r,none⟩)):=
 j9 ho ht hs (by rw[←hv];exact hx) hy h0 h1 hr
abbrev bT:= @PV.indexSlV
theorem Sat.own_at{w:World}{v:Value}{nn e size:Nat}{xs:List Value}(i:Nat)(s:Sat H F w)(hi:Nat.blt i H.length=true)(hH:H.getD i (λ_=>True)=own v nn xs e size)(hpos:0<nn):
 ∃g cap,v= .slice (some ⟨g,0,none⟩) nn cap∧(nn≤cap∧cap≤9223372036854775807):=by
 rcases s.own_form (lb hi) hH with⟨_,h0,_⟩| ⟨g,cap,rfl⟩
 · omega
 · obtain⟨_,_,h1,h2,_⟩:=s.own_block (lb hi) hH
   exact⟨g,cap,rfl,h1,by simpa [maxLen]using h2⟩
theorem TC.ownAt{c:Code}{v:Value}{nn e size:Nat}{xs:List Value}(i:Nat)(hi:Nat.blt i H.length=true)(hH:H.getD i (λ_=>True)=own v nn xs e size)(hpos:0<nn)
 (h: ∀g cap,v= .slice (some ⟨g,0,none⟩) nn cap→nn≤cap∧cap≤9223372036854775807→TC P w0 F n c Q D L H):TC P w0 F n c Q D L H:=λa w f s m=>
 let ⟨g,cap,hv,hc⟩:=m.own_at i hi hH hpos;h g cap hv hc a w f s m
theorem TL.ownAt{v:Value}{nn e size:Nat}{xs:List Value}(i:Nat)(hi:Nat.blt i H.length=true)(hH:H.getD i (λ_=>True)=own v nn xs e size)(hpos:0<nn)
 (h: ∀g cap,v= .slice (some ⟨g,0,none⟩) nn cap→nn≤cap∧cap≤9223372036854775807→TL P w0 F n ops Q l D L H):TL P w0 F n ops Q l D L H:=λa w f s m=>
 let ⟨g,cap,hv,hc⟩:=m.own_at i hi hH hpos;h g cap hv hc a w f s m
abbrev jh:= @TL.ownAt
theorem TL.fact{p:Prop}(hp: ∀w,Sat H F w→p)(h:p→TL P w0 F n ops Q l D L H):TL P w0 F n ops Q l D L H:=λa w f s m=>h (hp w m) a w f s m
abbrev yP:= @TL.fact
end
def IsW(v:Value)(bs:List UInt8)(F:Hl):Prop:=IsB v bs F∨∃a c,v= .slice (some a) 0 c∧bs=[]
theorem IsB.w{v:Value}{bs:List UInt8}{F:Hl}(h:IsB v bs F):IsW v bs F:= .inl h
abbrev KQ:= @IsB.w
theorem IsW.more{v:Value}{bs:List UInt8}{F g:Hl}(h:IsW v bs F)(d:Dj g F):IsW v bs (jn g F):=h.imp (λx=>x.more d) id
abbrev PJ:= @IsW.more
theorem IsW.len{v:Value}{bs:List UInt8}{F:Hl}(h:IsW v bs F):pU v bs.length:=by
 rcases h with h| ⟨a,c,rfl,rfl⟩
 · exact h.len
 · exact⟨_,_,rfl⟩
theorem IsW.one{v:Value}{bs:List UInt8}{F:Hl}(h:IsW v bs F):v.oneCell'=true:=by
 rcases h with h| ⟨a,c,rfl,rfl⟩
 · exact h.one
 · rfl
theorem IsW.src{v:Value}{bs:List UInt8}{F:Hl}(h:IsW v bs F){S:World→Prop}(hS: ∀w,S w→Frm F w):Src S v bs.length (ek bs) 1:=by
 rcases h with h| ⟨a,c,rfl,rfl⟩
 · exact h.src hS
 · exact⟨rfl, .inr ⟨a,c,rfl,λw s j u hj=>by simp[ek]at hj⟩⟩
theorem IsW.at{v:Value}{bs:List UInt8}{F:Hl}(h:IsW v bs F){j:Nat}(hj:j<bs.length):
 ∃b off cap cs T z,v= .slice (some ⟨b,off,none⟩) bs.length cap∧F b=some (.cells (List.toArray cs) T z)∧(∀j,j<bs.length→cs[off+j]?=some (.int .u8 ((bs.getD j 0).toNat:Nat)))∧bs.length≤cap:=by
 rcases h with(⟨_,rfl⟩| ⟨b,off,cap,cs,T,z,h0,h1,h2,h3,h4⟩)| ⟨a,c,rfl,rfl⟩
 · simp at hj
 · exact⟨b,off,cap,cs,T,z,h0,h3,h4,h1⟩
 · simp at hj
def pack{α:Type}(p:α→List HP):HP:=λh=>∃x,bz (p x) h
theorem fR{α:Type}{p:α→List HP}{H:List HP}{h:Hl}(s:bz (pack p::H) h): ∃x,bz (p x++H) h:=by
 obtain⟨h1,h2,d,rfl,⟨x,a⟩,b⟩:=s;exact⟨x,(cb _ _).2 ⟨h1,h2,d,rfl,a,b⟩⟩
theorem bn{α:Type}{p:α→List HP}{H:List HP}{h:Hl}(x:α)(s:bz (p x++H) h):bz (pack p::H) h:=
 cF ((cb _ _).1 s) (λ_ a=>⟨x,a⟩) λ_ b=>b
section
variable {P:Program}
theorem Does.pack{α:Type}{f:FuncId}{args:Array Value}{R:Hl→Prop}{p:α→List HP}{B:List HP}{post:Ending→List HP→Prop}(s: ∀x,Does P f args R (p x++B) post):Does P f args R (Leg.pack p::B) post:=λw F r ⟨h,d,e,t⟩=>
 let ⟨x,t'⟩:=fR t;s x w F r ⟨h,d,e,t'⟩
theorem Does.ex{α:Sort _}{f:FuncId}{args:Array Value}{R:Hl→Prop}{A:List HP}{A':α→List HP}{post:Ending→List HP→Prop}(m: ∀h,bz A h→∃x,bz (A' x) h)(s: ∀x,Does P f args R (A' x) post):Does P f args R A post:=λw F r ⟨h,d,e,t⟩=>
 let ⟨x,t'⟩:=m h t;s x w F r ⟨h,d,e,t'⟩
theorem Does.fold{f:FuncId}{args:Array Value}{R:Hl→Prop}{A:List HP}{post post':Ending→List HP→Prop}(s:Does P f args R A post)
 (hpost: ∀e H,post e H→∃H',(∀h,bz H h→bz H' h)∧post' e H'):Does P f args R A post':=
 s.conv (λ_ h=>h) λe H F w c m=>let ⟨H',h1,h2⟩:=hpost e H c;⟨H',m.mono h1,h2⟩
theorem Does.withinR{f:FuncId}{args:Array Value}{R:Hl→Prop}{A B C:List HP}{p p':Value→List HP→Prop}(s:Does P f args R A (dH p))(hR: ∀F g,R F→Dj g F→R (jn g F))(hA: ∀h,bz C h→bz (A++B) h)
 (hp: ∀v H,p v H→∃H',(∀h,bz (H++B) h→bz H' h)∧p' v H'):Does P f args R C (dH p'):=λw F r m=>by
 obtain⟨g,d,b,m'⟩:=Sat.split (m.mono hA);refine(s w _ (hR F g r d) m').mono ?_
 rintro e w' ⟨s',H',m'',q⟩
 cases e with
 |returned v=>obtain⟨H2,h1,h2⟩:=hp v H' q;exact⟨s',H2,(m''.merge d b).mono h1,h2⟩
 |panicked c=>exact q.elim
 |outgrown=>exact q.elim
end
end Leg
namespace Leg
open Go Codec Api
section
variable {P:Program} {n:Nat} {D:List Deferred} {L:List (Nat×Value)} {S:World→Prop} {o:Oper}
theorem PV.to{v v':Value}(h:PV P n D L S o v)(e:v=v'):PV P n D L S o v':=e▸h
abbrev Ri:= @PV.to
theorem PV.sliceArrHi{t e len:Nat}{x y:Operand}{b j s k:Nat}{kk:IntKind}{i:Int}(ho:o.op= .slice t x none (some y) none)(ht:P.underlying t=some (.array len e))(hs:(P.info? e).map (·.size)=some s)(hx:cK L x=some (.pointer (some ⟨b,j,none⟩)))
 (hy:cK L y=some (.int kk i)) (hk:i=(k:Int)) (h1:k≤len) (hl:Nat.blt 0 len=true):PV P n D L S o (.slice (some ⟨b,j,none⟩) k len):=λa w g _=>by
 subst hk;have h0: ¬len=0:=by have:=lb hl;omega
 simp[execOp,ho,g.eval hx,g.eval hy,Instr.sliceAt,run_underlying ht,Instr.sureAddr,Instr.sliceBounds,Instr.sliceBound,asIntOf,h1,ey hs,sz]
abbrev Ra:= @PV.sliceArrHi
end
def Hm(m:Nat)(kv:List (Int×Value))(w:World):Prop:=∃es clock,w.heap[m]?=some (.map (List.toArray es) clock)∧lH es=lI kv
def Hx(b:Nat)(xs:List Value)(w:World):Prop:=∀j v,xs[j]?=some v→w.cell? ⟨b,j,none⟩=some v
theorem ik(e size:Nat){H:List HP}{h:Hl}(s:bz H h):bz (own (.slice none 0 0) 0 [] e size::H) h:=
 ⟨em,h,Ex h,(rG h).symm,⟨by simp, .inl ⟨rfl,rfl,rfl⟩⟩,s⟩
end Leg
namespace Leg
open Go Codec Api
def IsL{α:Type}(size:Nat)(E:List Value→α→Hl→Prop)(v:Value)(l:List α)(F:Hl):Prop:=
 (v= .slice none 0 0∧l=[])∨(∃a c,v= .slice (some a) 0 c∧l=[])∨
 ∃b off cap cs T z,v= .slice (some ⟨b,off,none⟩) l.length cap∧l.length≤cap∧cap≤9223372036854775807∧F b=some (.cells (List.toArray cs) T z)∧
  ∀j (h:j<l.length),∃us,us.length=size∧(cs.drop (off+j*size)).take size=us∧E us l[j] F
section
variable {α:Type} {size:Nat} {E:List Value→α→Hl→Prop} {v:Value} {l:List α} {F g:Hl}
theorem IsL.len(h:IsL size E v l F):pU v l.length:=by
 rcases h with⟨rfl,rfl⟩| ⟨a,c,rfl,rfl⟩| ⟨b,off,cap,cs,T,z,rfl,_⟩<;>exact⟨_,_,rfl⟩
theorem IsL.at(h:IsL size E v l F){j:Nat}(hj:j<l.length):
 ∃b off cap cs T z us,v= .slice (some ⟨b,off,none⟩) l.length cap∧(l.length≤cap∧cap≤9223372036854775807)∧F b=some (.cells (List.toArray cs) T z)∧us.length=size∧(cs.drop (off+j*size)).take size=us∧E us l[j] F:=by
 rcases h with⟨_,rfl⟩| ⟨a,c,_,rfl⟩| ⟨b,off,cap,cs,T,z,h0,h1,h2,h3,h4⟩
 · simp at hj
 · simp at hj
 · obtain⟨us,e1,e2,e3⟩:=h4 j hj
   exact⟨b,off,cap,cs,T,z,us,h0,⟨h1,h2⟩,h3,e1,e2,e3⟩
end
theorem Cr{cs us:List Value}{o n j:Nat}{v:Value}(h:(cs.drop o).take n=us)(hj:us[j]?=some v):cs[o+j]?=some v:=by
 subst h;rw[List.getElem?_take]at hj;split at hj
 · simpa using hj
 · cases hj
def EB(us:List Value)(bs:List UInt8)(F:Hl):Prop:=∃u,us=[u]∧IsW u bs F
abbrev PK(v:Value)(l:List (List UInt8))(F:Hl):Prop:=IsL 1 EB v l F
end Leg
namespace Leg
open Go Codec Api
theorem L6(i:Nat){g T:Nat}{bs:List UInt8}{B:List HP}{F:Hl}(hl:bs.length≤9223372036854775807)(hi:Nat.blt i B.length=true)(e:B.getD i (λ_=>True)=ah g (ek bs) T): ∀h,Dj h F→bz B h→IsB (.slice (some ⟨g,0,none⟩) bs.length bs.length) bs (jn h F):=λh d s=>
 .inr ⟨g,0,bs.length,ek bs,T,(0,0),rfl,aH _,hl,tj i hi e h d s,λj hj=>by simp[ek,List.getD_eq_getElem?_getD,hj]⟩
section
variable {P:Program} {n:Nat} {D:List Deferred} {L:List (Nat×Value)} {S:World→Prop} {o:Oper}
theorem PV.ptrNil{t t':TypeId}{x y:Operand}{a:Addr}(ho:o.op= .binOp .eql t x y t')(ht:P.underlying t=some (.pointer (P.pointee t)))(hx:cK L x=some (.pointer (some a)))(hy:cK L y=some (.pointer none)):PV P n D L S o (.bool false):=
 gT ho hx hy λw=>by
  have:=run_eql_pointer_nil (P:=P) w t (some a) ht
  simpa [eqGuard]using this
abbrev kE:= @PV.ptrNil
theorem PV.nilPtrNil{t t':TypeId}{x y:Operand}(ho:o.op= .binOp .eql t x y t')(ht:P.underlying t=some (.pointer (P.pointee t)))(hx:cK L x=some (.pointer none))(hy:cK L y=some (.pointer none)):PV P n D L S o (.bool true):=
 gT ho hx hy λw=>by
  have:=run_eql_pointer_nil (P:=P) w t none ht
  simpa [eqGuard]using this
abbrev Ru:= @PV.nilPtrNil
theorem PV.ptrNotNil{t t':TypeId}{x y:Operand}{a:Addr}(ho:o.op= .binOp .neq t x y t')(ht:P.underlying t=some (.pointer (P.pointee t)))(hx:cK L x=some (.pointer (some a)))(hy:cK L y=some (.pointer none)):PV P n D L S o (.bool true):=
 gT ho hx hy λw=>by
  have:=run_neq_pointer_nil (P:=P) w t (some a) ht
  simpa [eqGuard]using this
abbrev gH:= @PV.ptrNotNil
theorem PV.nilPtrNotNil{t t':TypeId}{x y:Operand}(ho:o.op= .binOp .neq t x y t')(ht:P.underlying t=some (.pointer (P.pointee t)))(hx:cK L x=some (.pointer none))(hy:cK L y=some (.pointer none)):PV P n D L S o (.bool false):=
 gT ho hx hy λw=>by
  have:=run_neq_pointer_nil (P:=P) w t none ht
  simpa [eqGuard]using this
abbrev gQ:= @PV.nilPtrNotNil
end
end Leg
namespace Leg
open Go Codec Api
section
variable {P:Program} {n:Nat} {D:List Deferred} {L:List (Nat×Value)} {S:World→Prop} {o:Oper}
end
end Leg
namespace Leg
open Go
section
variable {P:Program} {w0:World} {F:Hl} {n:Nat} {Q:QQ} {D:List Deferred} {L:List (Nat×Value)} {H:List HP}
theorem TC.cut{α:Type}{c:Code}{K:Act→World→Prop}(Inv:α→Prop)(Lf:α→List (Nat×Value))(Hf:α→List HP)(tail: ∀x,Inv x→TE w0 F n (Exit.then K Q) .normal D (Lf x) (Hf x))
 (main:(∀x,Inv x→TE w0 F n (Exit.then K Q) .normal D (Lf x) (Hf x))→TC P w0 F n c (Exit.then K Q) D L H):TC P w0 F n c (Exit.then K Q) D L H:=main tail
abbrev fB:= @TC.cut
end
open Codec Api
def Ke:Lit→Option (Option IntKind)
 | .int q _=>some (some q)
 | .bool _=>some none
 |_=>none
def kX:Lit→Value
 | .int q n=> .int q n
 | .bool b=> .bool b
 |_=>undef
def xK(P:Program)(g:TypeId→Option (List (Option IntKind))):List Field→Nat→Option (List (Option IntKind))
 | [],_=>some []
 |f::fs,o=>match g f.type with
  |some c=>if f.offset=o∧P.cellsOf f.type=c.length then(xK P g fs (o+c.length)).map (c++ ·)else none
  |none=>none
def oU(P:Program):Nat→TypeId→Option (List (Option IntKind))
 |0,_=>none
 |d+1,t=>match P.underlying t with
  |some (.int q)=>some [some q]
  |some .bool=>some [none]
  |some (.array n e)=>match oU P d e with
   |some c=>if P.cellsOf e=c.length∧P.cellsOf t=n*c.length then some (List.replicate n c).flatten else none
   |none=>none
  |some (.struct fs)=>match xK P (oU P d) fs.toList 0 with
   | some m => if P.cellsOf t = m.length ∧ fs.all (·.name != "_") = true then some m else none
   |none=>none
  |_=>none
def Fits(ks:List (Option IntKind))(ls:List Lit):Prop:=ls.map Ke=ks.map some∧∀l∈ls,l.wf=true
theorem Fits.len{ks:List (Option IntKind)}{ls:List Lit}(h:Fits ks ls):ls.length=ks.length:=by
 have:=congrArg List.length h.1
 simpa using this
theorem Fits.sub{ks:List (Option IntKind)}{ls:List Lit}(h:Fits ks ls)(a b:Nat):Fits ((ks.drop a).take b) ((ls.drop a).take b):=
 ⟨by rw[qf,lD,h.1,qf,lD],λl hl=>h.2 l (List.mem_of_mem_drop (qX hl))⟩
theorem Ao(l:List Lit)(a b:Nat):((l.map kX).drop a).take b=((l.drop a).take b).map kX:=by simp[lD,qf]
theorem An{α:Type}(c:List α): ∀(n i:Nat),i<n→((List.replicate n c).flatten.drop (i*c.length)).take c.length=c
 |0,_,h=>by omega
 |n+1,0,_=>by
  rw[List.replicate_succ,List.flatten_cons,iK,be];exact tW
 |n+1,i+1,h=>by
  rw[List.replicate_succ,List.flatten_cons,ja,show(i+1)*c.length=i*c.length+c.length by rw[gp,Nat.one_mul],du (by omega),aQ,IV];exact An c n i (by omega)
theorem vA{P:Program}{d:Nat}(ih: ∀t ks,oU P d t=some ks→∀l:List Lit,Fits ks l→P.keyLits d t (l.map kX)=some l)(l:List Lit):
 ∀(fs:List Field) (o:Nat) (ks:List (Option IntKind)),xK P (oU P d) fs o=some ks→o≤l.length→Fits ks (l.drop o)→
  ∃L,(fs.mapM λf=>P.keyLits d f.type (((l.map kX).drop f.offset).take (P.cellsOf f.type)))=some L∧L.flatten=l.drop o
 | [],o,ks,h,_,hf=>by
  simp only[xK,Option.some.injEq]at h;subst h;have:=hf.len;exact⟨[],rfl,(List.eq_nil_of_length_eq_zero (by simpa using this)).symm⟩
 |f::fs,o,ks,h,ho,hf=>by
  simp only[xK]at h;split at h
  · rename_i c hc
    split at h
    · rename_i hh
      obtain⟨m,hm,rfl⟩:=Option.map_eq_some_iff.1 h;have hlen:=hf.len;rw[ai,ej]at hlen
      have f1:Fits c ((l.drop o).take c.length):=by
       have:=hf.sub 0 c.length
       simpa using this
      have f2:Fits m (l.drop (o+c.length)):=by
       have e:(l.drop (o+c.length))=(((l.drop o).drop c.length).take ((l.drop o).length)):=by
        rw[mr,aD (by simp;omega)]
       have:=hf.sub c.length (l.drop o).length;rw[e]
       have e2:(((c++m).drop c.length).take (l.drop o).length)=m:=by
        rw[Ew,aD (by rw[ej];omega)]
       rwa [e2]at this
      obtain⟨L,h1,h2⟩:=vA ih l fs (o+c.length) m hm (by omega) f2
      have e:P.keyLits d f.type (((l.map kX).drop f.offset).take (P.cellsOf f.type))=some ((l.drop o).take c.length):=by
       rw[Ao,hh.1,hh.2];exact ih f.type c hc _ f1
      refine⟨(l.drop o).take c.length::L,by rw[List.mapM_cons,e,h1];rfl,?_⟩;rw[List.flatten_cons,h2,←mr];exact pV _ _
    · cases h
  · cases h
theorem pA{P:Program}: ∀(d:Nat) (t:TypeId) (ks:List (Option IntKind)),oU P d t=some ks→∀l:List Lit,Fits ks l→P.keyLits d t (l.map kX)=some l
 |0,_,_,h=>by simp[oU]at h
 |d+1,t,ks,h=>λl hl=>by
  have ih:=pA (P:=P) d;simp only[oU]at h;split at h
  · rename_i q hu
    simp only[Option.some.injEq]at h;subst h;obtain⟨x,rfl⟩:=y1.1 (by simpa using hl.len);have h1:=hl.1;have h2:=hl.2 x (by simp);simp only[fb,mN,List.cons.injEq,and_true]at h1;cases x<;>simp only[Ke,Option.some.injEq,reduceCtorEq]at h1;subst h1;simp[Program.keyLits,hu,kX,h2]
  · rename_i hu
    simp only[Option.some.injEq]at h;subst h;obtain⟨x,rfl⟩:=y1.1 (by simpa using hl.len);have h1:=hl.1;simp only[fb,mN,List.cons.injEq,and_true]at h1;cases x<;>simp only[Ke,Option.some.injEq,reduceCtorEq]at h1;simp[Program.keyLits,hu,kX]
  · rename_i n e hu
    split at h
    · rename_i c hc
      split at h
      · rename_i hh
        simp only[Option.some.injEq]at h;subst h
        have hlen:l.length=n*c.length:=by
         rw[hl.len];simp[List.length_flatten]
        have hm:((List.range n).mapM λi=>P.keyLits d e (((l.map kX).drop (i*P.cellsOf e)).take (P.cellsOf e)))=some ((List.range n).map λi=>(l.drop (i*c.length)).take c.length):=by
         refine uJ λi hi=>?_
         have hi':i<n:=eX.1 hi;rw[hh.1,Ao];refine ih e c hc _ ?_;have:=hl.sub (i*c.length) c.length
         rwa [An c n i hi']at this
        have hf:(((List.range n).map λi=>(l.drop (i*c.length)).take c.length)).flatten=l:=F4 c.length n l hlen;unfold Program.keyLits;simp only[hu];rw[if_pos (by rw[bY,hlen,hh.2]),hm,Option.map_some,hf]
      · cases h
    · cases h
  · rename_i fs hu
    split at h
    · rename_i m' hc
      split at h
      · rename_i hh
        simp only[Option.some.injEq]at h;subst h;obtain⟨L,h1,h2⟩:=vA (P:=P) (d:=d) (λt m h l=>ih t m h l) l fs.toList 0 _ hc (aO _) (by simpa using hl);unfold Program.keyLits;simp only[hu];rw[if_pos ⟨by rw[bY,hl.len,hh.1],hh.2⟩,h1,Option.map_some,h2];rfl
      · cases h
    · cases h
  · cases h
section
variable {P:Program} {n:Nat} {D:List Deferred} {L:List (Nat×Value)} {S:World→Prop} {o:Oper}
def El(P:Program)(t:TypeId):Bool:=match P.underlying t with
 |some (.struct _)=>true
 |some (.array _ _)=>true
 |_=>false
theorem GW{t:TypeId}{l:List Lit}{ks:List (Option IntKind)}(hu:El P t=true)(hc:P.cellsOf t=ks.length)(h:Fits ks l):Value.formed P t (.agg (l.map kX).toArray)=true:=by
 unfold El at hu;unfold Value.formed;split at hu
 · rename_i h1;simp[h1,hc,h.len]
 · rename_i h1;simp[h1,hc,h.len]
 · cases hu
theorem Gx{t:TypeId}{a b:List Lit}[Decidable (a=b)]{m:Nat}{ks:List (Option IntKind)}(hk:P.keyTypeAt m t=true)(hm:Nat.ble m 10000=true)(hF:oU P m t=some ks)
 (hu:El P t=true) (hc:P.cellsOf t=ks.length) (wa:Fits ks a) (wb:Fits ks b) (w:World):
 (Op.equalIn 10000 t (.agg (a.map kX).toArray) (.agg (b.map kX).toArray)).run P w= .ok (decide (a=b)) w:=by
 have hm':m≤10000:=fh hm;obtain⟨r,hr,hi⟩:=run_equalIn_deep (10000-m) m t hk w m m (.agg (a.map kX).toArray) (.agg (b.map kX).toArray) a b (GW hu hc wa) (GW hu hc wb) (by simpa [Value.cells]using pA m t ks hF a wa) (by simpa [Value.cells]using pA m t ks hF b wb);rw[show 10000-m+m=10000 by omega]at hr
 have e:r=decide (a=b):=by
  rw[Ax,hi,decide_eq_true_iff]
 rw[hr,e]
theorem PV.eqlL{t t':TypeId}{x y:Operand}{a b:List Lit}[Decidable (a=b)]{m:Nat}{ks:List (Option IntKind)}(hg:P.eqGuardType P.depth t=false)(hk:P.keyTypeAt m t=true)(hm:Nat.ble m 10000=true)(hF:oU P m t=some ks)
 (hu:El P t=true) (hc:P.cellsOf t=ks.length) (wa:Fits ks a) (wb:Fits ks b)
 (ho:o.op= .binOp .eql t x y t') (hx:cK L x=some (.agg (a.map kX).toArray)) (hy:cK L y=some (.agg (b.map kX).toArray)):PV P n D L S o (.bool (decide (a=b))):=
 gT ho hx hy λw=>by
  rw[Sem.run_bind,run_eqGuard_agg w .eql t x y _ _ hg,Result.andThen_ok,run_eql_struct,Gx hk hm hF hu hc wa wb w];rfl
theorem PV.neqL{t t':TypeId}{x y:Operand}{a b:List Lit}[Decidable (a=b)]{m:Nat}{ks:List (Option IntKind)}(hg:P.eqGuardType P.depth t=false)(hk:P.keyTypeAt m t=true)(hm:Nat.ble m 10000=true)(hF:oU P m t=some ks)
 (hu:El P t=true) (hc:P.cellsOf t=ks.length) (wa:Fits ks a) (wb:Fits ks b)
 (ho:o.op= .binOp .neq t x y t') (hx:cK L x=some (.agg (a.map kX).toArray)) (hy:cK L y=some (.agg (b.map kX).toArray)):PV P n D L S o (.bool (decide (a≠b))):=
 gT ho hx hy λw=>by
  rw[Sem.run_bind,run_eqGuard_agg w .neq t x y _ _ hg,Result.andThen_ok,run_neq_struct,Gx hk hm hF hu hc wa wb w];simp
end
def tD(l:List UInt8):List Lit:=l.map λb=>Lit.int .u8 ((b.toNat:Nat):Int)
theorem py(l:List UInt8):(tD l).map kX=ek l:=by simp[tD,ek,kX]
theorem litB_inj{a b:List UInt8}:tD a=tD b↔a=b:=by
 refine IW λu v h=>?_
 injection h with _ h
 exact UInt8.toNat_inj.1 (by exact_mod_cast h)
theorem q9{l:List UInt8}{n:Nat}(h:l.length=n):Fits (List.replicate n (some .u8)) (tD l):=by
 subst h;refine⟨?_,λx hx=>?_⟩
 · rw[List.map_replicate,tD,List.map_map,List.eq_replicate_iff]
   refine⟨by simp,λy hy=>?_⟩;obtain⟨z,_,rfl⟩:=gd.1 hy;rfl
 · obtain⟨z,_,rfl⟩:=gd.1 hx
   have:=z.toNat_lt;have m1:IntKind.u8.min=0:=by decide
   have m2:IntKind.u8.max=255:=by decide
   simp only[Lit.wf,m1,m2,decide_eq_true_eq,an];omega
section
variable {P:Program} {n:Nat} {D:List Deferred} {L:List (Nat×Value)} {S:World→Prop} {o:Oper}
theorem PV.neqB{t t':TypeId}{x y:Operand}{a b:List UInt8}{m c:Nat}(hg:P.eqGuardType P.depth t=false)(hk:P.keyTypeAt m t=true)(hm:Nat.ble m 10000=true)(hF:oU P m t=some (List.replicate c (some .u8)))
 (hu:El P t=true) (hc:P.cellsOf t=c) (ha:a.length=c) (hb:b.length=c)
 (ho:o.op= .binOp .neq t x y t') (hx:cK L x=some (.agg (ek a).toArray)) (hy:cK L y=some (.agg (ek b).toArray)):PV P n D L S o (.bool (decide (a≠b))):=by
 letI:Decidable (tD a=tD b):=decidable_of_iff _ litB_inj.symm
 have:=PV.neqL (P:=P) (n:=n) (D:=D) (L:=L) (S:=S) (o:=o) (t:=t) (t':=t') (x:=x) (y:=y) (a:=tD a) (b:=tD b) hg hk hm hF hu (by rw[hc,RA]) (q9 ha) (q9 hb) ho (by rw[py];exact hx) (by rw[py];exact hy)
 simpa [litB_inj]using this
theorem PV.eqlBy{t t':TypeId}{x y:Operand}{a b:List UInt8}{m c:Nat}(hg:P.eqGuardType P.depth t=false)(hk:P.keyTypeAt m t=true)(hm:Nat.ble m 10000=true)(hF:oU P m t=some (List.replicate c (some .u8)))
 (hu:El P t=true) (hc:P.cellsOf t=c) (ha:a.length=c) (hb:b.length=c)
 (ho:o.op= .binOp .eql t x y t') (hx:cK L x=some (.agg (ek a).toArray)) (hy:cK L y=some (.agg (ek b).toArray)):PV P n D L S o (.bool (decide (a=b))):=by
 letI:Decidable (tD a=tD b):=decidable_of_iff _ litB_inj.symm
 have:=PV.eqlL (P:=P) (n:=n) (D:=D) (L:=L) (S:=S) (o:=o) (t:=t) (t':=t') (x:=x) (y:=y) (a:=tD a) (b:=tD b) hg hk hm hF hu (by rw[hc,RA]) (q9 ha) (q9 hb) ho (by rw[py];exact hx) (by rw[py];exact hy)
 simpa [litB_inj]using this
end
theorem Kn(vs:List Value): ∀(o j:Nat) (pre zeros post:List Value),pre.length=o+j→zeros.length=vs.length→
 ((vs.zipIdx j).foldl (λ(cs:Array Value) (c,i)=>cs.setIfInBounds (o+i) c) (pre++(zeros++post)).toArray)=(pre++(vs++post)).toArray:=by
 induction vs with
 |nil=>intro o j pre zeros post _ h;rw[List.eq_nil_of_length_eq_zero h];rfl
 |cons v vs ih=>
  intro o j pre zeros post hp hz
  match zeros,hz with
  |z::zeros,hz=>
   rw[List.zipIdx_cons,List.foldl_cons]
   have e:(pre++(z::zeros++post)).toArray.setIfInBounds (o+j) v=((pre++[v])++(zeros++post)).toArray:=by
    rw[List.setIfInBounds_toArray,gY _ _ (by omega),hp,yZ,kI,bZ,aE];rfl
   simp only[e];rw[ih o (j+1) (pre++[v]) zeros post (by simp;omega) (by simpa using hz),aE];rfl
def vS:List (List Value)→Nat→List (Nat×Nat)
 | [],_=>[]
 |s::ss,o=>(o,s.length)::vS ss (o+s.length)
def lu(segs:List (List Value)):List (Nat×List Value)→Option (List (List Value))
 | []=>some segs
 | (i,v)::ps=>match segs[i]?with
  |some s=>if v.length=s.length then lu (segs.set i v) ps else none
  |none=>none
theorem Dp: ∀(segs:List (List Value)) (o i:Nat) (s v:List Value),segs[i]?=some s→v.length=s.length→vS (segs.set i v) o=vS segs o
 | [],_,_,_,_,h,_=>by simp at h
 |s::ss,o,0,t,v,h,hl=>by
  simp only[List.getElem?_cons_zero,Option.some.injEq]at h;subst h;simp[vS,hl]
 |s::ss,o,i+1,t,v,h,hl=>by
  simp only[List.getElem?_cons_succ]at h;simp[vS,Dp ss _ i t v h hl]
theorem w7: ∀(segs:List (List Value)) (o i:Nat) (s:List Value),segs[i]?=some s→∃A B,segs.flatten=A++(s++B)∧(vS segs o)[i]?=some (o+A.length,s.length)∧∀v,(segs.set i v).flatten=A++(v++B)
 | [],_,_,_,h=>by simp at h
 |s::ss,o,0,t,h=>by
  simp only[List.getElem?_cons_zero,Option.some.injEq]at h;subst h;exact⟨[],ss.flatten,by simp,by simp[vS],λv=>by simp⟩
 |s::ss,o,i+1,t,h=>by
  simp only[List.getElem?_cons_succ]at h;obtain⟨A,B,h1,h2,h3⟩:=w7 ss (o+s.length) i t h;refine⟨s++A,B,by simp[h1],?_,λv=>by simp[h3 v]⟩;simp only[vS,List.getElem?_cons_succ,h2,ai,nR]
theorem Ae: ∀(parts:List (Nat×List Value)) (vals:List (Nat×Value)) (segs res:List (List Value)) (place:Nat→Option (Nat×Nat)),(∀i,i<segs.length→place i=(vS segs 0)[i]?)→vals.map (λp=>(p.1,p.2.cells))=parts.map (λp=>(p.1,p.2.toArray))→lu segs parts=some res→
 Instr.fill place segs.flatten.toArray vals=some res.flatten.toArray
 | [],[],segs,res,place,_,_,h=>by
  simp only[lu,Option.some.injEq]at h;subst h;rfl
 | [],_::_,_,_,_,_,h,_=>by simp at h
 |_::_,[],_,_,_,_,h,_=>by simp at h
 | (i,v)::ps,(i',u)::us,segs,res,place,hp,hv,h=>by
  simp only[fb,List.cons.injEq,Prod.mk.injEq]at hv;obtain⟨⟨rfl,hu⟩,hv⟩:=hv;simp only[lu]at h;split at h
  · rename_i s hs
    split at h
    · rename_i hl
      have hi:i'<segs.length:=(List.getElem?_eq_some_iff.1 hs).1;obtain⟨A,B,h1,h2,h3⟩:=w7 segs 0 i' s hs;simp only[bq]at h2;have e:=Kn v A.length 0 A s B (by simp) (by omega);have ih:=Ae ps us (segs.set i' v) res place (λj hj=>by rw[Dp segs 0 i' s v hs hl];exact hp j (by simpa using hj)) hv h;rw[h3]at ih;simp only[Instr.fill,hp i' hi,h2,hu,List.size_toArray,h1];rw[if_neg (by simp[hl])];rw[←ih,←e];congr 1;rw[←Array.foldl_toList,Array.toList_zipIdx]
    · cases h
  · cases h
theorem F7{P:Program}{t:TypeId}{fs:Array Field}{segs res:List (List Value)}{parts:List (Nat×List Value)}{vals:List (Nat×Value)}(ht:P.underlying t=some (.struct fs))(hz:(P.info? t).map (·.zero)=some (some (.agg segs.flatten.toArray)))
 (hp:fs.toList.mapM (λf=>(P.info? f.type).map λi=>(f.offset,i.size))=some (vS segs 0)) (hv:vals.map (λp=>(p.1,p.2.cells))=parts.map (λp=>(p.1,p.2.toArray))) (h:lu segs parts=some res):P.built t vals=some res.flatten.toArray:=by
 obtain⟨i,hi,hz'⟩:=Option.map_eq_some_iff.1 hz;unfold Program.built;simp only[hi,ht,hz',hp];exact Ae parts vals segs res _ (λj _=>by simp) hv h
section
variable {P:Program} {n:Nat} {D:List Deferred} {L:List (Nat×Value)} {S:World→Prop} {o:Oper}
theorem PV.buildSegs{t:TypeId}{ps:Array (Nat×Operand)}{fs:Array Field}{segs res:List (List Value)}{parts:List (Nat×List Value)}{vals:List (Nat×Value)}{cs:List Value}(ho:o.op= .build t ps)(hx:KW L ps.toList=some vals)(ht:P.underlying t=some (.struct fs))
 (hz:(P.info? t).map (·.zero)=some (some (.agg segs.flatten.toArray))) (hp:fs.toList.mapM (λf=>(P.info? f.type).map λi=>(f.offset,i.size))=some (vS segs 0)) (hv:vals.map (λp=>(p.1,p.2.cells))=parts.map (λp=>(p.1,p.2.toArray))) (h:lu segs parts=some res) (hc:res.flatten=cs):PV P n D L S o (.agg cs.toArray):=by
 subst hc;exact kF ho hx (F7 ht hz hp hv h)
abbrev yX:= @PV.buildSegs
end
inductive SL:List (List Value)→List Nat→Prop
 |nil:SL [] []
 |cons {s:List Value} {n:Nat} {L:List (List Value)} {ns:List Nat} (h:s.length=n) (r:SL L ns):SL (s::L) (n::ns)
theorem SL.split{L:List (List Value)}{ns:List Nat}(h:SL L ns)(i:Nat){n:Nat}(hn:ns[i]?=some n): ∃s A B,L[i]?=some s∧s.length=n∧L.flatten=A++(s++B)∧A.length=(ns.take i).sum∧∀v,(L.set i v).flatten=A++(v++B):=by
 induction h generalizing i with
 |nil=>simp at hn
 | @cons s m L ns hs r ih=>
  cases i with
  |zero=>
   simp only[List.getElem?_cons_zero,Option.some.injEq]at hn;exact⟨s,[],L.flatten,rfl,by omega,by simp,rfl,λv=>by simp⟩
  |succ i=>
   obtain⟨t,A,B,h1,h2,h3,h4,h5⟩:=ih i (by simpa using hn);exact⟨t,s++A,B,by simpa using h1,h2,by simp[h3],by simp[h4,hs],λv=>by simp[h5 v]⟩
theorem SL.len{L:List (List Value)}{ns:List Nat}(h:SL L ns):L.flatten.length=ns.sum:=by
 induction h with
 |nil=>rfl
 |cons hs r ih=>simp[ih,hs]
theorem SL.sub{L:List (List Value)}{ns:List Nat}(h:SL L ns)(i:Nat){s:List Value}{n off:Nat}(j m:Nat)(hn:ns[i]?=some n)(hs:L[i]?=some s)(ho:(ns.take i).sum=off)(hj:j+m≤n):(L.flatten.drop (off+j)).take m=(s.drop j).take m:=by
 obtain⟨t,A,B,h1,h2,h3,h4,_⟩:=h.split i hn;obtain rfl:t=s:=by rw[h1]at hs;exact bm hs
 rw[h3,←ho,←h4,←mr,Ew,kY (by omega),cy (by simp;omega)]
theorem SL.at{L:List (List Value)}{ns:List Nat}(h:SL L ns)(i:Nat){s:List Value}{n off:Nat}(j:Nat)(hn:ns[i]?=some n)(hs:L[i]?=some s)(ho:(ns.take i).sum=off)(hj:j<n):L.flatten[off+j]?=s[j]?:=by
 obtain⟨t,A,B,h1,h2,h3,h4,_⟩:=h.split i hn;obtain rfl:t=s:=by rw[h1]at hs;exact bm hs
 rw[h3,←ho,←h4,List.getElem?_append_right (by omega),cq,List.getElem?_append_left (by omega)]
theorem SL.putIn{L:List (List Value)}{ns:List Nat}(h:SL L ns)(i:Nat){s s':List Value}{n off:Nat}(j:Nat)(vs:List Value)(hn:ns[i]?=some n)(hs:L[i]?=some s)(ho:(ns.take i).sum=off)(hj:j+vs.length≤n)(hw:wr s j vs=s'):wr L.flatten (off+j) vs=(L.set i s').flatten:=by
 obtain⟨t,A,B,h1,h2,h3,h4,h5⟩:=h.split i hn;obtain rfl:t=s:=by rw[h1]at hs;exact bm hs
 rw[h5,h3,←ho,←h4,eM (by omega),cq,iC (by omega),hw]
theorem SL.set{L:List (List Value)}{ns:List Nat}(h:SL L ns)(i:Nat){s:List Value}{n off:Nat}(j:Nat)(v:Value)(hn:ns[i]?=some n)(hs:L[i]?=some s)(ho:(ns.take i).sum=off)(hj:j<n):L.flatten.set (off+j) v=(L.set i (s.set j v)).flatten:=by
 obtain⟨t,A,B,h1,h2,h3,h4,h5⟩:=h.split i hn;obtain rfl:t=s:=by rw[h1]at hs;exact bm hs
 rw[h5,h3,←ho,←h4,gY _ _ (by omega),cq,qW _ _ (by omega)]
theorem SL.around{L:List (List Value)}{ns:List Nat}(h:SL L ns)(i:Nat){s:List Value}{n off:Nat}(hn:ns[i]?=some n)(hs:L[i]?=some s)(ho:(ns.take i).sum=off): ∃A B,L.flatten=A++(s++B)∧A.length=off∧∀v,(L.set i v).flatten=A++(v++B):=by
 obtain⟨t,A,B,h1,h2,h3,h4,h5⟩:=h.split i hn;obtain rfl:t=s:=by rw[h1]at hs;exact bm hs
 exact⟨A,B,h3,by omega,h5⟩
section
variable {P:Program} {w0:World} {F:Hl} {n:Nat} {ops:Array Oper} {Q:QQ} {D:List Deferred} {L:List (Nat×Value)} {H:List HP} {S:World→Prop}
end
end Leg
end

section
namespace Api
open Go Leg
theorem bo{cs:List Value}{n:Nat}(h:cs.length=n):(cs.drop 0).take n=cs:=by rw[be,aD (by omega)]
theorem ct{cs vs:List Value}(h:cs.length=vs.length):wr cs 0 vs=vs:=gC h
theorem kp{n:Nat}(v:Vector Int n){i:Nat}(h:i<n):(ints v.toList)[i]?=some (.int .i64 v[i]):=by simp[ints,h]
theorem za{n:Nat}(v:Vector Int n){i:Nat}(h:i<n)(x:Int):(ints v.toList).set i (.int .i64 x)=ints (v.set i x h).toList:=by rw[rQ];simp[ints,KP]
theorem y9{α:Type}(f:α→List Int)(l:List α):ints (l.flatMap f)=(l.map λx=>ints (f x)).flatten:=by
 induction l with
 |nil=>rfl
 |cons x l ih=>rw[db,eI,ih];rfl
theorem Ch{α:Type}{m:Nat}{f:α→List Int}(hf: ∀x,(f x).length=m): ∀l:List α,SL (l.map λx=>ints (f x)) (List.replicate l.length m)
 | []=> .nil
 |x::l=> .cons (by rw[ints_length,hf]) (Ch hf l)
theorem we(m:Nat): ∀(n i:Nat),i≤n→((List.replicate n m).take i).sum=i*m:=λn i h=>by
 rw[List.take_replicate,Nat.min_eq_left h,List.sum_replicate_nat]
theorem ki{α:Type}{n m:Nat}{f:α→List Int}(hf: ∀x,(f x).length=m)(v:Vector α n){i k o:Nat}(j:Nat)(hi:i<n)(ho:o=i*m+j)(h:j+k≤m){r:List Value}(hr:((ints (f v[i])).drop j).take k=r):
 ((ints (v.toList.flatMap f)).drop o).take k=r:=by
 subst ho;rw[←hr,y9];have hl:=(Ch hf v.toList);exact hl.sub i j k (by simp[hi]) (by simp[hi]) (by simp only[aA];exact we m n i (by omega)) h
theorem n8{α:Type}{n m:Nat}{f:α→List Int}(hf: ∀x,(f x).length=m)(v:Vector α n){i o:Nat}(j:Nat)(hi:i<n)(ho:o=i*m+j)(h:j<m){r:Option Value}(hr:(ints (f v[i]))[j]?=r):
 (ints (v.toList.flatMap f))[o]?=r:=by
 subst ho;rw[←hr,y9];have hl:=(Ch hf v.toList);exact hl.at i j (by simp[hi]) (by simp[hi]) (by simp only[aA];exact we m n i (by omega)) h
theorem vq{α:Type}{n:Nat}(v:Vector α n){i:Nat}(hi:i<n)(g:α→List Value)(y:α):(v.toList.map g).set i (g y)=(v.set i y hi).toList.map g:=by rw[rQ,KP]
theorem u9{α:Type}{n m:Nat}{f:α→List Int}(hf: ∀x,(f x).length=m)(v:Vector α n){i o:Nat}(j:Nat){vs:List Value}{u':α}(hi:i<n)(ho:o=i*m+j)(h:j+vs.length≤m)(hw:wr (ints (f v[i])) j vs=ints (f u')):
 wr (ints (v.toList.flatMap f)) o vs=ints ((v.set i u' hi).toList.flatMap f):=by
 subst ho;rw[y9,y9,←vq v hi (λx=>ints (f x)) u'];have hl:=(Ch hf v.toList);exact hl.putIn i j vs (by simp[hi]) (by simp[hi]) (by simp only[aA];exact we m n i (by omega)) h hw
theorem Je{α:Type}{n m:Nat}{f:α→List Int}(hf: ∀x,(f x).length=m)(v:Vector α n){i o:Nat}(j:Nat){x:Value}{u':α}(hi:i<n)(ho:o=i*m+j)(h:j<m)(hw:(ints (f v[i])).set j x=ints (f u')):
 (ints (v.toList.flatMap f)).set o x=ints ((v.set i u' hi).toList.flatMap f):=by
 subst ho;rw[y9,y9,←vq v hi (λx=>ints (f x)) u',←hw];have hl:=(Ch hf v.toList);exact hl.set i j x (by simp[hi]) (by simp[hi]) (by simp only[aA];exact we m n i (by omega)) h
theorem jq(v:Vector Int 5):(ints v.toList).length=5:=by simp[ints]
theorem eD(v:Vector CellT 4):(ints (bI v.toList)).length=28:=by simp[ints_length,dd]
theorem l5{segs:List (List Value)}:lu segs []=some segs:=rfl
theorem fG{segs:List (List Value)}{i:Nat}{v s:List Value}{ps:List (Nat×List Value)}{res:List (List Value)}(hs:segs[i]?=some s)(hl:v.length=s.length)(h:lu (segs.set i v) ps=some res):lu segs ((i,v)::ps)=some res:=by
 simp only[lu,hs,if_pos hl,h]
theorem uh(v:Vector CellT 4):(bI v.toList).length=28:=by simp[dd]
theorem CellT.sl(m:CellT):SL [[Value.int .i64 m.inn],[Value.int .i64 m.out],ints m.given.toList] [1,1,5]:=(.cons rfl (.cons rfl (.cons (by simp[ints]) .nil)))
abbrev Ey:= @CellT.sl
abbrev CellT.sg(m:CellT):List (List Value):=[[Value.int .i64 m.inn],[Value.int .i64 m.out],ints m.given.toList]
theorem CellT.eq(m:CellT):ints m.flat=[[Value.int .i64 m.inn],[Value.int .i64 m.out],ints m.given.toList].flatten:=by simp[CellT.flat,ints]
abbrev qY:= @CellT.eq
theorem CellT.at_inn(m:CellT){o:Nat}(ho:o=0):(ints m.flat)[o]?=some (Value.int .i64 m.inn):=by subst ho;rw[qY];exact(Ey m).at 0 0 rfl rfl rfl (by decide)
abbrev y3:= @CellT.at_inn
theorem CellT.set_inn(m:CellT){o:Nat}(ho:o=0)(x:Int):(ints m.flat).set o (Value.int .i64 x)=ints ({m with inn:=x}:CellT).flat:=by subst ho;rw[qY,qY];exact(Ey m).set 0 0 _ rfl rfl rfl (by decide)
theorem CellT.at_out(m:CellT){o:Nat}(ho:o=1):(ints m.flat)[o]?=some (Value.int .i64 m.out):=by subst ho;rw[qY];exact(Ey m).at 1 0 rfl rfl rfl (by decide)
abbrev y2:= @CellT.at_out
theorem CellT.set_out(m:CellT){o:Nat}(ho:o=1)(x:Int):(ints m.flat).set o (Value.int .i64 x)=ints ({m with out:=x}:CellT).flat:=by subst ho;rw[qY,qY];exact(Ey m).set 1 0 _ rfl rfl rfl (by decide)
theorem CellT.pt_given(m:CellT){o:Nat}(j:Nat)(ho:o=2+j)(h:j<5){r:Option Value}(hr:(ints m.given.toList)[j]?=r):(ints m.flat)[o]?=r:=by subst ho;rw[←hr,qY];exact(Ey m).at 2 j rfl rfl rfl h
abbrev PN:= @CellT.pt_given
theorem CellT.sub_given(m:CellT){o k:Nat}(j:Nat)(ho:o=2+j)(h:j+k≤5){r:List Value}(hr:((ints m.given.toList).drop j).take k=r):((ints m.flat).drop o).take k=r:=by subst ho;rw[←hr,qY];exact(Ey m).sub 2 j k rfl rfl rfl h
theorem CellT.st_given(m:CellT){o:Nat}(j:Nat){v:Value}{u':Vector Int 5}(ho:o=2+j)(h:j<5)(hw:(ints m.given.toList).set j v=ints u'.toList):(ints m.flat).set o v=ints ({m with given:=u'}:CellT).flat:=by subst ho;rw[qY,qY];exact((Ey m).set 2 j v rfl rfl rfl h).trans (by rw[hw];rfl)
theorem RowT.sl(m:RowT):SL [[Value.int .i64 m.version],ints (bI m.cells.toList),ints m.heir.toList,ints (m.left.toList.flatMap λv=>bI v.toList)] [1,28,5,140]:=(.cons rfl (.cons (by simp[ints_length,dd]) (.cons (by simp[ints]) (.cons (by rw[ints_length,tF];simp) .nil))))
abbrev vK:= @RowT.sl
abbrev RowT.sg(m:RowT):List (List Value):=[[Value.int .i64 m.version],ints (bI m.cells.toList),ints m.heir.toList,ints (m.left.toList.flatMap λv=>bI v.toList)]
theorem RowT.eq(m:RowT):ints m.flat=[[Value.int .i64 m.version],ints (bI m.cells.toList),ints m.heir.toList,ints (m.left.toList.flatMap λv=>bI v.toList)].flatten:=by simp[RowT.flat,ints]
abbrev nU:= @RowT.eq
theorem RowT.at_version(m:RowT){o:Nat}(ho:o=0):(ints m.flat)[o]?=some (Value.int .i64 m.version):=by subst ho;rw[nU];exact(vK m).at 0 0 rfl rfl rfl (by decide)
abbrev cf:= @RowT.at_version
theorem RowT.set_version(m:RowT){o:Nat}(ho:o=0)(x:Int):(ints m.flat).set o (Value.int .i64 x)=ints ({m with version:=x}:RowT).flat:=by subst ho;rw[nU,nU];exact(vK m).set 0 0 _ rfl rfl rfl (by decide)
abbrev yf:= @RowT.set_version
theorem RowT.pt_cells(m:RowT){o:Nat}(j:Nat)(ho:o=1+j)(h:j<28){r:Option Value}(hr:(ints (bI m.cells.toList))[j]?=r):(ints m.flat)[o]?=r:=by subst ho;rw[←hr,nU];exact(vK m).at 1 j rfl rfl rfl h
abbrev vX:= @RowT.pt_cells
theorem RowT.sub_cells(m:RowT){o k:Nat}(j:Nat)(ho:o=1+j)(h:j+k≤28){r:List Value}(hr:((ints (bI m.cells.toList)).drop j).take k=r):((ints m.flat).drop o).take k=r:=by subst ho;rw[←hr,nU];exact(vK m).sub 1 j k rfl rfl rfl h
abbrev Es:= @RowT.sub_cells
theorem RowT.st_cells(m:RowT){o:Nat}(j:Nat){v:Value}{u':Vector CellT 4}(ho:o=1+j)(h:j<28)(hw:(ints (bI m.cells.toList)).set j v=ints (bI u'.toList)):(ints m.flat).set o v=ints ({m with cells:=u'}:RowT).flat:=by subst ho;rw[nU,nU];exact((vK m).set 1 j v rfl rfl rfl h).trans (by rw[hw];rfl)
abbrev Q4:= @RowT.st_cells
theorem RowT.pt_heir(m:RowT){o:Nat}(j:Nat)(ho:o=29+j)(h:j<5){r:Option Value}(hr:(ints m.heir.toList)[j]?=r):(ints m.flat)[o]?=r:=by subst ho;rw[←hr,nU];exact(vK m).at 2 j rfl rfl rfl h
abbrev sB:= @RowT.pt_heir
theorem RowT.sub_heir(m:RowT){o k:Nat}(j:Nat)(ho:o=29+j)(h:j+k≤5){r:List Value}(hr:((ints m.heir.toList).drop j).take k=r):((ints m.flat).drop o).take k=r:=by subst ho;rw[←hr,nU];exact(vK m).sub 2 j k rfl rfl rfl h
abbrev Hc:= @RowT.sub_heir
theorem RowT.st_heir(m:RowT){o:Nat}(j:Nat){v:Value}{u':Vector Int 5}(ho:o=29+j)(h:j<5)(hw:(ints m.heir.toList).set j v=ints u'.toList):(ints m.flat).set o v=ints ({m with heir:=u'}:RowT).flat:=by subst ho;rw[nU,nU];exact((vK m).set 2 j v rfl rfl rfl h).trans (by rw[hw];rfl)
theorem RowT.sub_left(m:RowT){o k:Nat}(j:Nat)(ho:o=34+j)(h:j+k≤140){r:List Value}(hr:((ints (m.left.toList.flatMap λv=>bI v.toList)).drop j).take k=r):((ints m.flat).drop o).take k=r:=by subst ho;rw[←hr,nU];exact(vK m).sub 3 j k rfl rfl rfl h
abbrev Hb:= @RowT.sub_left
theorem RowT.wr_left_(m:RowT){o:Nat}(j:Nat){vs:List Value}{u':Vector (Vector CellT 4) 5}(ho:o=34+j)(h:j+vs.length≤140)(hw:wr (ints (m.left.toList.flatMap λv=>bI v.toList)) j vs=ints (u'.toList.flatMap λv=>bI v.toList)):wr (ints m.flat) o vs=ints ({m with left:=u'}:RowT).flat:=by subst ho;rw[nU,nU];exact(vK m).putIn 3 j vs rfl rfl rfl h hw
theorem ViewT.sl(m:ViewT):SL [[Value.int .i64 m.epoch],[Value.int .i64 m.members],ints m.heirs.toList] [1,1,5]:=(.cons rfl (.cons rfl (.cons (by simp[ints]) .nil)))
abbrev ye:= @ViewT.sl
abbrev ViewT.sg(m:ViewT):List (List Value):=[[Value.int .i64 m.epoch],[Value.int .i64 m.members],ints m.heirs.toList]
theorem ViewT.eq(m:ViewT):ints m.flat=[[Value.int .i64 m.epoch],[Value.int .i64 m.members],ints m.heirs.toList].flatten:=by simp[ViewT.flat,ints]
abbrev nQ:= @ViewT.eq
theorem ViewT.len(m:ViewT):(ints m.flat).length=7:=by rw[nQ,(ye m).len];rfl
abbrev am:= @ViewT.len
theorem ViewT.at_epoch(m:ViewT){o:Nat}(ho:o=0):(ints m.flat)[o]?=some (Value.int .i64 m.epoch):=by subst ho;rw[nQ];exact(ye m).at 0 0 rfl rfl rfl (by decide)
abbrev aY:= @ViewT.at_epoch
theorem ViewT.set_epoch(m:ViewT){o:Nat}(ho:o=0)(x:Int):(ints m.flat).set o (Value.int .i64 x)=ints ({m with epoch:=x}:ViewT).flat:=by subst ho;rw[nQ,nQ];exact(ye m).set 0 0 _ rfl rfl rfl (by decide)
theorem ViewT.at_members(m:ViewT){o:Nat}(ho:o=1):(ints m.flat)[o]?=some (Value.int .i64 m.members):=by subst ho;rw[nQ];exact(ye m).at 1 0 rfl rfl rfl (by decide)
abbrev mI:= @ViewT.at_members
theorem ViewT.set_members(m:ViewT){o:Nat}(ho:o=1)(x:Int):(ints m.flat).set o (Value.int .i64 x)=ints ({m with members:=x}:ViewT).flat:=by subst ho;rw[nQ,nQ];exact(ye m).set 1 0 _ rfl rfl rfl (by decide)
theorem ViewT.pt_heirs(m:ViewT){o:Nat}(j:Nat)(ho:o=2+j)(h:j<5){r:Option Value}(hr:(ints m.heirs.toList)[j]?=r):(ints m.flat)[o]?=r:=by subst ho;rw[←hr,nQ];exact(ye m).at 2 j rfl rfl rfl h
theorem ViewT.sub_heirs(m:ViewT){o k:Nat}(j:Nat)(ho:o=2+j)(h:j+k≤5){r:List Value}(hr:((ints m.heirs.toList).drop j).take k=r):((ints m.flat).drop o).take k=r:=by subst ho;rw[←hr,nQ];exact(ye m).sub 2 j k rfl rfl rfl h
theorem ViewT.st_heirs(m:ViewT){o:Nat}(j:Nat){v:Value}{u':Vector Int 5}(ho:o=2+j)(h:j<5)(hw:(ints m.heirs.toList).set j v=ints u'.toList):(ints m.flat).set o v=ints ({m with heirs:=u'}:ViewT).flat:=by subst ho;rw[nQ,nQ];exact((ye m).set 2 j v rfl rfl rfl h).trans (by rw[hw];rfl)
theorem ChangeT.sl(m:ChangeT):SL [[Value.int .i64 m.kind],[Value.int .i64 m.who],[Value.int .i64 m.heir]] [1,1,1]:=(.cons rfl (.cons rfl (.cons rfl .nil)))
abbrev PM:= @ChangeT.sl
abbrev ChangeT.sg(m:ChangeT):List (List Value):=[[Value.int .i64 m.kind],[Value.int .i64 m.who],[Value.int .i64 m.heir]]
theorem ChangeT.eq(m:ChangeT):ints m.flat=[[Value.int .i64 m.kind],[Value.int .i64 m.who],[Value.int .i64 m.heir]].flatten:=by simp[ChangeT.flat,ints]
abbrev I0:= @ChangeT.eq
theorem ChangeT.len(m:ChangeT):(ints m.flat).length=3:=by rw[I0,(PM m).len];rfl
abbrev aK:= @ChangeT.len
theorem ChangeT.at_kind(m:ChangeT){o:Nat}(ho:o=0):(ints m.flat)[o]?=some (Value.int .i64 m.kind):=by subst ho;rw[I0];exact(PM m).at 0 0 rfl rfl rfl (by decide)
theorem ChangeT.at_who(m:ChangeT){o:Nat}(ho:o=1):(ints m.flat)[o]?=some (Value.int .i64 m.who):=by subst ho;rw[I0];exact(PM m).at 1 0 rfl rfl rfl (by decide)
abbrev jj:= @ChangeT.at_who
theorem ChangeT.at_heir(m:ChangeT){o:Nat}(ho:o=2):(ints m.flat)[o]?=some (Value.int .i64 m.heir):=by subst ho;rw[I0];exact(PM m).at 2 0 rfl rfl rfl (by decide)
abbrev rq:= @ChangeT.at_heir
theorem BallotT.sl(m:BallotT):SL [[Value.int .i64 m.round],[Value.int .i64 m.who]] [1,1]:=(.cons rfl (.cons rfl .nil))
abbrev BallotT.sg(m:BallotT):List (List Value):=[[Value.int .i64 m.round],[Value.int .i64 m.who]]
theorem BallotT.eq(m:BallotT):ints m.flat=[[Value.int .i64 m.round],[Value.int .i64 m.who]].flatten:=by simp[BallotT.flat,ints]
abbrev PR:= @BallotT.eq
theorem BallotT.len(m:BallotT):(ints m.flat).length=2:=by rw[PR,(BallotT.sl m).len];rfl
abbrev ao:= @BallotT.len
theorem BallotT.at_round(m:BallotT){o:Nat}(ho:o=0):(ints m.flat)[o]?=some (Value.int .i64 m.round):=by subst ho;rw[PR];exact(BallotT.sl m).at 0 0 rfl rfl rfl (by decide)
abbrev fF:= @BallotT.at_round
theorem BallotT.at_who(m:BallotT){o:Nat}(ho:o=1):(ints m.flat)[o]?=some (Value.int .i64 m.who):=by subst ho;rw[PR];exact(BallotT.sl m).at 1 0 rfl rfl rfl (by decide)
theorem MsgT.sl(m:MsgT):SL [[Value.int .i64 m.kind],[Value.int .i64 m.whose],ints m.row.flat,[Value.int .i64 m.version],[Value.int .i64 m.epoch],ints m.ballot.flat,ints m.had.flat,ints m.change.flat,ints m.view.flat] [1,1,174,1,1,2,2,3,7]:=(.cons rfl (.cons rfl (.cons (ag _) (.cons rfl (.cons rfl (.cons (ao _) (.cons (ao _) (.cons (aK _) (.cons (am _) .nil)))))))))
abbrev iL:= @MsgT.sl
abbrev MsgT.sg(m:MsgT):List (List Value):=[[Value.int .i64 m.kind],[Value.int .i64 m.whose],ints m.row.flat,[Value.int .i64 m.version],[Value.int .i64 m.epoch],ints m.ballot.flat,ints m.had.flat,ints m.change.flat,ints m.view.flat]
theorem MsgT.eq(m:MsgT):ints m.flat=[[Value.int .i64 m.kind],[Value.int .i64 m.whose],ints m.row.flat,[Value.int .i64 m.version],[Value.int .i64 m.epoch],ints m.ballot.flat,ints m.had.flat,ints m.change.flat,ints m.view.flat].flatten:=by simp[MsgT.flat,ints]
abbrev br:= @MsgT.eq
theorem MsgT.len(m:MsgT):(ints m.flat).length=192:=by rw[br,(iL m).len];rfl
abbrev aI:= @MsgT.len
theorem MsgT.at_kind(m:MsgT){o:Nat}(ho:o=0):(ints m.flat)[o]?=some (Value.int .i64 m.kind):=by subst ho;rw[br];exact(iL m).at 0 0 rfl rfl rfl (by decide)
abbrev fj:= @MsgT.at_kind
theorem MsgT.set_kind(m:MsgT){o:Nat}(ho:o=0)(x:Int):(ints m.flat).set o (Value.int .i64 x)=ints ({m with kind:=x}:MsgT).flat:=by subst ho;rw[br,br];exact(iL m).set 0 0 _ rfl rfl rfl (by decide)
theorem MsgT.at_whose(m:MsgT){o:Nat}(ho:o=1):(ints m.flat)[o]?=some (Value.int .i64 m.whose):=by subst ho;rw[br];exact(iL m).at 1 0 rfl rfl rfl (by decide)
abbrev cm:= @MsgT.at_whose
theorem MsgT.set_whose(m:MsgT){o:Nat}(ho:o=1)(x:Int):(ints m.flat).set o (Value.int .i64 x)=ints ({m with whose:=x}:MsgT).flat:=by subst ho;rw[br,br];exact(iL m).set 1 0 _ rfl rfl rfl (by decide)
theorem MsgT.pt_row(m:MsgT){o:Nat}(j:Nat)(ho:o=2+j)(h:j<174){r:Option Value}(hr:(ints m.row.flat)[j]?=r):(ints m.flat)[o]?=r:=by subst ho;rw[←hr,br];exact(iL m).at 2 j rfl rfl rfl h
theorem MsgT.sub_row(m:MsgT){o k:Nat}(j:Nat)(ho:o=2+j)(h:j+k≤174){r:List Value}(hr:((ints m.row.flat).drop j).take k=r):((ints m.flat).drop o).take k=r:=by subst ho;rw[←hr,br];exact(iL m).sub 2 j k rfl rfl rfl h
abbrev mM:= @MsgT.sub_row
theorem MsgT.wr_row_(m:MsgT){o:Nat}(j:Nat){vs:List Value}{u':RowT}(ho:o=2+j)(h:j+vs.length≤174)(hw:wr (ints m.row.flat) j vs=ints u'.flat):wr (ints m.flat) o vs=ints ({m with row:=u'}:MsgT).flat:=by subst ho;rw[br,br];exact(iL m).putIn 2 j vs rfl rfl rfl h hw
theorem MsgT.sp_row(m:MsgT):((ints m.flat).drop 2).take 174=ints m.row.flat:=mM m 0 rfl (by decide) (bo ((ag _):(ints m.row.flat).length=174))
theorem MsgT.wp_row(m:MsgT)(u:RowT):wr (ints m.flat) 2 (ints u.flat)=ints ({m with row:=u}:MsgT).flat:=MsgT.wr_row_ m 0 rfl (by rw[bq];exact dB ((ag _):(ints u.flat).length=174)) (ct (Eq.trans ((ag _):(ints m.row.flat).length=174) (Eq.symm ((ag _):(ints u.flat).length=174))))
theorem MsgT.at_version(m:MsgT){o:Nat}(ho:o=176):(ints m.flat)[o]?=some (Value.int .i64 m.version):=by subst ho;rw[br];exact(iL m).at 3 0 rfl rfl rfl (by decide)
theorem MsgT.set_version(m:MsgT){o:Nat}(ho:o=176)(x:Int):(ints m.flat).set o (Value.int .i64 x)=ints ({m with version:=x}:MsgT).flat:=by subst ho;rw[br,br];exact(iL m).set 3 0 _ rfl rfl rfl (by decide)
theorem MsgT.at_epoch(m:MsgT){o:Nat}(ho:o=177):(ints m.flat)[o]?=some (Value.int .i64 m.epoch):=by subst ho;rw[br];exact(iL m).at 4 0 rfl rfl rfl (by decide)
abbrev fa:= @MsgT.at_epoch
theorem MsgT.set_epoch(m:MsgT){o:Nat}(ho:o=177)(x:Int):(ints m.flat).set o (Value.int .i64 x)=ints ({m with epoch:=x}:MsgT).flat:=by subst ho;rw[br,br];exact(iL m).set 4 0 _ rfl rfl rfl (by decide)
abbrev PI:= @MsgT.set_epoch
theorem MsgT.pt_ballot(m:MsgT){o:Nat}(j:Nat)(ho:o=178+j)(h:j<2){r:Option Value}(hr:(ints m.ballot.flat)[j]?=r):(ints m.flat)[o]?=r:=by subst ho;rw[←hr,br];exact(iL m).at 5 j rfl rfl rfl h
theorem MsgT.sub_ballot(m:MsgT){o k:Nat}(j:Nat)(ho:o=178+j)(h:j+k≤2){r:List Value}(hr:((ints m.ballot.flat).drop j).take k=r):((ints m.flat).drop o).take k=r:=by subst ho;rw[←hr,br];exact(iL m).sub 5 j k rfl rfl rfl h
abbrev jw:= @MsgT.sub_ballot
theorem MsgT.wr_ballot_(m:MsgT){o:Nat}(j:Nat){vs:List Value}{u':BallotT}(ho:o=178+j)(h:j+vs.length≤2)(hw:wr (ints m.ballot.flat) j vs=ints u'.flat):wr (ints m.flat) o vs=ints ({m with ballot:=u'}:MsgT).flat:=by subst ho;rw[br,br];exact(iL m).putIn 5 j vs rfl rfl rfl h hw
theorem MsgT.sp_ballot(m:MsgT):((ints m.flat).drop 178).take 2=ints m.ballot.flat:=jw m 0 rfl (by decide) (bo ((ao _):(ints m.ballot.flat).length=2))
abbrev o6:= @MsgT.sp_ballot
theorem MsgT.wp_ballot(m:MsgT)(u:BallotT):wr (ints m.flat) 178 (ints u.flat)=ints ({m with ballot:=u}:MsgT).flat:=MsgT.wr_ballot_ m 0 rfl (by rw[bq];exact dB ((ao _):(ints u.flat).length=2)) (ct (Eq.trans ((ao _):(ints m.ballot.flat).length=2) (Eq.symm ((ao _):(ints u.flat).length=2))))
abbrev PH:= @MsgT.wp_ballot
theorem MsgT.sub_had(m:MsgT){o k:Nat}(j:Nat)(ho:o=180+j)(h:j+k≤2){r:List Value}(hr:((ints m.had.flat).drop j).take k=r):((ints m.flat).drop o).take k=r:=by subst ho;rw[←hr,br];exact(iL m).sub 6 j k rfl rfl rfl h
abbrev Rw:= @MsgT.sub_had
theorem MsgT.wr_had_(m:MsgT){o:Nat}(j:Nat){vs:List Value}{u':BallotT}(ho:o=180+j)(h:j+vs.length≤2)(hw:wr (ints m.had.flat) j vs=ints u'.flat):wr (ints m.flat) o vs=ints ({m with had:=u'}:MsgT).flat:=by subst ho;rw[br,br];exact(iL m).putIn 6 j vs rfl rfl rfl h hw
theorem MsgT.sp_had(m:MsgT):((ints m.flat).drop 180).take 2=ints m.had.flat:=Rw m 0 rfl (by decide) (bo ((ao _):(ints m.had.flat).length=2))
theorem MsgT.wp_had(m:MsgT)(u:BallotT):wr (ints m.flat) 180 (ints u.flat)=ints ({m with had:=u}:MsgT).flat:=MsgT.wr_had_ m 0 rfl (by rw[bq];exact dB ((ao _):(ints u.flat).length=2)) (ct (Eq.trans ((ao _):(ints m.had.flat).length=2) (Eq.symm ((ao _):(ints u.flat).length=2))))
theorem MsgT.sub_change(m:MsgT){o k:Nat}(j:Nat)(ho:o=182+j)(h:j+k≤3){r:List Value}(hr:((ints m.change.flat).drop j).take k=r):((ints m.flat).drop o).take k=r:=by subst ho;rw[←hr,br];exact(iL m).sub 7 j k rfl rfl rfl h
abbrev nV:= @MsgT.sub_change
theorem MsgT.wr_change_(m:MsgT){o:Nat}(j:Nat){vs:List Value}{u':ChangeT}(ho:o=182+j)(h:j+vs.length≤3)(hw:wr (ints m.change.flat) j vs=ints u'.flat):wr (ints m.flat) o vs=ints ({m with change:=u'}:MsgT).flat:=by subst ho;rw[br,br];exact(iL m).putIn 7 j vs rfl rfl rfl h hw
theorem MsgT.sp_change(m:MsgT):((ints m.flat).drop 182).take 3=ints m.change.flat:=nV m 0 rfl (by decide) (bo ((aK _):(ints m.change.flat).length=3))
theorem MsgT.wp_change(m:MsgT)(u:ChangeT):wr (ints m.flat) 182 (ints u.flat)=ints ({m with change:=u}:MsgT).flat:=MsgT.wr_change_ m 0 rfl (by rw[bq];exact dB ((aK _):(ints u.flat).length=3)) (ct (Eq.trans ((aK _):(ints m.change.flat).length=3) (Eq.symm ((aK _):(ints u.flat).length=3))))
abbrev PG:= @MsgT.wp_change
theorem MsgT.sub_view(m:MsgT){o k:Nat}(j:Nat)(ho:o=185+j)(h:j+k≤7){r:List Value}(hr:((ints m.view.flat).drop j).take k=r):((ints m.flat).drop o).take k=r:=by subst ho;rw[←hr,br];exact(iL m).sub 8 j k rfl rfl rfl h
abbrev wc:= @MsgT.sub_view
theorem MsgT.wr_view_(m:MsgT){o:Nat}(j:Nat){vs:List Value}{u':ViewT}(ho:o=185+j)(h:j+vs.length≤7)(hw:wr (ints m.view.flat) j vs=ints u'.flat):wr (ints m.flat) o vs=ints ({m with view:=u'}:MsgT).flat:=by subst ho;rw[br,br];exact(iL m).putIn 8 j vs rfl rfl rfl h hw
theorem MsgT.sp_view(m:MsgT):((ints m.flat).drop 185).take 7=ints m.view.flat:=wc m 0 rfl (by decide) (bo ((am _):(ints m.view.flat).length=7))
theorem MsgT.wp_view(m:MsgT)(u:ViewT):wr (ints m.flat) 185 (ints u.flat)=ints ({m with view:=u}:MsgT).flat:=MsgT.wr_view_ m 0 rfl (by rw[bq];exact dB ((am _):(ints u.flat).length=7)) (ct (Eq.trans ((am _):(ints m.view.flat).length=7) (Eq.symm ((am _):(ints u.flat).length=7))))
theorem RecT.sl(m:RecT):SL [[Value.int .i64 m.kind],[Value.int .i64 m.whose],ints m.row.flat,[Value.int .i64 m.epoch],ints m.ballot.flat,ints m.change.flat,ints m.view.flat] [1,1,174,1,2,3,7]:=(.cons rfl (.cons rfl (.cons (ag _) (.cons rfl (.cons (ao _) (.cons (aK _) (.cons (am _) .nil)))))))
abbrev mK:= @RecT.sl
abbrev RecT.sg(m:RecT):List (List Value):=[[Value.int .i64 m.kind],[Value.int .i64 m.whose],ints m.row.flat,[Value.int .i64 m.epoch],ints m.ballot.flat,ints m.change.flat,ints m.view.flat]
theorem RecT.eq(m:RecT):ints m.flat=[[Value.int .i64 m.kind],[Value.int .i64 m.whose],ints m.row.flat,[Value.int .i64 m.epoch],ints m.ballot.flat,ints m.change.flat,ints m.view.flat].flatten:=by simp[RecT.flat,ints]
abbrev fC:= @RecT.eq
theorem RecT.len(m:RecT):(ints m.flat).length=189:=by rw[fC,(mK m).len];rfl
abbrev bp:= @RecT.len
theorem RecT.at_kind(m:RecT){o:Nat}(ho:o=0):(ints m.flat)[o]?=some (Value.int .i64 m.kind):=by subst ho;rw[fC];exact(mK m).at 0 0 rfl rfl rfl (by decide)
abbrev k9:= @RecT.at_kind
theorem RecT.at_whose(m:RecT){o:Nat}(ho:o=1):(ints m.flat)[o]?=some (Value.int .i64 m.whose):=by subst ho;rw[fC];exact(mK m).at 1 0 rfl rfl rfl (by decide)
abbrev Hd:= @RecT.at_whose
theorem RecT.set_whose(m:RecT){o:Nat}(ho:o=1)(x:Int):(ints m.flat).set o (Value.int .i64 x)=ints ({m with whose:=x}:RecT).flat:=by subst ho;rw[fC,fC];exact(mK m).set 1 0 _ rfl rfl rfl (by decide)
theorem RecT.sub_row(m:RecT){o k:Nat}(j:Nat)(ho:o=2+j)(h:j+k≤174){r:List Value}(hr:((ints m.row.flat).drop j).take k=r):((ints m.flat).drop o).take k=r:=by subst ho;rw[←hr,fC];exact(mK m).sub 2 j k rfl rfl rfl h
abbrev sD:= @RecT.sub_row
theorem RecT.wr_row_(m:RecT){o:Nat}(j:Nat){vs:List Value}{u':RowT}(ho:o=2+j)(h:j+vs.length≤174)(hw:wr (ints m.row.flat) j vs=ints u'.flat):wr (ints m.flat) o vs=ints ({m with row:=u'}:RecT).flat:=by subst ho;rw[fC,fC];exact(mK m).putIn 2 j vs rfl rfl rfl h hw
theorem RecT.sp_row(m:RecT):((ints m.flat).drop 2).take 174=ints m.row.flat:=sD m 0 rfl (by decide) (bo ((ag _):(ints m.row.flat).length=174))
theorem RecT.wp_row(m:RecT)(u:RowT):wr (ints m.flat) 2 (ints u.flat)=ints ({m with row:=u}:RecT).flat:=RecT.wr_row_ m 0 rfl (by rw[bq];exact dB ((ag _):(ints u.flat).length=174)) (ct (Eq.trans ((ag _):(ints m.row.flat).length=174) (Eq.symm ((ag _):(ints u.flat).length=174))))
theorem RecT.at_epoch(m:RecT){o:Nat}(ho:o=176):(ints m.flat)[o]?=some (Value.int .i64 m.epoch):=by subst ho;rw[fC];exact(mK m).at 3 0 rfl rfl rfl (by decide)
theorem RecT.set_epoch(m:RecT){o:Nat}(ho:o=176)(x:Int):(ints m.flat).set o (Value.int .i64 x)=ints ({m with epoch:=x}:RecT).flat:=by subst ho;rw[fC,fC];exact(mK m).set 3 0 _ rfl rfl rfl (by decide)
theorem RecT.pt_ballot(m:RecT){o:Nat}(j:Nat)(ho:o=177+j)(h:j<2){r:Option Value}(hr:(ints m.ballot.flat)[j]?=r):(ints m.flat)[o]?=r:=by subst ho;rw[←hr,fC];exact(mK m).at 4 j rfl rfl rfl h
theorem RecT.sub_ballot(m:RecT){o k:Nat}(j:Nat)(ho:o=177+j)(h:j+k≤2){r:List Value}(hr:((ints m.ballot.flat).drop j).take k=r):((ints m.flat).drop o).take k=r:=by subst ho;rw[←hr,fC];exact(mK m).sub 4 j k rfl rfl rfl h
abbrev rm:= @RecT.sub_ballot
theorem RecT.wr_ballot_(m:RecT){o:Nat}(j:Nat){vs:List Value}{u':BallotT}(ho:o=177+j)(h:j+vs.length≤2)(hw:wr (ints m.ballot.flat) j vs=ints u'.flat):wr (ints m.flat) o vs=ints ({m with ballot:=u'}:RecT).flat:=by subst ho;rw[fC,fC];exact(mK m).putIn 4 j vs rfl rfl rfl h hw
theorem RecT.sp_ballot(m:RecT):((ints m.flat).drop 177).take 2=ints m.ballot.flat:=rm m 0 rfl (by decide) (bo ((ao _):(ints m.ballot.flat).length=2))
theorem RecT.wp_ballot(m:RecT)(u:BallotT):wr (ints m.flat) 177 (ints u.flat)=ints ({m with ballot:=u}:RecT).flat:=RecT.wr_ballot_ m 0 rfl (by rw[bq];exact dB ((ao _):(ints u.flat).length=2)) (ct (Eq.trans ((ao _):(ints m.ballot.flat).length=2) (Eq.symm ((ao _):(ints u.flat).length=2))))
theorem RecT.sub_change(m:RecT){o k:Nat}(j:Nat)(ho:o=179+j)(h:j+k≤3){r:List Value}(hr:((ints m.change.flat).drop j).take k=r):((ints m.flat).drop o).take k=r:=by subst ho;rw[←hr,fC];exact(mK m).sub 5 j k rfl rfl rfl h
abbrev NZ:= @RecT.sub_change
theorem RecT.wr_change_(m:RecT){o:Nat}(j:Nat){vs:List Value}{u':ChangeT}(ho:o=179+j)(h:j+vs.length≤3)(hw:wr (ints m.change.flat) j vs=ints u'.flat):wr (ints m.flat) o vs=ints ({m with change:=u'}:RecT).flat:=by subst ho;rw[fC,fC];exact(mK m).putIn 5 j vs rfl rfl rfl h hw
theorem RecT.sp_change(m:RecT):((ints m.flat).drop 179).take 3=ints m.change.flat:=NZ m 0 rfl (by decide) (bo ((aK _):(ints m.change.flat).length=3))
theorem RecT.wp_change(m:RecT)(u:ChangeT):wr (ints m.flat) 179 (ints u.flat)=ints ({m with change:=u}:RecT).flat:=RecT.wr_change_ m 0 rfl (by rw[bq];exact dB ((aK _):(ints u.flat).length=3)) (ct (Eq.trans ((aK _):(ints m.change.flat).length=3) (Eq.symm ((aK _):(ints u.flat).length=3))))
theorem RecT.sub_view(m:RecT){o k:Nat}(j:Nat)(ho:o=182+j)(h:j+k≤7){r:List Value}(hr:((ints m.view.flat).drop j).take k=r):((ints m.flat).drop o).take k=r:=by subst ho;rw[←hr,fC];exact(mK m).sub 6 j k rfl rfl rfl h
abbrev Q9:= @RecT.sub_view
theorem RecT.wr_view_(m:RecT){o:Nat}(j:Nat){vs:List Value}{u':ViewT}(ho:o=182+j)(h:j+vs.length≤7)(hw:wr (ints m.view.flat) j vs=ints u'.flat):wr (ints m.flat) o vs=ints ({m with view:=u'}:RecT).flat:=by subst ho;rw[fC,fC];exact(mK m).putIn 6 j vs rfl rfl rfl h hw
theorem RecT.sp_view(m:RecT):((ints m.flat).drop 182).take 7=ints m.view.flat:=Q9 m 0 rfl (by decide) (bo ((am _):(ints m.view.flat).length=7))
theorem RecT.wp_view(m:RecT)(u:ViewT):wr (ints m.flat) 182 (ints u.flat)=ints ({m with view:=u}:RecT).flat:=RecT.wr_view_ m 0 rfl (by rw[bq];exact dB ((am _):(ints u.flat).length=7)) (ct (Eq.trans ((am _):(ints m.view.flat).length=7) (Eq.symm ((am _):(ints u.flat).length=7))))
theorem OpT.sl(m:OpT):SL [[Value.int .i64 m.kind],[Value.int .i64 m.at'],[Value.int .i64 m.to'],[Value.int .i64 m.key],[Value.int .i64 m.n],ints m.change.flat,[Value.int .i64 m.mask],[Value.int .i64 m.torn],[Value.int .i64 m.cut]] [1,1,1,1,1,3,1,1,1]:=(.cons rfl (.cons rfl (.cons rfl (.cons rfl (.cons rfl (.cons (aK _) (.cons rfl (.cons rfl (.cons rfl .nil)))))))))
abbrev yY:= @OpT.sl
abbrev OpT.sg(m:OpT):List (List Value):=[[Value.int .i64 m.kind],[Value.int .i64 m.at'],[Value.int .i64 m.to'],[Value.int .i64 m.key],[Value.int .i64 m.n],ints m.change.flat,[Value.int .i64 m.mask],[Value.int .i64 m.torn],[Value.int .i64 m.cut]]
theorem OpT.eq(m:OpT):ints m.flat=[[Value.int .i64 m.kind],[Value.int .i64 m.at'],[Value.int .i64 m.to'],[Value.int .i64 m.key],[Value.int .i64 m.n],ints m.change.flat,[Value.int .i64 m.mask],[Value.int .i64 m.torn],[Value.int .i64 m.cut]].flatten:=by simp[OpT.flat,ints]
abbrev ka:= @OpT.eq
theorem OpT.len(m:OpT):(ints m.flat).length=11:=by rw[ka,(yY m).len];rfl
theorem OpT.at_kind(m:OpT){o:Nat}(ho:o=0):(ints m.flat)[o]?=some (Value.int .i64 m.kind):=by subst ho;rw[ka];exact(yY m).at 0 0 rfl rfl rfl (by decide)
abbrev di:= @OpT.at_kind
theorem OpT.at_at'(m:OpT){o:Nat}(ho:o=1):(ints m.flat)[o]?=some (Value.int .i64 m.at'):=by subst ho;rw[ka];exact(yY m).at 1 0 rfl rfl rfl (by decide)
abbrev bM:= @OpT.at_at'
theorem OpT.at_to'(m:OpT){o:Nat}(ho:o=2):(ints m.flat)[o]?=some (Value.int .i64 m.to'):=by subst ho;rw[ka];exact(yY m).at 2 0 rfl rfl rfl (by decide)
abbrev ji:= @OpT.at_to'
theorem OpT.at_key(m:OpT){o:Nat}(ho:o=3):(ints m.flat)[o]?=some (Value.int .i64 m.key):=by subst ho;rw[ka];exact(yY m).at 3 0 rfl rfl rfl (by decide)
abbrev qa:= @OpT.at_key
theorem OpT.at_n(m:OpT){o:Nat}(ho:o=4):(ints m.flat)[o]?=some (Value.int .i64 m.n):=by subst ho;rw[ka];exact(yY m).at 4 0 rfl rfl rfl (by decide)
abbrev yg:= @OpT.at_n
theorem OpT.sub_change(m:OpT){o k:Nat}(j:Nat)(ho:o=5+j)(h:j+k≤3){r:List Value}(hr:((ints m.change.flat).drop j).take k=r):((ints m.flat).drop o).take k=r:=by subst ho;rw[←hr,ka];exact(yY m).sub 5 j k rfl rfl rfl h
theorem OpT.wr_change_(m:OpT){o:Nat}(j:Nat){vs:List Value}{u':ChangeT}(ho:o=5+j)(h:j+vs.length≤3)(hw:wr (ints m.change.flat) j vs=ints u'.flat):wr (ints m.flat) o vs=ints ({m with change:=u'}:OpT).flat:=by subst ho;rw[ka,ka];exact(yY m).putIn 5 j vs rfl rfl rfl h hw
theorem OpT.sp_change(m:OpT):((ints m.flat).drop 5).take 3=ints m.change.flat:=OpT.sub_change m 0 rfl (by decide) (bo ((aK _):(ints m.change.flat).length=3))
theorem OpT.wp_change(m:OpT)(u:ChangeT):wr (ints m.flat) 5 (ints u.flat)=ints ({m with change:=u}:OpT).flat:=OpT.wr_change_ m 0 rfl (by rw[bq];exact dB ((aK _):(ints u.flat).length=3)) (ct (Eq.trans ((aK _):(ints m.change.flat).length=3) (Eq.symm ((aK _):(ints u.flat).length=3))))
theorem OpT.at_mask(m:OpT){o:Nat}(ho:o=8):(ints m.flat)[o]?=some (Value.int .i64 m.mask):=by subst ho;rw[ka];exact(yY m).at 6 0 rfl rfl rfl (by decide)
theorem OpT.at_torn(m:OpT){o:Nat}(ho:o=9):(ints m.flat)[o]?=some (Value.int .i64 m.torn):=by subst ho;rw[ka];exact(yY m).at 7 0 rfl rfl rfl (by decide)
theorem OpT.at_cut(m:OpT){o:Nat}(ho:o=10):(ints m.flat)[o]?=some (Value.int .i64 m.cut):=by subst ho;rw[ka];exact(yY m).at 8 0 rfl rfl rfl (by decide)
theorem ReplyT.sl(m:ReplyT):SL [[Value.int .i64 m.op],[Value.int .i64 m.err],[Value.int .i64 m.value]] [1,1,1]:=(.cons rfl (.cons rfl (.cons rfl .nil)))
abbrev ReplyT.sg(m:ReplyT):List (List Value):=[[Value.int .i64 m.op],[Value.int .i64 m.err],[Value.int .i64 m.value]]
theorem ReplyT.eq(m:ReplyT):ints m.flat=[[Value.int .i64 m.op],[Value.int .i64 m.err],[Value.int .i64 m.value]].flatten:=by simp[ReplyT.flat,ints]
theorem ReplyT.len(m:ReplyT):(ints m.flat).length=3:=by rw[ReplyT.eq,(ReplyT.sl m).len];rfl
end Api
end
section
namespace Leg
open Go Api
variable {P:Program} {w0:World} {F:Hl} {n:Nat} {ops:Array Oper} {Q:QQ} {D:List Deferred} {L:List (Nat×Value)} {H:List HP} {d:Nat} {o:Oper} {l:List Oper}
theorem SW{o:Oper}{l:List Oper}{α:Type}{f:α→List Int}{t e:TypeId}{p y:Operand}{b m:Nat}{x x0:α}(k:Nat)(hs:(P.info? t).map (·.size)=some m)(hf: ∀x,(ints (f x)).length=m)(h:TL P w0 F n ops Q l D L (H.set k (ah b (ints (f x)) e)))(hw:Want n D ops o L:=by first|exact ab rfl|exact cd rfl rfl rfl)(hd:o.dst=none:=by exact rfl)(ho:o.op= .store t p y:=by exact rfl)(hp:cK L p=some (.pointer (some ⟨b,0,none⟩)):=by exact rfl)(hy:cK L y=some (.agg (ints (f x)).toArray):=by exact rfl)(hk:Nat.blt k H.length=true:=by exact rfl)(hH:H.getD k (λ_=>True)=ah b (ints (f x0)) e:=by exact rfl):TL P w0 F n ops Q (o::l) D L H:=bL (vs:=ints (f x)) hw ho hd hp hy rfl (by rw[hf];exact hs) (bA _) hk hH (by rw[hf,hf];omega) (ct ((hf x0).trans (hf x).symm)) rfl h
theorem LY{S:World→Prop}{d fuel:Nat}{listed:Array Bool}{o:Oper}{α:Type}{f:α→List Int}{t e:TypeId}{x:Operand}{dt:TypeDesc}{b m:Nat}{y:α}{z:Nat×Nat}(i:Nat)(ht:P.underlying t=some dt)(hz:(P.info? t).map (·.size)=some m)(hf: ∀x,(ints (f x)).length=m)(h:TD P w0 F n ops Q S fuel (listed.setIfInBounds i true) D ((d, .agg (ints (f y)).toArray)::L) H)(hi:ops[i]?=some o:=by exact rfl)(hw:Want n D ops o L:=by first|exact ab rfl|exact cd rfl rfl rfl)(hd:o.dst=some d:=by exact rfl)(hn:Nat.blt d n=true:=by exact rfl)(hs:(Region.noSelect ops&&Region.free .any ops listed i&&(Region.ready .any ops listed).contains i)=true:=by kernel_rfl)(hQ: ∀c a v w,Q (.panic c) (a.put o.dst v) w→Q (.panic c) a w:=by exact λ_ _ _ _ h=>h)(ho:o.op= .load t x:=by exact rfl)(hp:dR dt=false:=by exact rfl)(hx:cK L x=some (.pointer (some ⟨b,0,none⟩)):=by exact rfl)(hR:Rd S b (.cells (ints (f y)).toArray e z):=by first|exact λ_ h=>h.2.1|exact λ_ h=>h.2.2.1|exact λ_ h=>h.2.2.2.1|exact λ_ h=>h.2.2.2.2.1|exact λ_ h=>h.2.2.2.2.2.1):TD P w0 F n ops Q S (fuel+1) listed D L H:=by
  rw[an,an]at hs;exact KJ hi hs.1.1 hs.1.2 hs.2 hQ hw hd hn (aM ho ht hp hz hx hR (hf y) (by rw[be,aD (by rw[hf];exact aH _)])) h
theorem SP{o:Oper}{l:List Oper}{α β:Type}{f:α→List Int}{c:β→List Value}{put:β→α→β}{t e:TypeId}{p y:Operand}{b j m m':Nat}{x:α}{z:β}(k:Nat)(hs:(P.info? t).map (·.size)=some m)(hf: ∀x,(ints (f x)).length=m)(hc: ∀z,(c z).length=m')(hw': ∀z x,wr (c z) j (ints (f x))=c (put z x))(h:TL P w0 F n ops Q l D L (H.set k (ah b (c (put z x)) e)))(hw:Want n D ops o L:=by first|exact ab rfl|exact cd rfl rfl rfl)(hd:o.dst=none:=by exact rfl)(ho:o.op= .store t p y:=by exact rfl)(hp:cK L p=some (.pointer (some ⟨b,j,none⟩)):=by exact rfl)(hy:cK L y=some (.agg (ints (f x)).toArray):=by exact rfl)(hk:Nat.blt k H.length=true:=by exact rfl)(hH:H.getD k (λ_=>True)=ah b (c z) e:=by exact rfl)(hj:Nat.ble (j+m) m'=true:=by first|exact rfl|exact Nat.ble_eq_true_of_le (by omega)):TL P w0 F n ops Q (o::l) D L H:=bL (vs:=ints (f x)) hw ho hd hp hy rfl (by rw[hf];exact hs) (bA _) hk hH (by rw[hf,hc];exact fh hj) (hw' z x) rfl h
theorem SS{o:Oper}{l:List Oper}{t e:TypeId}{x y:Operand}{b j m:Nat}{cs cs':List Value}{v:Value}(k:Nat)(hs:(P.info? t).map (·.size)=some 1)(hl:cs.length=m)(hc:cs.set j v=cs')(h:TL P w0 F n ops Q l D L (H.set k (ah b cs' e)))(hw:Want n D ops o L:=by first|exact ab rfl|exact cd rfl rfl rfl)(hd:o.dst=none:=by exact rfl)(ho:o.op= .store t x y:=by exact rfl)(hx:cK L x=some (.pointer (some ⟨b,j,none⟩)):=by exact rfl)(hy:cK L y=some v:=by exact rfl)(h1:v.oneCell'=true:=by exact rfl)(hk:Nat.blt k H.length=true:=by exact rfl)(hH:H.getD k (λ_=>True)=ah b cs e:=by exact rfl)(hj:Nat.blt j m=true:=by first|exact rfl|exact Nat.ble_eq_true_of_le (by omega)):TL P w0 F n ops Q (o::l) D L H:=bO hw ho hd hx hy h1 hs hk hH (hl▸lb hj) hc rfl h
theorem LW{α:Type}{f:α→List Int}{t e:TypeId}{x:Operand}{dt:TypeDesc}{b m:Nat}{z:α}(k:Nat)(ht:P.underlying t=some dt)(hs:(P.info? t).map (·.size)=some m)(hf: ∀x,(ints (f x)).length=m)(h:TL P w0 F n ops Q l D ((d, .agg (ints (f z)).toArray)::L) H)(hw:Want n D ops o L:=by first|exact ab rfl|exact cd rfl rfl rfl)(hd:o.dst=some d:=by exact rfl)(hn:Nat.blt d n=true:=by exact rfl)(ho:o.op= .load t x:=by exact rfl)(hp:dR dt=false:=by exact rfl)(hx:cK L x=some (.pointer (some ⟨b,0,none⟩)):=by exact rfl)(hk:Nat.blt k H.length=true:=by exact rfl)(hH:H.getD k (λ_=>True)=ah b (ints (f z)) e:=by exact rfl):TL P w0 F n ops Q (o::l) D L H:=ml hw hd hn (aM ho ht hp hs hx (fD k hk hH) (hf z) (bo (hf z))) h
theorem LV{α β:Type}{f:α→List Int}{c:β→List Value}{g:β→α}{t e:TypeId}{x:Operand}{dt:TypeDesc}{b j m:Nat}{z:β}{y:α}(k:Nat)(ht:P.underlying t=some dt)(hs:(P.info? t).map (·.size)=some m)(hf: ∀x,(ints (f x)).length=m)(hg: ∀z,((c z).drop j).take m=ints (f (g z)))(h:TL P w0 F n ops Q l D ((d, .agg (ints (f y)).toArray)::L) H)(hw:Want n D ops o L:=by first|exact ab rfl|exact cd rfl rfl rfl)(hd:o.dst=some d:=by exact rfl)(hn:Nat.blt d n=true:=by exact rfl)(ho:o.op= .load t x:=by exact rfl)(hp:dR dt=false:=by exact rfl)(hx:cK L x=some (.pointer (some ⟨b,j,none⟩)):=by exact rfl)(hk:Nat.blt k H.length=true:=by exact rfl)(hH:H.getD k (λ_=>True)=ah b (c z) e:=by exact rfl)(hyz:g z=y:=by exact rfl):TL P w0 F n ops Q (o::l) D L H:=ml hw hd hn (aM ho ht hp hs hx (fD k hk hH) (hf _) ((hg z).trans (by rw[hyz]))) h
theorem LT{t e:TypeId}{x:Operand}{dt:TypeDesc}{b j:Nat}{cs:List Value}(k:Nat)(ht:P.underlying t=some dt)(v:Value)(h:TL P w0 F n ops Q l D ((d,v)::L) H)(hw:Want n D ops o L:=by first|exact ab rfl|exact cd rfl rfl rfl)(hd:o.dst=some d:=by exact rfl)(hn:Nat.blt d n=true:=by exact rfl)(ho:o.op= .load t x:=by exact rfl)(hp:dR dt=true:=by exact rfl)(hx:cK L x=some (.pointer (some ⟨b,j,none⟩)):=by exact rfl)(hk:Nat.blt k H.length=true:=by exact rfl)(hH:H.getD k (λ_=>True)=ah b cs e:=by exact rfl)(hc:cs[j]?=some v):TL P w0 F n ops Q (o::l) D L H:=ml hw hd hn (ii ho ht hp hx (fD k hk hH) hc) h
theorem kJ{P:Program}{n:Nat}{D:List Deferred}{L:List (Nat×Value)}{S:World→Prop}{o:Oper}{α:Type}{f:α→List Int}{g:α→List (List Value)}{t:TypeId}{ps:Array (Nat×Operand)}{fs:Array Field}{vals:List (Nat×Value)}(z x:α)(parts:List (Nat×List Value))(ht:P.underlying t=some (.struct fs))(hg: ∀m,ints (f m)=(g m).flatten)(ho:o.op= .build t ps:=by exact rfl)(hx:KW L ps.toList=some vals:=by exact rfl)(hz:(P.info? t).map (·.zero)=some (some (.agg (g z).flatten.toArray)):=by kernel_rfl)(hp:fs.toList.mapM (λf=>(P.info? f.type).map λi=>(f.offset,i.size))=some (vS (g z) 0):=by kernel_rfl)(hv:vals.map (λp=>(p.1,p.2.cells))=parts.map (λp=>(p.1,p.2.toArray)):=by exact rfl)(h:lu (g z) parts=some (g x):=by repeat (first|exact l5|exact rfl|refine fG rfl (by first|exact rfl|exact(ag _).trans (ag _).symm|exact(am _).trans (am _).symm|exact(ao _).trans (ao _).symm|exact(aK _).trans (aK _).symm|exact(bB _).trans (bB _).symm) ?_)):PV P n D L S o (.agg (ints (f x)).toArray):=(hg x).symm▸yX ho hx ht hz hp hv h rfl
end Leg
end

section
namespace Codec
open Go Leg Api
theorem qn(c:UInt8):UInt8.ofNat c.toNat=c:=by simp
theorem zH: ∀(bs:List UInt8) (k acc m:Nat) (r:List UInt8),k≤9→jF k acc bs=some (m,r)→∃p,m=acc+p*2^ (7*k)∧bs=tI p++r∧(0<k→0<p)∧p<2^ (7* (9-k))
 | [],k,acc,m,r,_,h=>by simp[jF]at h
 |c::cs,k,acc,m,r,hk,h=>by
  have hc:c.toNat<256:=c.toNat_lt;simp only[jF]at h;split at h
  · cases h
  · rename_i h9
    split at h
    · rename_i h128
      obtain⟨p,h1,h2,h3,h4⟩:=zH cs (k+1) _ m r (by omega) h;have hp:=h3 (by omega);refine⟨c.toNat%128+128*p,?_,?_,λ_=>by omega,?_⟩
      · rw[h1,show 7* (k+1)=7*k+7 by omega,Nat.pow_add,gp,nR]
        congr 2;rw[KN 128 p,Nat.mul_assoc,KN 128]
      · rw[od (by omega),show(c.toNat%128+128*p)%128+128=c.toNat by omega,show(c.toNat%128+128*p) / 128=p by omega,qn,h2];rfl
      · rw[show 7* (9-k)=7* (9- (k+1))+7 by omega,Nat.pow_add];omega
    · rename_i h128
      split at h
      · cases h
      · rename_i h0
        simp only[Option.some.injEq,Prod.mk.injEq]at h;obtain⟨rfl,rfl⟩:=h;refine⟨c.toNat,by rw[show c.toNat%128=c.toNat by omega],by rw[m8 (by omega),qn];rfl,λ_=>by omega,?_⟩;have:2^7≤2^ (7* (9-k)):=Nat.pow_le_pow_right (by decide) (by omega);omega
theorem Af: ∀(j p k acc:Nat) (r:List UInt8),k+j=8→p<2^ (7* (j+1))→(0<k→0<p)→jF k acc (tI p++r)=some (acc+p*2^ (7*k),r)
 |j,p,k,acc,r,hj,hp,h0=>by
  by_cases h:p<128
  · rw[m8 h]
    simp only[kI,aQ,jF];have e:(UInt8.ofNat p).toNat=p:=by simp;omega
    rw[e,if_neg (by omega),if_neg (by omega),if_neg (by omega),show p%128=p by omega]
  · rw[od h]
    simp only[kI,jF];have e:(UInt8.ofNat (p%128+128)).toNat=p%128+128:=by simp;omega
    rw[e,if_neg (by omega),if_pos (by omega)]
    match j,hj,hp with
    |0,_,hp=>simp at hp;omega
    |j+1,hj,hp=>
     have hp':p / 128<2^ (7* (j+1)):=by
      rw[show 7* (j+1+1)=7* (j+1)+7 by omega,Nat.pow_add]at hp;omega
     rw[Af j (p / 128) (k+1) _ r (by omega) hp' (λ_=>by omega)];congr 2;rw[show 7* (k+1)=7*k+7 by omega,Nat.pow_add,show(p%128+128)%128=p%128 by omega];have e2:p=p%128+128* (p / 128):=by omega
     conv=>rhs;rw[e2,gp]
     rw[nR];congr 2;rw[KN 128,Nat.mul_assoc,KN 128]
theorem iI{bs r:List UInt8}{n:Int}(h:m3 bs=some (n,r)):0≤n∧n<9223372036854775808∧bs=oz n++r:=by
 simp only[m3]at h;split at h
 · cases h
 · rename_i m r' hm
   simp only[Option.some.injEq,Prod.mk.injEq]at h;obtain⟨rfl,rfl⟩:=h;obtain⟨p,h1,h2,_,h4⟩:=zH bs 0 0 m r' (by omega) hm;simp at h1;subst h1;refine⟨by omega,by simp at h4;omega,?_⟩;rw[h2,oz];congr 2;simp at h4;omega
theorem kV{n:Int}(h0:0≤n)(h1:n<9223372036854775808)(r:List UInt8):m3 (oz n++r)=some (n,r):=by
 have hp:=Af 8 (n%18446744073709551616).toNat 0 0 r rfl (by simp;omega) (by omega);simp at hp;simp only[m3,oz];rw[hp];simp;omega
theorem gy{n lim:Int}(h0:0≤n)(h1:n<lim)(h2:n<9223372036854775808)(r:List UInt8):fo lim (oz n++r)=some (n,r):=by
 rw[fo,au (kV h0 h2 r),if_neg (by omega)];rfl
def rM(n:Int):Prop:=0≤n∧n<1099511627777
structure TameC(c:CellT):Prop where
 inn:rM c.inn
 out:rM c.out
 given: ∀(j:Nat) (h:j<5),rM c.given[j]
theorem As{c:CellT}(h:TameC c)(r:List UInt8):lB (bf c.flat++r)=some (c,r):=by
 obtain⟨i,o,g⟩:=c;obtain⟨h1,h2,h3⟩:=h;revert h3;refine Lb (p:=λg=>(∀(j:Nat) (h:j<5),rM g[j])→lB (bf (CellT.flat ⟨i,o,g⟩)++r)=some (⟨i,o,g⟩,r)) (λa b c d e h3=>?_) g;have s:=λn (h:rM n) r=>gy (n:=n) (lim:=1099511627777) h.1 h.2 (by unfold rM at h;omega) r
 have e0:=h3 0 (by omega);have e1:=h3 1 (by omega);have e2:=h3 2 (by omega);have e3:=h3 3 (by omega);have e4:=h3 4 (by omega);simp only[CellT.flat,Vector.toList_mk,eT,fS,aE,lB];rw[au (s i h1 _),au (s o h2 _),au (s a e0 _),au (s b e1 _),au (s c e2 _),au (s d e3 _),au (s e e4 _)];rfl
structure TameR(x:RowT):Prop where
 version:0≤x.version∧x.version<9223372036854775808
 cells: ∀(k:Nat) (h:k<4),TameC x.cells[k]
 heir: ∀(i:Nat) (h:i<5),0≤x.heir[i]∧x.heir[i]<9223372036854775808
 left: ∀(i k:Nat) (h:i<5) (hk:k<4),TameC x.left[i][k]
 none: ∀(i:Nat) (h:i<5),x.heir[i]=(0:Int)→x.left[i]=RowT.zero.left[0]
theorem Aq{ys:Vector CellT 4}(ht: ∀(k:Nat) (h:k<4),TameC ys[k])(r:List UInt8): ∀(m k:Nat) (x:RowT),m=4-k→k≤4→(∀j (h:j<4),j<k→x.cells[j]=ys[j])→
 lQ m k x (bf (bI (ys.toList.drop k))++r)=some ({x with cells:=ys},r)
 |0,k,x,hm,hk,hx=>by
  have hk4:k=4:=by omega
  subst hk4;rw[dO (by simp)]
  have:x.cells=ys:=by
   apply Vector.ext;intro j hj;exact hx j hj hj
  subst this;rfl
 |m+1,k,x,hm,hk,hx=>by
  have hk4:k<4:=by omega
  rw[lO (l:=ys.toList) (k:=k) (by simpa using hk4),aE];simp only[lQ];rw[Vector.getElem_toList,au (As (ht k hk4) _),dif_pos hk4]
  rw[Aq ht r m (k+1) {x with cells:=x.cells.set k ys[k]} (by omega) (by omega) (λj h hj=>by
   rw[Vector.getElem_set];split
   · rename_i e;subst e;rfl
   · exact hx j h (by omega))]
theorem DD{ys:Vector CellT 4}(ht: ∀(k:Nat) (h:k<4),TameC ys[k])(r:List UInt8){i:Nat}(hi:i<5): ∀(m k:Nat) (x:RowT),m=4-k→k≤4→(∀j (h:j<4),j<k→x.left[i][j]=ys[j])→
 oT m i k x (bf (bI (ys.toList.drop k))++r)=some ({x with left:=x.left.set i ys},r)
 |0,k,x,hm,hk,hx=>by
  have hk4:k=4:=by omega
  subst hk4;rw[dO (by simp)]
  have e:x.left[i]=ys:=by
   apply Vector.ext;intro j hj;exact hx j hj hj
  have:x.left.set i ys=x.left:=by
   apply Vector.ext;intro j hj;rw[Vector.getElem_set];split
   · rename_i q;subst q;exact e.symm
   · rfl
  rw[this];rfl
 |m+1,k,x,hm,hk,hx=>by
  have hk4:k<4:=by omega
  rw[lO (l:=ys.toList) (k:=k) (by simpa using hk4),aE];simp only[oT];rw[Vector.getElem_toList,au (As (ht k hk4) _),dif_pos ⟨hi,hk4⟩]
  rw[DD ht r hi m (k+1) _ (by omega) (by omega) (λj h hj=>by
   rw[Vector.getElem_set_self,Vector.getElem_set];split
   · rename_i e;subst e;rfl
   · exact hx j h (by omega))]
  simp only[Vector.set_set]
theorem uQ{y:RowT}(ht:TameR y)(r:List UInt8): ∀(m i:Nat) (x:RowT),m=5-i→i≤5→(∀j (h:j<5),j<i→x.heir[j]=y.heir[j]∧x.left[j]=y.left[j])→(∀j (h:j<5),i≤j→x.left[j]=RowT.zero.left[0])→
 iU m i x (fH y m i++r)=some ({x with heir:=y.heir,left:=y.left},r)
 |0,i,x,hm,hi,h1,h2=>by
  have e1:x.heir=y.heir:=Vector.ext λj hj=>(h1 j hj (by omega)).1
  have e2:x.left=y.left:=Vector.ext λj hj=>(h1 j hj (by omega)).2
  rw[←e1,←e2];rfl
 |m+1,i,x,hm,hi,h1,h2=>by
  have hi5:i<5:=by omega
  simp only[fH,iU];rw[dif_pos hi5,aE,aE,au (kV (ht.heir i hi5).1 (ht.heir i hi5).2 _),dif_pos hi5]
  by_cases hp:0<y.heir[i]
  · rw[if_pos hp,if_pos hp]
    have hl:=DD (λk hk=>ht.left i k hi5 hk) (fH y m (i+1)++r) hi5 4 0 {x with heir:=x.heir.set i y.heir[i]} (by omega) (by omega) (λj h hj=>by omega);rw[be]at hl;rw[au hl]
    rw[uQ ht r m (i+1) _ (by omega) (by omega) (λj h hj=>by
     simp only[Vector.getElem_set];split
     · rename_i e;subst e;exact⟨rfl,rfl⟩
     · exact h1 j h (by omega)) (λj h hj=>by
     simp only[Vector.getElem_set];rw[if_neg (by omega)]
     exact h2 j h (by omega))]
  · have h0:y.heir[i]=0:=by have:=(ht.heir i hi5).1;omega
    rw[if_neg hp,if_neg hp,aQ]
    rw[uQ ht r m (i+1) {x with heir:=x.heir.set i y.heir[i]} (by omega) (by omega) (λj h hj=>by
     simp only[Vector.getElem_set];split
     · rename_i e;subst e;exact⟨rfl,by rw[h2 i h (aH _),ht.none i h h0]⟩
     · exact h1 j h (by omega)) (λj h hj=>h2 j h (by omega))]
theorem xd{x:RowT}(h:TameR x)(r:List UInt8):th (im x++r)=some (x,r):=by
 rw[im,aE,aE,th,au (kV h.version.1 h.version.2 _)];have hc:=Aq h.cells (fH x 5 0++r) 4 0 {RowT.zero with version:=x.version} (by omega) (by omega) (λj h hj=>by omega);rw[be]at hc
 rw[au hc,uQ h r 5 0 _ (by omega) (by omega) (λj h hj=>by omega) (λj hj _=>by
  match j,hj with
  |0,_=>rfl
  |1,_=>rfl
  |2,_=>rfl
  |3,_=>rfl
  |4,_=>rfl)]
def Jk(c:CellT):CellT:=⟨KV c.inn,KV c.out,c.given.map KV⟩
theorem Jj(c:CellT):TameC (Jk c):=by
 have h:=λn=>NL n
 refine⟨⟨(h _).1,by have:=(h c.inn).2;show KV c.inn<_;omega⟩,⟨(h _).1,by have:=(h c.out).2;show KV c.out<_;omega⟩,λj hj=>?_⟩;show rM ((c.given.map KV)[j]);rw[Vector.getElem_map];exact⟨(h _).1,by have:=(h c.given[j]).2;omega⟩
theorem ER:Jk CellT.zero=CellT.zero:=by
 simp only[Jk,CellT.zero,CellT.mk.injEq];exact⟨by decide,by decide,by simp[KV]⟩
theorem sH{n:Int}(h:0≤n∧n<9223372036854775808):(Lit.int .i64 n).wf=true:=by
 have m1:IntKind.i64.min= -9223372036854775808:=by decide
 have m2:IntKind.i64.max=9223372036854775807:=by decide
 simp only[Lit.wf,m1,m2,an,decide_eq_true_eq];omega
theorem TameC.wf{c:CellT}(h:TameC c):WF c.flat:=λn hn=>by
 simp only[CellT.flat,cn]at hn;have s: ∀n,rM n→(Lit.int .i64 n).wf=true:=λn h=>sH ⟨h.1,by have:=h.2;omega⟩
 rcases hn with rfl|rfl|hn
 · exact s _ h.inn
 · exact s _ h.out
 · obtain⟨j,hj,rfl⟩:=gJ hn
   rw[aA]at hj;have:=s _ (h.given j hj)
   simpa using this
theorem B9{v:Vector CellT 4}(h: ∀(k:Nat) (hk:k<4),TameC v[k]):WF (bI v.toList):=λn hn=>by
 obtain⟨c,hc,hn⟩:=kH.1 hn;obtain⟨j,hj,rfl⟩:=gJ hc;rw[aA]at hj;have:=(h j hj).wf n;simp only[Vector.getElem_toList]at hn;exact this hn
theorem TameR.wf{x:RowT}(h:TameR x):WF x.flat:=λn hn=>by
 simp only[RowT.flat,cn,eY]at hn;rcases hn with rfl|hn|hn|hn
 · exact sH h.version
 · exact B9 h.cells n hn
 · obtain⟨j,hj,rfl⟩:=gJ hn
   rw[aA]at hj
   simpa using sH (h.heir j hj)
 · obtain⟨v,hv,hn⟩:=kH.1 hn
   obtain⟨j,hj,rfl⟩:=gJ hv;rw[aA]at hj;simp only[Vector.getElem_toList]at hn;exact B9 (λk hk=>h.left j k hj hk) n hn
theorem hZ{P:Program}{t:TypeId}{l:List Int}{c:Nat}(hu:(match P.underlying t with|some (.struct _)|some (.array _ _)=>true|_=>false)=true)(hc:P.cellsOf t=c)(hl:l.length=c):(agI l).formed P t=true:=by
 have e:((ints l).toArray.size==P.cellsOf t)=true:=by simp[ints,hl,hc]
 unfold agI Value.formed;split at hu
 · rename_i h;simp only[h];exact e
 · rename_i h;simp only[h];exact e
 · cases hu
theorem Ix{c d:CellT}(h:c.flat=d.flat):c=d:=by
 obtain⟨i,o,g⟩:=c;obtain⟨i',o',g'⟩:=d;simp only[CellT.flat,List.cons.injEq]at h;obtain⟨rfl,rfl,h⟩:=h;rw[Vector.toList_inj.1 h]
theorem bk{α β:Type}{p:Ps α}{q:α→Ps β}{bs r:List UInt8}{b:β}(h:pb p q bs=some (b,r)): ∃a r',p bs=some (a,r')∧q a r'=some (b,r):=by
 cases e:p bs with
 |none=>rw[bV e]at h;cases h
 |some x=>obtain⟨a,r'⟩:=x;rw[au e]at h;exact⟨a,r',rfl,h⟩
theorem gj{α:Type}{a b:α}{bs r:List UInt8}(h:pr a bs=some (b,r)):a=b∧bs=r:=by
 simp only[pr,Option.some.injEq,Prod.mk.injEq]at h;exact h
theorem cU{lim n:Int}{bs r:List UInt8}(h:fo lim bs=some (n,r)):(0≤n∧n<lim∧n<9223372036854775808)∧bs=oz n++r:=by
 obtain⟨a,r',h1,h2⟩:=bk h;obtain⟨k1,k2,k3⟩:=iI h1;split at h2
 · cases h2
 · obtain⟨rfl,rfl⟩:=gj h2
   exact⟨⟨k1,by omega,k2⟩,k3⟩
theorem Ar{c:CellT}{bs r:List UInt8}(h:lB bs=some (c,r)):TameC c∧bs=bf c.flat++r:=by
 obtain⟨i,_,h1,h⟩:=bk h;obtain⟨o,_,h2,h⟩:=bk h;obtain⟨a,_,h3,h⟩:=bk h;obtain⟨b,_,h4,h⟩:=bk h;obtain⟨d,_,h5,h⟩:=bk h;obtain⟨e,_,h6,h⟩:=bk h;obtain⟨f,_,h7,h⟩:=bk h;obtain⟨rfl,rfl⟩:=gj h;obtain⟨k1,rfl⟩:=cU h1;obtain⟨k2,rfl⟩:=cU h2;obtain⟨k3,rfl⟩:=cU h3;obtain⟨k4,rfl⟩:=cU h4;obtain⟨k5,rfl⟩:=cU h5;obtain⟨k6,rfl⟩:=cU h6;obtain⟨k7,rfl⟩:=cU h7;have s: ∀{n:Int},(0≤n∧n<1099511627777∧n<9223372036854775808)→rM n:=λh=>⟨h.1,h.2.1⟩
 refine⟨⟨s k1,s k2,λj hj=>?_⟩,by simp[CellT.flat,bf]⟩
 match j,hj with
 |0,_=>exact s k3
 |1,_=>exact s k4
 |2,_=>exact s k5
 |3,_=>exact s k6
 |4,_=>exact s k7
theorem oG{v:ViewT}{bs r:List UInt8}(h:lF bs=some (v,r)):((0≤v.epoch∧v.epoch<9223372036854775808)∧(0≤v.members∧v.members<32)∧∀(i:Nat) (hi:i<5),0≤v.heirs[i]∧v.heirs[i]<6)∧bs=bf v.flat++r:=by
 obtain⟨i,_,h1,h⟩:=bk h;obtain⟨o,_,h2,h⟩:=bk h;obtain⟨a,_,h3,h⟩:=bk h;obtain⟨b,_,h4,h⟩:=bk h;obtain⟨d,_,h5,h⟩:=bk h;obtain⟨e,_,h6,h⟩:=bk h;obtain⟨f,_,h7,h⟩:=bk h;obtain⟨rfl,rfl⟩:=gj h;obtain⟨k1,k1',rfl⟩:=iI h1;obtain⟨k2,rfl⟩:=cU h2;obtain⟨k3,rfl⟩:=cU h3;obtain⟨k4,rfl⟩:=cU h4;obtain⟨k5,rfl⟩:=cU h5;obtain⟨k6,rfl⟩:=cU h6;obtain⟨k7,rfl⟩:=cU h7;refine⟨⟨⟨k1,k1'⟩,⟨k2.1,k2.2.1⟩,λj hj=>?_⟩,by simp[ViewT.flat,bf]⟩
 match j,hj with
 |0,_=>exact⟨k3.1,k3.2.1⟩
 |1,_=>exact⟨k4.1,k4.2.1⟩
 |2,_=>exact⟨k5.1,k5.2.1⟩
 |3,_=>exact⟨k6.1,k6.2.1⟩
 |4,_=>exact⟨k7.1,k7.2.1⟩
theorem oe{c:ChangeT}{bs r:List UInt8}(h:kN bs=some (c,r)):((0≤c.kind∧c.kind<2)∧(0≤c.who∧c.who<5)∧(0≤c.heir∧c.heir<5))∧bs=bf c.flat++r:=by
 obtain⟨a,_,h1,h⟩:=bk h;obtain⟨b,_,h2,h⟩:=bk h;obtain⟨d,_,h3,h⟩:=bk h;obtain⟨rfl,rfl⟩:=gj h;obtain⟨k1,rfl⟩:=cU h1;obtain⟨k2,rfl⟩:=cU h2;obtain⟨k3,rfl⟩:=cU h3;exact⟨⟨⟨k1.1,k1.2.1⟩,⟨k2.1,k2.2.1⟩,⟨k3.1,k3.2.1⟩⟩,by simp[ChangeT.flat,bf]⟩
theorem jR{b:BallotT}{bs r:List UInt8}(h:js bs=some (b,r)):((0≤b.round∧b.round<9223372036854775808)∧(0≤b.who∧b.who<5))∧bs=bf b.flat++r:=by
 obtain⟨a,_,h1,h⟩:=bk h;obtain⟨d,_,h2,h⟩:=bk h;obtain⟨rfl,rfl⟩:=gj h;obtain⟨k1,k1',rfl⟩:=iI h1;obtain⟨k2,rfl⟩:=cU h2;exact⟨⟨⟨k1,k1'⟩,⟨k2.1,k2.2.1⟩⟩,by simp[BallotT.flat,bf]⟩
theorem xU: ∀(m k:Nat) (x y:RowT) (bs r:List UInt8),m=4-k→k≤4→lQ m k x bs=some (y,r)→
 (y.version=x.version∧y.heir=x.heir∧y.left=x.left)∧(∀j (h:j<4),j<k→y.cells[j]=x.cells[j])∧(∀j (h:j<4),k≤j→TameC y.cells[j])∧bs=bf (bI (y.cells.toList.drop k))++r
 |0,k,x,y,bs,r,hm,hk,h=>by
  obtain⟨rfl,rfl⟩:=gj h;obtain rfl:k=4:=by omega
  exact⟨⟨rfl,rfl,rfl⟩,λ_ _ _=>rfl,λj h h'=>by omega,by rw[dO (by simp)];rfl⟩
 |m+1,k,x,y,bs,r,hm,hk,h=>by
  have hk4:k<4:=by omega
  obtain⟨c,r',h1,h2⟩:=bk h;obtain⟨k1,rfl⟩:=Ar h1;rw[dif_pos hk4]at h2;obtain⟨i1,i2,i3,rfl⟩:=xU m (k+1) _ y r' r (by omega) (by omega) h2;have e:y.cells[k]=c:=by rw[i2 k hk4 (by omega)];simp
  refine⟨i1,λj h hj=>by rw[i2 j h (by omega)];simp[Vector.getElem_set,show k≠j by omega],λj h hj=>?_,?_⟩
  · by_cases q:j=k
    · subst q;rw[e];exact k1
    · exact i3 j h (by omega)
  · rw[lO (l:=y.cells.toList) (k:=k) (by simpa using hk4),Vector.getElem_toList,e,aE]
theorem zV{i:Nat}(hi:i<5): ∀(m k:Nat) (x y:RowT) (bs r:List UInt8),m=4-k→k≤4→oT m i k x bs=some (y,r)→
 (y.version=x.version∧y.heir=x.heir∧y.cells=x.cells)∧(∀j (h:j<5),j≠i→y.left[j]=x.left[j])∧(∀j (h:j<4),j<k→y.left[i][j]=x.left[i][j])∧(∀j (h:j<4),k≤j→TameC y.left[i][j])∧bs=bf (bI (y.left[i].toList.drop k))++r
 |0,k,x,y,bs,r,hm,hk,h=>by
  obtain⟨rfl,rfl⟩:=gj h;obtain rfl:k=4:=by omega
  exact⟨⟨rfl,rfl,rfl⟩,λ_ _ _=>rfl,λ_ _ _=>rfl,λj h h'=>by omega,by rw[dO (by simp)];rfl⟩
 |m+1,k,x,y,bs,r,hm,hk,h=>by
  have hk4:k<4:=by omega
  obtain⟨c,r',h1,h2⟩:=bk h;obtain⟨k1,rfl⟩:=Ar h1;rw[dif_pos ⟨hi,hk4⟩]at h2;obtain⟨i1,i2,i3,i4,rfl⟩:=zV hi m (k+1) _ y r' r (by omega) (by omega) h2;have e:y.left[i][k]=c:=by rw[i3 k hk4 (by omega)];simp
  refine⟨i1,λj h hj=>by rw[i2 j h hj];simp[Vector.getElem_set,Ne.symm hj],λj h hj=>by rw[i3 j h (by omega)];simp[Vector.getElem_set,show k≠j by omega],λj h hj=>?_,?_⟩
  · by_cases q:j=k
    · subst q;rw[e];exact k1
    · exact i4 j h (by omega)
  · rw[lO (l:=y.left[i].toList) (k:=k) (by simpa using hk4),Vector.getElem_toList,e,aE]
theorem ui:TameC CellT.zero:=by rw[←ER];exact Jj _
theorem sq: ∀(m i:Nat) (x y:RowT) (bs r:List UInt8),m=5-i→i≤5→(∀j (h:j<5),i≤j→x.left[j]=RowT.zero.left[0])→iU m i x bs=some (y,r)→
 (y.version=x.version∧y.cells=x.cells)∧(∀j (h:j<5),j<i→y.heir[j]=x.heir[j]∧y.left[j]=x.left[j])∧
 (∀j (h:j<5),i≤j→(0≤y.heir[j]∧y.heir[j]<9223372036854775808)∧(∀k (hk:k<4),TameC y.left[j][k])∧(y.heir[j]=(0:Int)→y.left[j]=RowT.zero.left[0]))∧bs=fH y m i++r
 |0,i,x,y,bs,r,hm,hi,hz,h=>by
  obtain⟨rfl,rfl⟩:=gj h;obtain rfl:i=5:=by omega
  exact⟨⟨rfl,rfl⟩,λ_ _ _=>⟨rfl,rfl⟩,λj h h'=>by omega,rfl⟩
 |m+1,i,x,y,bs,r,hm,hi,hz,h=>by
  have hi5:i<5:=by omega
  have zt: ∀k (hk:k<4),TameC (RowT.zero.left[0])[k]:=λk hk=>by
   match k,hk with
   |0,_|1,_|2,_|3,_=>exact ui
  obtain⟨n,r',h1,h2⟩:=bk h;obtain⟨k1,k2,rfl⟩:=iI h1;simp only[dif_pos hi5]at h2;split at h2
  · rename_i hn
    obtain⟨z,r2,h3,h4⟩:=bk h2;obtain⟨⟨i1,i2,i3⟩,i4,_,i5,rfl⟩:=zV hi5 4 0 _ z r' r2 rfl (by omega) h3;obtain⟨⟨j1,j2⟩,j3,j4,rfl⟩:=sq m (i+1) z y r2 r (by omega) (by omega) (λj h hj=>by rw[i4 j h (by omega)];exact hz j h (by omega)) h4;have e1:y.heir[i]=n:=by rw[(j3 i hi5 (by omega)).1,show z.heir[i]=(x.heir.set i n)[i]from by rw[i2]];simp
    have e2:y.left[i]=z.left[i]:=(j3 i hi5 (by omega)).2;refine⟨⟨by rw[j1,i1],by rw[j2,i3]⟩,λj h hj=>⟨?_,?_⟩,λj h hj=>?_,?_⟩
    · rw[(j3 j h (by omega)).1,show z.heir[j]=(x.heir.set i n)[j]from by rw[i2]];simp[Vector.getElem_set,show i≠j by omega]
    · rw[(j3 j h (by omega)).2,i4 j h (by omega)]
    · by_cases q:j=i
      · subst q
        rw[e1,e2];exact⟨⟨k1,k2⟩,λk hk=>i5 k hk (by omega),λe=>by omega⟩
      · exact j4 j h (by omega)
    · simp only[fH,dif_pos hi5,e1,if_pos hn,e2,aE,be]
  · rename_i hn
    obtain⟨⟨j1,j2⟩,j3,j4,rfl⟩:=sq m (i+1) {x with heir:=x.heir.set i n} y r' r (by omega) (by omega) (λj h hj=>hz j h (by omega)) h2;have e1:y.heir[i]=n:=by rw[(j3 i hi5 (by omega)).1];simp
    have e2:y.left[i]=x.left[i]:=(j3 i hi5 (by omega)).2;refine⟨⟨j1,j2⟩,λj h hj=>⟨?_,?_⟩,λj h hj=>?_,?_⟩
    · rw[(j3 j h (by omega)).1];simp[Vector.getElem_set,show i≠j by omega]
    · rw[(j3 j h (by omega)).2]
    · by_cases q:j=i
      · subst q
        rw[e1,e2,hz j hi5 (aH _)];exact⟨⟨k1,k2⟩,zt,λ_=>rfl⟩
      · exact j4 j h (by omega)
    · simp only[fH,dif_pos hi5,e1,if_neg hn,aQ,aW,aE]
theorem tg{x:RowT}{bs r:List UInt8}(h:th bs=some (x,r)):TameR x∧bs=im x++r:=by
 obtain⟨n,r1,h1,h'⟩:=bk h;clear h;obtain⟨k1,k2,rfl⟩:=iI h1;replace h':pb (lQ 4 0 {RowT.zero with version:=n}) (iU 5 0) r1=some (x,r):=h';obtain⟨y,r2,h2,h3⟩:=bk h';clear h';obtain⟨⟨i1,i2,i3⟩,_,i4,rfl⟩:=xU 4 0 _ y r1 r2 rfl (by omega) h2
 obtain⟨⟨j1,j2⟩,_,j3,rfl⟩:=sq 5 0 y x r2 r rfl (by omega) (λj h _=>by
  rw[show y.left[j]=RowT.zero.left[j]from by rw[i3]]
  match j,h with
  |0,_|1,_|2,_|3,_|4,_=>rfl) h3
 have ev:x.version=n:=by rw[j1,i1]
 refine⟨⟨by rw[ev];exact⟨k1,k2⟩,λk hk=>by rw[show x.cells[k]=y.cells[k]from by rw[j2]];exact i4 k hk (by omega),λi hi=>(j3 i hi (by omega)).1,λi k hi hk=>(j3 i hi (by omega)).2.1 k hk,λi hi=>(j3 i hi (by omega)).2.2⟩,?_⟩;rw[im,ev,j2,be];simp only[aE]
end Codec
end

section
namespace Api
open Go Leg Codec
def Do(n:Int):Bool:=decide (0≤n∧n≤1099511627776)
def oA:List Int→Int→Int×Int
 | [],s=>(s,0)
 |n::l,s=>if Do n then(if n>1099511627776-s then(0,6)else oA l (s+n))else(0,5)
def KU(c:CellT):Bool:=Do c.inn&&Do c.out&&decide ((oA c.given.toList 0).2=0)
def yz(v:Vector CellT 4):Bool:=decide (∀k (h:k<4),KU v[k]=true)
def Bt(h:Int)(l:Vector CellT 4):Bool:=decide (0≤h)&&yz l&&decide (h=0→bI l.toList=bI RowT.zero.left[0].toList)
def fy(x:RowT):Bool:=decide (0≤x.version)&&yz x.cells&&decide (∀j (h:j<5),Bt x.heir[j] x.left[j]=true)
def cI(w:Int):Bool:=decide (0≤w∧w<5)
def IQ(m w:Int):Bool:=decide ((m.fdiv (2^min w.toNat IntKind.i64.bits))%2=1)
def iS(v:ViewT)(w:Int):Bool:=cI w&&IQ v.members w
def Nq(v:ViewT)(h:Int)(i:Nat):Bool:=decide (h=0)||(iS v (h-1)&& !iS v (i:Int))
def jB(v:ViewT):Bool:=decide (1≤v.epoch∧1≤v.members∧v.members<32)&& @decide (∀(j:Nat) (h:j<5),Nq v (v.heirs[j]'h) j=true) (Nat.decidableBallLT 5 λj h=>Nq v (v.heirs[j]'h) j=true)
def firstV:ViewT:=⟨1,7, #v[0,0,0,0,0]⟩
def mg(v:ViewT)(w:Int):Option Int:=if h:0≤w∧w<5 then(if v.heirs[w.toNat]<1 then none else some (v.heirs[w.toNat]-1))else none
def uM(c:ChangeT)(i:Nat)(h:Int):Int:=if(i:Int)=c.who∨h=c.who+1 then c.heir+1 else h
def Rng(v:ViewT):Prop:=∀(i:Nat) (h:i<5),0≤v.heirs[i]∧v.heirs[i]≤5
def si(v:ViewT)(c:ChangeT):Vector Int 5:=v.heirs.mapIdx (uM c)
def dF(v:ViewT)(c:ChangeT):ViewT×Int:=
 if !cI c.who|| !cI c.heir then(ViewT.zero,5)
 else if c.kind=0 then
  if(mg v c.who).isSome||iS v c.who then(ViewT.zero,5)
  else(⟨IntKind.i64.wrap (v.epoch+1),iP .i64 v.members (2^c.who.toNat),v.heirs⟩,0)
 else if c.kind=1 then
  if !iS v c.who|| !iS v c.heir||decide (c.heir=c.who)then(ViewT.zero,5)
  else(⟨IntKind.i64.wrap (v.epoch+1),nb .i64 v.members (2^c.who.toNat),si v c⟩,0)
 else(ViewT.zero,5)
theorem yc{l:List Int}{k:Nat}{s:Int}(h:k<l.length):oA (l.drop k) s=if Do (l.getD k 0)then(if l.getD k 0>1099511627776-s then(0,6)else oA (l.drop (k+1)) (s+l.getD k 0))else(0,5):=by
 rw[dI h,oA];simp[List.getD_eq_getElem?_getD,h]
theorem Mq(x:Int):tS .i64 x 1=x%2:=mask (k:=1) (by decide) x
theorem Gu{w:Int}(h:0≤w∧w<5):IntKind.i64.wrap (1*2^min w.toNat IntKind.i64.bits)=2^w.toNat:=by
 obtain⟨m,rfl⟩:=Int.eq_ofNat_of_zero_le h.1;have:m<5:=by omega
 match m,this with
 |0,_|1,_|2,_|3,_|4,_=>rfl
end Api
namespace Leg
section
open Go
variable {P:Program} {n:Nat} {D:List Deferred} {L:List (Nat×Value)} {S:World→Prop} {o:Oper}
theorem eg{l:List Int}{n:Nat}(h:(Api.ints l).length=n):l.length=n:=by rwa [Api.ints_length]at h
theorem PV.neqAgg{t t':TypeId}{x y:Operand}{a b:List Int}{m c:Nat}(hg:P.eqGuardType P.depth t=false)(hk:P.keyTypeAt m t=true)(hm:Nat.ble m 10000=true)(hF:oV P m t=some c)(ha:a.length=c)(hb:b.length=c)
 (hf:(Api.agI a).formed P t=true∧(Api.agI b).formed P t=true) (wa:WF a) (wb:WF b)
 (ho:o.op= .binOp .neq t x y t') (hx:cK L x=some (Api.agI a)) (hy:cK L y=some (Api.agI b)):PV P n D L S o (.bool (decide (a≠b))):=
 gT ho hx hy λw=>by
  have hm':m≤10000:=fh hm;obtain⟨r,hr,hi⟩:=run_equalIn_deep (10000-m) m t hk w m m (Api.agI a) (Api.agI b) (pZ a) (pZ b) hf.1 hf.2 (by simpa [Api.agI,Value.cells]using ly m t c hF a ha wa) (by simpa [Api.agI,Value.cells]using ly m t c hF b hb wb);rw[show 10000-m+m=10000 by omega]at hr
  have e:r=decide (a=b):=by
   rw[Ax,hi,decide_eq_true_iff];constructor
   · intro h
     have hj:Function.Injective (Lit.int IntKind.i64):=λu v h=>by injection h
     exact(IW λu v h=>hj h).1 h
   · rintro rfl;rfl
  subst e;simp only[Api.agI]at hr ⊢;rw[Sem.run_bind,run_eqGuard_agg w .neq t x y _ _ hg,Result.andThen_ok,run_neq_struct,hr];simp
abbrev Mx:= @PV.neqAgg
theorem TE.retCT{w0:World}{F:Hl}{H H':List HP}{fn:Func}{post:Ending→List HP→Prop}{t t' ty e m b:Nat}{cs:List Value}{z:Nat×Nat}{dt:TypeDesc}{v':Value}(hr:fn.results=#[.cell t ty, .tmp t'])(he:lk L t=some (.pointer (some ⟨b,0,none⟩)))(e':lk L t'=some v')
 (hu:P.underlying ty=some dt) (hp:dR dt=false) (hm:(P.info? ty).map (·.size)=some m) (hR:Rd (Sat H F) b (.cells cs.toArray e z)) (hl:cs.length=m) (hk: ∀h,bz H h→bz H' h)
 (h:post (.returned (.tuple #[.agg cs.toArray,v'])) H'):TE w0 F n (bodyPost P fn (jD post w0 F)) .ret [] L H:=λa w f s q=>by
 have h1:a.tmps.getD t undef= .pointer (some ⟨b,0,none⟩):=f.eval (x:= .tmp t) he;have h2:a.tmps.getD t' undef=v':=f.eval (x:= .tmp t') e'
 have h3:(results fn a.tmps).run P w= .ok (.tuple #[.agg cs.toArray,v']) w:=by
  have h1':a.tmps[t]?.getD undef= .pointer (some ⟨b,0,none⟩):=by simpa using h1
  have h2':a.tmps[t']?.getD undef=v':=by simpa using h2
  simp[results,hr,h1',h2',asAddr,run_loadVar_row w b e ty cs.toArray z dt (hR w q) hu (by cases dt<;>simp[dR]at hp ⊢) (by simp[hm,hl])]
 exact bodyPost_ret h3 f.2.1 ⟨s,H',q.mono hk,h⟩
abbrev mm:= @TE.retCT
theorem PV.andNot{t t':TypeId}{x y:Operand}{k:IntKind}{a b r:Int}(ho:o.op= .binOp .andNot t x y t')(hx:cK L x=some (.int k a))(hy:cK L y=some (.int k b))(hr:nb k a b=r):PV P n D L S o (.int k r):=
 gT ho hx hy (λw=>by rw[gi];subst hr;simp[binOp,Op.intBits,nb])
end
open Go
variable {P:Program} {w0:World} {F:Hl} {n:Nat} {ops:Array Oper} {Q:QQ} {D:List Deferred} {L:List (Nat×Value)} {H:List HP} {d:Nat} {o:Oper} {l:List Oper}
theorem RT{fn:Func}{post:Ending→List HP→Prop}{t t' ty e m b:Nat}{cs:List Value}{dt:TypeDesc}{v':Value}(k:Nat)(is:List Nat)(hu:P.underlying ty=some dt)(hm:(P.info? ty).map (·.size)=some m)(hl:cs.length=m)(h:post (.returned (.tuple #[.agg cs.toArray,v'])) ((C3 H is).take is.length))(hr:fn.results=#[.cell t ty, .tmp t']:=by exact rfl)(he:lk L t=some (.pointer (some ⟨b,0,none⟩)):=by exact rfl)(e':lk L t'=some v':=by exact rfl)(hp:dR dt=false:=by exact rfl)(hk:Nat.blt k H.length=true:=by exact rfl)(hH:H.getD k (λ_=>True)=ah b cs e:=by exact rfl)(hs:LK H.length is=true:=by exact rfl):TE w0 F n (bodyPost P fn (jD post w0 F)) .ret [] L H:=mm hr he e' hu hp hm (fD k hk hH) hl (λ_ s=>ak is hs s) h
end Leg
end

section
namespace Go.Proofs.YtmcjhkbcmmddgaaGreat
open Go Leg Codec Api
theorem bl:Tryz.prog.follows .mixedOrders=true:=by kernel_rfl
abbrev iV:List PanicEntry:=[{v:= .iface 199 (.agg #[]),recovered:=false}]
theorem If(rb b off cap:Nat)(bs:List UInt8)(cs:List Value)(T:TypeId)(z:Nat×Nat)(hcap:bs.length≤cap)(hm:cap≤9223372036854775807)(hb: ∀j,j<bs.length→cs[off+j]?=some (.int .u8 ((bs.getD j 0).toNat:Nat))):
 DT 120 #[(.pointer (some ⟨rb,0,none⟩))] (λF=>F b=some (.cells cs.toArray T z)) [ah rb [(.slice (some ⟨b,off,none⟩) (bs.length) (cap))] 197] (vY (λx H=>∃n r v',x= .int .i64 ((n:Nat):Int)∧H=[ah rb [v'] 197]∧jF 0 0 bs=some (n,r)∧Tail (.slice (some ⟨b,off,none⟩) bs.length cap) bs v' r) (λc H=>c=iV∧H=[ah rb [(.slice (some ⟨b,off,none⟩) bs.length cap)] 197]∧jF 0 0 bs=none)):=by
 refine BD 48 Tryz.func120 rfl rfl rfl λw0 F hF=>sr λ_ J1=>PS ?_
 refine nx J1 (sr λ_ J2=>PS ?_);refine nx J2 (aa λ_ J3=>sr λ_ J4=>P2 ?_);refine FA 0 BW ow ?_;refine LA 0 ia ?_;refine tp (tV rfl ia rfl) ?_;refine PS ?_;refine nx J4 (aq ?_)
 refine bD (α:=(Nat)×(Nat)) (λ⟨k,a⟩=>k≤bs.length∧k≤9∧a<2^ (7*k)∧jF 0 0 bs=jF k a (bs.drop k)) (λ⟨k,a⟩=>[(0,(.pointer (some ⟨rb,0,none⟩))),(3,(.int .i64 ((a:Nat)))),(9,(.slice (some ⟨b,off,none⟩) (bs.length) (cap))),(10,(.int .i64 (((bs.length:Nat):Int)))),(11,(.int .i64 ((k:Nat))))]) (λ⟨k,a⟩=>[ah rb [(.slice (some ⟨b,off,none⟩) (bs.length) (cap))] 197]) (λ⟨k,a⟩=>bs.length-k) (0,0)
  ⟨by omega,by omega,by omega,rfl⟩ SB
  (λ_ s=>s) (λ⟨k,a⟩ hinv=>?_)
 obtain⟨hk,hk9,ha,hp⟩:=hinv;have hc:(bs.getD k 0).toNat<256:=(bs.getD k 0).toNat_lt;refine sr λ_ J5=>PS ?_
 refine ap ?_ ?_<;>intro h12;refine nx J5 (aa λ_ J6=>CY (qx J6 (aa λ_ J7=>aq (sr λ_ J8=>PS ?_))));refine tp (j9 (r:=off+k) rfl ia lT rfl rfl (by first|omega|decide) (by first|omega|decide) (by omega)) ?_;refine tp (ii (v:=(.int .u8 (((bs.getD k 0).toNat:Nat)))) rfl Y5 rfl rfl (Rd.ro hF) (hb k (by omega))) ?_;refine P2 ?_;refine nx J8 (aa λ_ J9=>sr λ_ J10=>P2 ?_);refine ap ?_ ?_<;>intro h17;refine nx J10 (CY (bh (aC (TE.miss (by decide) (aC (aC (bC (ac J3 (ad (BV #[] ?_))))))))));refine tp (p8 rfl IS rfl rfl) ?_;refine IT (ab rfl) rfl rfl (aR ?_);exact⟨rfl,rfl,by rw[hp,oW bs k (by omega)];simp only[jF];rw[if_pos (by omega)]⟩;refine nx J10 (CN (qx J9 (sr λ_ J11=>P2 ?_)));refine tp (o5 (r:=(((bs.getD k 0).toNat%128:Nat):Int)) rfl rfl rfl (NW _ hc)) ?_;refine tp (eL rfl Y5 Y3 rfl (bK (by omega) (by omega))) ?_;refine PS ?_;refine tp (My rfl rfl rfl (bK (by omega) (by omega))) ?_;refine tp (yU (r:=(((bs.getD k 0).toNat%128*2^ (7*k):Nat):Int)) rfl rfl rfl (by omega) (Ql _ k (by omega) (by omega))) ?_;refine tp (KM (r:=((a+(bs.getD k 0).toNat%128*2^ (7*k):Nat):Int)) rfl rfl rfl (Nl a _ k ha (by omega) (by omega))) ?_;refine PS ?_;refine nx J11 (aa λ_ J12=>sr λ_ J13=>P2 ?_);refine ap ?_ ?_<;>intro h27;refine nx J13 (CY (bh (aC (bC (ac J7 (ad (AD ?_)))))));refine PS ?_;refine aw ?_
 exact aL ((k+1,a+(bs.getD k 0).toNat%128*2^ (7*k)):(Nat)×(Nat)) ⟨by omega,by omega,Pp a _ k ha (by omega),by rw[hp,oW bs k (by omega)];simp only[jF];rw[if_neg (by omega),if_pos (by omega)]⟩ (by show _-_<_-_;omega)
  SB
  (λ_ s=>s)
 refine nx J13 (CN (qx J12 (aa λ_ J14=>sr λ_ J15=>P2 ?_)));refine ap ?_ ?_<;>intro h29;refine P3 ?_;refine ap ?_ ?_<;>intro h32;refine PS ?_;refine nx J15 (CY (bh (aC (TE.miss (by decide) (aC (aC (bC (ac J3 (ad (BV #[] ?_))))))))));refine tp (p8 rfl IS rfl rfl) ?_;refine IT (ab rfl) rfl rfl (aR ?_);exact⟨rfl,rfl,by rw[hp,oW bs k (by omega)];simp only[jF];rw[if_neg (by omega),if_neg (by omega),if_pos (by omega)]⟩;refine PS ?_;refine nx J15 (CN (qx J14 (sr λ_ J16=>P3 ?_)));refine FA 0 BW ow ?_;refine LA 0 ia ?_;refine PS ?_;refine AD ?_;refine tp (PV.sliceLo (k:=k+1) rfl ia lT rfl rfl (by omega) (by omega) rfl) ?_;refine PS ?_;refine FA 0 BW ow ?_;refine S0 0 ow ?_;refine nx J16 (sr λ_ J17=>P2 ?_);refine nx J17 (aj (aJ (ae (ae (aJ (ae (av rfl rfl ?_)))))));exact⟨_,_,_,rfl,rfl,by rw[hp,oW bs k (by omega)];simp only[jF];rw[if_neg (by omega),if_neg (by omega),if_neg (by omega)],Tail.cut _ (by omega)⟩;refine PS ?_;refine UF ?_;refine UF ?_;refine PS ?_;refine nx J15 (CN (qx J14 (sr λ_ J18=>P3 ?_)));refine FA 0 BW ow ?_;refine LA 0 ia ?_;refine PS ?_;refine AD ?_;refine tp (PV.sliceLo (k:=k+1) rfl ia lT rfl rfl (by omega) (by omega) rfl) ?_;refine PS ?_;refine FA 0 BW ow ?_;refine S0 0 ow ?_;refine nx J18 (sr λ_ J19=>P2 ?_);refine nx J19 (aj (aJ (ae (ae (aJ (ae (av rfl rfl ?_)))))))
 exact⟨_,_,_,rfl,rfl,by rw[hp,oW bs k (by omega)];simp only[jF];rw[if_neg (by omega),if_neg (by omega),if_neg (by omega)],Tail.cut _ (by omega)⟩;refine nx J5 (aa λ_ J20=>CN (bh (aC (aC (bC (ac J3 (ad (BV #[] ?_))))))));refine tp (p8 rfl IS rfl rfl) ?_;refine IT (ab rfl) rfl rfl (aR ?_);exact⟨rfl,rfl,by rw[hp,dO (by omega)];rfl⟩
theorem LM(rb:Nat):
 DT 120 #[(.pointer (some ⟨rb,0,none⟩))] T0 [ah rb [(.slice none 0 0)] 197] (vY (λx H=>∃n r v',x= .int .i64 ((n:Nat):Int)∧H=[ah rb [v'] 197]∧jF 0 0 []=some (n,r)∧Tail (.slice none 0 0) [] v' r) (λc H=>c=iV∧H=[ah rb [(.slice none 0 0)] 197]∧jF 0 0 []=none)):=by
 refine BD 48 Tryz.func120 rfl rfl rfl λw0 F hF=>sr λ_ J1=>PS ?_
 refine nx J1 (sr λ_ J2=>PS ?_);refine nx J2 (aa λ_ J3=>sr λ_ J4=>P2 ?_);refine FA 0 BW ow ?_;refine LA 0 ia ?_;refine tp (tV rfl ia rfl) ?_;refine PS ?_;refine nx J4 (aq ?_)
 refine bD (α:=Unit) (λ_u=>True) (λ_u=>[(0,(.pointer (some ⟨rb,0,none⟩))),(3,(.int .i64 0)),(9,(.slice none 0 0)),(10,(.int .i64 0)),(11,(.int .i64 0))]) (λ_u=>[ah rb [(.slice none 0 0)] 197]) (λ_u=>0) ()
  trivial SB
  (λ_ s=>s) (λ_u hinv=>?_)
 obtain _:=hinv;refine sr λ_ J5=>PS ?_
 refine nx J5 (aa λ_ J6=>CN (bh (aC (aC (bC (ac J3 (ad (BV #[] ?_))))))));refine tp (p8 rfl IS rfl rfl) ?_;exact IT (ab rfl) rfl rfl (aR ⟨rfl,rfl,rfl⟩)
theorem jG(rb:Nat)(v:Value)(bs:List UInt8):DT 120 #[(.pointer (some ⟨rb,0,none⟩))] (IsB v bs) [ah rb [v] 197] (oB 197 iV (λn=> .int .i64 n) m3 v bs rb):=by
 have fin: ∀e H,(vY (λx H=>∃n r v',x= .int .i64 ((n:Nat):Int)∧H=[ah rb [v'] 197]∧jF 0 0 bs=some (n,r)∧Tail v bs v' r) (λc H=>c=iV∧H=[ah rb [v] 197]∧jF 0 0 bs=none)) e H→oB 197 iV (λn=> .int .i64 n) m3 v bs rb e H:=by
  intro e H h;cases e with
  |returned x=>obtain⟨n,r,v',h1,h2,h3,h4⟩:=h;exact⟨_,r,v',h1,h2,Ig h3,h4⟩
  |panicked c=>obtain⟨h1,h2,h3⟩:=h;exact⟨_,h1,h2,Ih h3⟩
  |outgrown=>exact h
 refine Leg.Does.of λF hF=>?_
 rcases id hF with⟨rfl,rfl⟩| ⟨b,off,cap,cs,T,z,rfl,h1,h2,h3,h4⟩
 · exact⟨_,trivial,(LM rb).mono fin⟩
 · exact⟨_,h3,(If rb b off cap bs cs T z h1 h2 h4).mono fin⟩
theorem cV(rb:Nat)(v:Value)(bs:List UInt8)(lim:Int):
 DT 117 #[(.pointer (some ⟨rb,0,none⟩)),(.int .i64 (lim))] (IsB v bs) [ah rb [v] 197] (oB 197 iV (λn=> .int .i64 n) (fo lim) v bs rb):=by
 refine BD 14 Tryz.func117 rfl rfl rfl λw0 F hF=>sr λ_ J1=>PS ?_
 refine nx J1 (sr λ_ J2=>PS ?_);refine CP qI (jG rb v bs) ID (λ_ d _=>(hF).more d) (λcP HP hP=>?_) (λvR HR hR=>?_);obtain⟨vP,rfl,rfl,hpP⟩:=hP;refine ay (WK [0] (aR ?_));exact⟨_,rfl,rfl,by simp[fo,bV hpP]⟩;obtain⟨a1,r1,v1,rfl,rfl,hp1,ht1⟩:=hR;have hf1:=ht1 _ hF;refine PS ?_;refine nx J2 (aa λ_ J3=>sr λ_ J4=>P3 ?_);refine ap ?_ ?_<;>intro h10;refine nx J4 (CY (ad (BV #[] ?_)));refine tp (p8 rfl IS rfl rfl) ?_;refine IT (ab rfl) rfl rfl (ay (WK [0] (aR ?_)));exact⟨_,rfl,rfl,by simp[fo,au hp1,h10,pf]⟩;refine nx J4 (CN (qx J3 (sr λ_ J5=>P2 ?_)));refine nx J5 (aj (WK [0] (av rfl rfl ?_)));exact⟨_,_,_,rfl,rfl,by rw[fo,au hp1,if_neg h10];rfl,ht1⟩
theorem xh(rb:Nat)(v:Value)(bs:List UInt8):
 DT 142 #[(.pointer (some ⟨rb,0,none⟩))] (IsB v bs) [ah rb [v] 197] (oB 197 iV CellT.val lB v bs rb):=by
 refine BD 21 Tryz.func142 rfl rfl rfl λw0 F hF=>sr λ_ J1=>XA KT λb2=>?_
 refine nx J1 (sr λ_ J2=>XA KT λb3=>?_);refine nx J2 (sr λ_ J3=>PS ?_);refine CP jH (cV rb v bs (1099511627777)) (SM [2]) (λ_ d _=>(hF).more d) (λcP HP hP=>?_) (λvR HR hR=>?_);obtain⟨vP,rfl,rfl,hpP⟩:=hP;refine ay (WK [0] (aR ?_));exact⟨_,rfl,rfl,by simp[lB,pr,bV hpP]⟩;obtain⟨a1,r1,v1,rfl,rfl,hp1,ht1⟩:=hR;have hf1:=ht1 _ hF;refine FA 0 oi aP ?_;refine S0 1 aP ?_;refine nx J3 (sr λ_ J4=>PS ?_);refine CP jH (cV rb v1 r1 (1099511627777)) ID (λ_ d _=>(hf1).more d) (λcP HP hP=>?_) (λvR HR hR=>?_);obtain⟨vP,rfl,rfl,hpP⟩:=hP;refine ay (WK [0] (aR ?_));exact⟨_,rfl,rfl,by simp[lB,pr,au hp1,bV hpP]⟩;obtain⟨a2,r2,v2,rfl,rfl,hp2,ht2⟩:=hR;have hf2:=ht2 _ hf1;refine FA 1 oi aP ?_;refine S0 1 aP ?_;refine nx J4 (aa λ_ J5=>sr λ_ J6=>PS ?_);refine nx J6 (aq (sE 5 (sr λ_ J7=>PS ?_)));refine nx J7 (aa λ_ J8=>CY (qx J8 (aa λ_ J9=>aq (sr λ_ J10=>P2 ?_))));refine nx J10 (ad (P2 ?_));refine CP jH (cV rb v2 r2 (1099511627777)) ID (λ_ d _=>(hf2).more d) (λcP HP hP=>?_) (λvR HR hR=>?_);obtain⟨vP,rfl,rfl,hpP⟩:=hP;refine aN (ay (ay (aN (ay (WK [0] (aR ?_))))));exact⟨_,rfl,rfl,by simp[lB,pr,au hp1,au hp2,bV hpP]⟩;obtain⟨a3,r3,v3,rfl,rfl,hp3,ht3⟩:=hR;have hf3:=ht3 _ hf2;refine FA 2 oi gM ?_;refine IX 2 mS aP ?_;refine S0 1 aP ?_;refine aw (af (ac J9 (ad (tp (cB (r:=1) rfl rfl rfl (by decide)) ?_))));refine PS ?_
 refine aw (eJ (sr λ_ J11=>PS ?_));refine nx J11 (aa λ_ J12=>CY (qx J12 (aa λ_ J13=>aq (sr λ_ J14=>P2 ?_))));refine nx J14 (ad (P2 ?_));refine CP jH (cV rb v3 r3 (1099511627777)) ID (λ_ d _=>(hf3).more d) (λcP HP hP=>?_) (λvR HR hR=>?_);obtain⟨vP,rfl,rfl,hpP⟩:=hP;refine aN (ay (ay (aN (ay (WK [0] (aR ?_))))));exact⟨_,rfl,rfl,by simp[lB,pr,au hp1,au hp2,au hp3,bV hpP]⟩;obtain⟨a4,r4,v4,rfl,rfl,hp4,ht4⟩:=hR;have hf4:=ht4 _ hf3;refine FA 2 oi gM ?_;refine IX 3 mS aP ?_;refine S0 1 aP ?_;refine aw (af (ac J13 (ad (tp (cB (r:=2) rfl rfl rfl (by decide)) ?_))));refine PS ?_;refine aw (eJ (sr λ_ J15=>PS ?_));refine nx J15 (aa λ_ J16=>CY (qx J16 (aa λ_ J17=>aq (sr λ_ J18=>P2 ?_))));refine nx J18 (ad (P2 ?_));refine CP jH (cV rb v4 r4 (1099511627777)) ID (λ_ d _=>(hf4).more d) (λcP HP hP=>?_) (λvR HR hR=>?_);obtain⟨vP,rfl,rfl,hpP⟩:=hP;refine aN (ay (ay (aN (ay (WK [0] (aR ?_))))));exact⟨_,rfl,rfl,by simp[lB,pr,au hp1,au hp2,au hp3,au hp4,bV hpP]⟩;obtain⟨a5,r5,v5,rfl,rfl,hp5,ht5⟩:=hR;have hf5:=ht5 _ hf4;refine FA 2 oi gM ?_;refine IX 4 mS aP ?_;refine S0 1 aP ?_;refine aw (af (ac J17 (ad (tp (cB (r:=3) rfl rfl rfl (by decide)) ?_))));refine PS ?_;refine aw (eJ (sr λ_ J19=>PS ?_));refine nx J19 (aa λ_ J20=>CY (qx J20 (aa λ_ J21=>aq (sr λ_ J22=>P2 ?_))));refine nx J22 (ad (P2 ?_))
 refine CP jH (cV rb v5 r5 (1099511627777)) ID (λ_ d _=>(hf5).more d) (λcP HP hP=>?_) (λvR HR hR=>?_);obtain⟨vP,rfl,rfl,hpP⟩:=hP;refine aN (ay (ay (aN (ay (WK [0] (aR ?_))))));exact⟨_,rfl,rfl,by simp[lB,pr,au hp1,au hp2,au hp3,au hp4,au hp5,bV hpP]⟩;obtain⟨a6,r6,v6,rfl,rfl,hp6,ht6⟩:=hR;have hf6:=ht6 _ hf5;refine FA 2 oi gM ?_;refine IX 5 mS aP ?_;refine S0 1 aP ?_;refine aw (af (ac J21 (ad (tp (cB (r:=4) rfl rfl rfl (by decide)) ?_))));refine PS ?_;refine aw (eJ (sr λ_ J23=>PS ?_));refine nx J23 (aa λ_ J24=>CY (qx J24 (aa λ_ J25=>aq (sr λ_ J26=>P2 ?_))));refine nx J26 (ad (P2 ?_));refine CP jH (cV rb v6 r6 (1099511627777)) ID (λ_ d _=>(hf6).more d) (λcP HP hP=>?_) (λvR HR hR=>?_);obtain⟨vP,rfl,rfl,hpP⟩:=hP;refine aN (ay (ay (aN (ay (WK [0] (aR ?_))))));exact⟨_,rfl,rfl,by simp[lB,pr,au hp1,au hp2,au hp3,au hp4,au hp5,au hp6,bV hpP]⟩;obtain⟨a7,r7,v7,rfl,rfl,hp7,ht7⟩:=hR;have hf7:=ht7 _ hf6;refine FA 2 oi gM ?_;refine IX 6 mS aP ?_;refine S0 1 aP ?_;refine aw (af (ac J25 (ad (tp (cB (r:=5) rfl rfl rfl (by decide)) ?_))));refine PS ?_;refine aw (eJ (sr λ_ J27=>PS ?_));refine nx J27 (aa λ_ J28=>CN (bh (aC (aC (bC (ac J5 (sr λ_ J29=>tp (aM (vs:=[(.int .i64 (a1)),(.int .i64 (a2)),(.int .i64 (a3)),(.int .i64 (a4)),(.int .i64 (a5)),(.int .i64 (a6)),(.int .i64 (a7))]) rfl oi rfl gL rfl (RO 1) rfl rfl) ?_)))))))
 refine bL (vs:=[(.int .i64 (a1)),(.int .i64 (a2)),(.int .i64 (a3)),(.int .i64 (a4)),(.int .i64 (a5)),(.int .i64 (a6)),(.int .i64 (a7))]) (i:=2) (ab rfl) rfl rfl rfl rfl rfl gL (by simp[Value.oneCell']) rfl rfl (L5 rfl) rfl rfl (nx J29 (aj (RC 2 [0] oi gL rfl ?_)));exact⟨⟨a1,a2, #v[a3,a4,a5,a6,a7]⟩,_,_,rfl,rfl,by simp[lB,pr,au hp1,au hp2,au hp3,au hp4,au hp5,au hp6,au hp7],(ht1.trans (ht2.trans (ht3.trans (ht4.trans (ht5.trans (ht6.trans ht7))))))⟩
theorem rX(rb:Nat)(v:Value)(bs:List UInt8):
 DT 123 #[(.pointer (some ⟨rb,0,none⟩))] (IsB v bs) [ah rb [v] 197] (oB 197 iV ViewT.val lF v bs rb):=by
 refine BD 21 Tryz.func123 rfl rfl rfl λw0 F hF=>sr λ_ J1=>XA rN λb2=>?_
 refine nx J1 (sr λ_ J2=>XA rN λb3=>?_);refine nx J2 (sr λ_ J3=>PS ?_);refine CP qI (jG rb v bs) (SM [2]) (λ_ d _=>(hF).more d) (λcP HP hP=>?_) (λvR HR hR=>?_);obtain⟨vP,rfl,rfl,hpP⟩:=hP;refine ay (WK [0] (aR ?_));exact⟨_,rfl,rfl,by simp[lF,pr,bV hpP]⟩;obtain⟨a1,r1,v1,rfl,rfl,hp1,ht1⟩:=hR;have hf1:=ht1 _ hF;refine FA 0 e6 aP ?_;refine S0 1 aP ?_;refine nx J3 (sr λ_ J4=>PS ?_);refine CP jH (cV rb v1 r1 (32)) ID (λ_ d _=>(hf1).more d) (λcP HP hP=>?_) (λvR HR hR=>?_);obtain⟨vP,rfl,rfl,hpP⟩:=hP;refine ay (WK [0] (aR ?_));exact⟨_,rfl,rfl,by simp[lF,pr,au hp1,bV hpP]⟩;obtain⟨a2,r2,v2,rfl,rfl,hp2,ht2⟩:=hR;have hf2:=ht2 _ hf1;refine FA 1 e6 aP ?_;refine S0 1 aP ?_;refine nx J4 (aa λ_ J5=>sr λ_ J6=>PS ?_);refine nx J6 (aq (sE 5 (sr λ_ J7=>PS ?_)));refine nx J7 (aa λ_ J8=>CY (qx J8 (aa λ_ J9=>aq (sr λ_ J10=>P2 ?_))));refine nx J10 (ad (P2 ?_));refine CP jH (cV rb v2 r2 (6)) ID (λ_ d _=>(hf2).more d) (λcP HP hP=>?_) (λvR HR hR=>?_);obtain⟨vP,rfl,rfl,hpP⟩:=hP;refine aN (ay (ay (aN (ay (WK [0] (aR ?_))))));exact⟨_,rfl,rfl,by simp[lF,pr,au hp1,au hp2,bV hpP]⟩;obtain⟨a3,r3,v3,rfl,rfl,hp3,ht3⟩:=hR;have hf3:=ht3 _ hf2;refine FA 2 e6 gM ?_;refine IX 2 mS aP ?_;refine S0 1 aP ?_;refine aw (af (ac J9 (ad (tp (cB (r:=1) rfl rfl rfl (by decide)) ?_))));refine PS ?_;refine aw (eJ (sr λ_ J11=>PS ?_))
 refine nx J11 (aa λ_ J12=>CY (qx J12 (aa λ_ J13=>aq (sr λ_ J14=>P2 ?_))));refine nx J14 (ad (P2 ?_));refine CP jH (cV rb v3 r3 (6)) ID (λ_ d _=>(hf3).more d) (λcP HP hP=>?_) (λvR HR hR=>?_);obtain⟨vP,rfl,rfl,hpP⟩:=hP;refine aN (ay (ay (aN (ay (WK [0] (aR ?_))))));exact⟨_,rfl,rfl,by simp[lF,pr,au hp1,au hp2,au hp3,bV hpP]⟩;obtain⟨a4,r4,v4,rfl,rfl,hp4,ht4⟩:=hR;have hf4:=ht4 _ hf3;refine FA 2 e6 gM ?_;refine IX 3 mS aP ?_;refine S0 1 aP ?_;refine aw (af (ac J13 (ad (tp (cB (r:=2) rfl rfl rfl (by decide)) ?_))));refine PS ?_;refine aw (eJ (sr λ_ J15=>PS ?_));refine nx J15 (aa λ_ J16=>CY (qx J16 (aa λ_ J17=>aq (sr λ_ J18=>P2 ?_))));refine nx J18 (ad (P2 ?_));refine CP jH (cV rb v4 r4 (6)) ID (λ_ d _=>(hf4).more d) (λcP HP hP=>?_) (λvR HR hR=>?_);obtain⟨vP,rfl,rfl,hpP⟩:=hP;refine aN (ay (ay (aN (ay (WK [0] (aR ?_))))));exact⟨_,rfl,rfl,by simp[lF,pr,au hp1,au hp2,au hp3,au hp4,bV hpP]⟩;obtain⟨a5,r5,v5,rfl,rfl,hp5,ht5⟩:=hR;have hf5:=ht5 _ hf4;refine FA 2 e6 gM ?_;refine IX 4 mS aP ?_;refine S0 1 aP ?_;refine aw (af (ac J17 (ad (tp (cB (r:=3) rfl rfl rfl (by decide)) ?_))));refine PS ?_;refine aw (eJ (sr λ_ J19=>PS ?_));refine nx J19 (aa λ_ J20=>CY (qx J20 (aa λ_ J21=>aq (sr λ_ J22=>P2 ?_))));refine nx J22 (ad (P2 ?_));refine CP jH (cV rb v5 r5 (6)) ID (λ_ d _=>(hf5).more d) (λcP HP hP=>?_) (λvR HR hR=>?_)
 obtain⟨vP,rfl,rfl,hpP⟩:=hP;refine aN (ay (ay (aN (ay (WK [0] (aR ?_))))));exact⟨_,rfl,rfl,by simp[lF,pr,au hp1,au hp2,au hp3,au hp4,au hp5,bV hpP]⟩;obtain⟨a6,r6,v6,rfl,rfl,hp6,ht6⟩:=hR;have hf6:=ht6 _ hf5;refine FA 2 e6 gM ?_;refine IX 5 mS aP ?_;refine S0 1 aP ?_;refine aw (af (ac J21 (ad (tp (cB (r:=4) rfl rfl rfl (by decide)) ?_))));refine PS ?_;refine aw (eJ (sr λ_ J23=>PS ?_));refine nx J23 (aa λ_ J24=>CY (qx J24 (aa λ_ J25=>aq (sr λ_ J26=>P2 ?_))));refine nx J26 (ad (P2 ?_));refine CP jH (cV rb v6 r6 (6)) ID (λ_ d _=>(hf6).more d) (λcP HP hP=>?_) (λvR HR hR=>?_);obtain⟨vP,rfl,rfl,hpP⟩:=hP;refine aN (ay (ay (aN (ay (WK [0] (aR ?_))))));exact⟨_,rfl,rfl,by simp[lF,pr,au hp1,au hp2,au hp3,au hp4,au hp5,au hp6,bV hpP]⟩;obtain⟨a7,r7,v7,rfl,rfl,hp7,ht7⟩:=hR;have hf7:=ht7 _ hf6;refine FA 2 e6 gM ?_;refine IX 6 mS aP ?_;refine S0 1 aP ?_;refine aw (af (ac J25 (ad (tp (cB (r:=5) rfl rfl rfl (by decide)) ?_))));refine PS ?_;refine aw (eJ (sr λ_ J27=>PS ?_));refine nx J27 (aa λ_ J28=>CN (bh (aC (aC (bC (ac J5 (sr λ_ J29=>tp (aM (vs:=[(.int .i64 (a1)),(.int .i64 (a2)),(.int .i64 (a3)),(.int .i64 (a4)),(.int .i64 (a5)),(.int .i64 (a6)),(.int .i64 (a7))]) rfl e6 rfl bi rfl (RO 1) rfl rfl) ?_)))))))
 refine bL (vs:=[(.int .i64 (a1)),(.int .i64 (a2)),(.int .i64 (a3)),(.int .i64 (a4)),(.int .i64 (a5)),(.int .i64 (a6)),(.int .i64 (a7))]) (i:=2) (ab rfl) rfl rfl rfl rfl rfl bi (by simp[Value.oneCell']) rfl rfl (L5 rfl) rfl rfl (nx J29 (aj (RC 2 [0] e6 bi rfl ?_)));exact⟨⟨a1,a2, #v[a3,a4,a5,a6,a7]⟩,_,_,rfl,rfl,by simp[lF,pr,au hp1,au hp2,au hp3,au hp4,au hp5,au hp6,au hp7],(ht1.trans (ht2.trans (ht3.trans (ht4.trans (ht5.trans (ht6.trans ht7))))))⟩
theorem pn(rb:Nat)(v:Value)(bs:List UInt8):
 DT 122 #[(.pointer (some ⟨rb,0,none⟩))] (IsB v bs) [ah rb [v] 197] (oB 197 iV ChangeT.val kN v bs rb):=by
 refine BD 14 Tryz.func122 rfl rfl rfl λw0 F hF=>sr λ_ J1=>XA PZ λb2=>?_
 refine nx J1 (sr λ_ J2=>XA PZ λb3=>?_);refine nx J2 (sr λ_ J3=>PS ?_);refine CP jH (cV rb v bs (2)) (SM [2]) (λ_ d _=>(hF).more d) (λcP HP hP=>?_) (λvR HR hR=>?_);obtain⟨vP,rfl,rfl,hpP⟩:=hP;refine ay (WK [0] (aR ?_));exact⟨_,rfl,rfl,by simp[kN,pr,bV hpP]⟩;obtain⟨a1,r1,v1,rfl,rfl,hp1,ht1⟩:=hR;have hf1:=ht1 _ hF;refine FA 0 nP aP ?_;refine S0 1 aP ?_;refine nx J3 (sr λ_ J4=>PS ?_);refine CP jH (cV rb v1 r1 (5)) ID (λ_ d _=>(hf1).more d) (λcP HP hP=>?_) (λvR HR hR=>?_);obtain⟨vP,rfl,rfl,hpP⟩:=hP;refine ay (WK [0] (aR ?_));exact⟨_,rfl,rfl,by simp[kN,pr,au hp1,bV hpP]⟩;obtain⟨a2,r2,v2,rfl,rfl,hp2,ht2⟩:=hR;have hf2:=ht2 _ hf1;refine FA 1 nP aP ?_;refine S0 1 aP ?_;refine nx J4 (sr λ_ J5=>PS ?_);refine CP jH (cV rb v2 r2 (5)) ID (λ_ d _=>(hf2).more d) (λcP HP hP=>?_) (λvR HR hR=>?_);obtain⟨vP,rfl,rfl,hpP⟩:=hP;refine ay (WK [0] (aR ?_));exact⟨_,rfl,rfl,by simp[kN,pr,au hp1,au hp2,bV hpP]⟩;obtain⟨a3,r3,v3,rfl,rfl,hp3,ht3⟩:=hR;have hf3:=ht3 _ hf2;refine FA 2 nP aP ?_;refine S0 1 aP ?_;refine nx J5 (sr λ_ J6=>tp (aM (vs:=[(.int .i64 (a1)),(.int .i64 (a2)),(.int .i64 (a3))]) rfl nP rfl gf rfl (RO 1) rfl rfl) ?_);refine bL (vs:=[(.int .i64 (a1)),(.int .i64 (a2)),(.int .i64 (a3))]) (i:=2) (ab rfl) rfl rfl rfl rfl rfl gf (by simp[Value.oneCell']) rfl rfl (L5 rfl) rfl rfl (nx J6 (aj (RC 2 [0] nP gf rfl ?_)))
 exact⟨⟨a1,a2,a3⟩,_,_,rfl,rfl,by simp[kN,pr,au hp1,au hp2,au hp3],(ht1.trans (ht2.trans ht3))⟩
theorem jZ(rb:Nat)(v:Value)(bs:List UInt8):
 DT 121 #[(.pointer (some ⟨rb,0,none⟩))] (IsB v bs) [ah rb [v] 197] (oB 197 iV BallotT.val js v bs rb):=by
 refine BD 11 Tryz.func121 rfl rfl rfl λw0 F hF=>sr λ_ J1=>XA PW λb2=>?_
 refine nx J1 (sr λ_ J2=>XA PW λb3=>?_);refine nx J2 (sr λ_ J3=>PS ?_);refine CP qI (jG rb v bs) (SM [2]) (λ_ d _=>(hF).more d) (λcP HP hP=>?_) (λvR HR hR=>?_);obtain⟨vP,rfl,rfl,hpP⟩:=hP;refine ay (WK [0] (aR ?_));exact⟨_,rfl,rfl,by simp[js,pr,bV hpP]⟩;obtain⟨a1,r1,v1,rfl,rfl,hp1,ht1⟩:=hR;have hf1:=ht1 _ hF;refine FA 0 kO aP ?_;refine S0 1 aP ?_;refine nx J3 (sr λ_ J4=>PS ?_);refine CP jH (cV rb v1 r1 (5)) ID (λ_ d _=>(hf1).more d) (λcP HP hP=>?_) (λvR HR hR=>?_);obtain⟨vP,rfl,rfl,hpP⟩:=hP;refine ay (WK [0] (aR ?_));exact⟨_,rfl,rfl,by simp[js,pr,au hp1,bV hpP]⟩;obtain⟨a2,r2,v2,rfl,rfl,hp2,ht2⟩:=hR;have hf2:=ht2 _ hf1;refine FA 1 kO aP ?_;refine S0 1 aP ?_;refine nx J4 (sr λ_ J5=>tp (aM (vs:=[(.int .i64 (a1)),(.int .i64 (a2))]) rfl kO rfl cA rfl (RO 1) rfl rfl) ?_);refine bL (vs:=[(.int .i64 (a1)),(.int .i64 (a2))]) (i:=2) (ab rfl) rfl rfl rfl rfl rfl cA (by simp[Value.oneCell']) rfl rfl (L5 rfl) rfl rfl (nx J5 (aj (RC 2 [0] kO cA rfl ?_)));exact⟨⟨a1,a2⟩,_,_,rfl,rfl,by simp[js,pr,au hp1,au hp2],(ht1.trans ht2)⟩
theorem uu(rb:Nat)(v:Value)(bs:List UInt8):
 DT 118 #[(.pointer (some ⟨rb,0,none⟩))] (IsB v bs) [ah rb [v] 197] (oB 197 iV RowT.val th v bs rb):=by
 refine BD 45 Tryz.func118 rfl rfl rfl λw0 F hF=>sr λ_ J1=>XZ u6 (Api.ints Api.RowT.zero.flat) λb2=>?_
 refine nx J1 (sr λ_ J2=>XZ u6 (Api.ints Api.RowT.zero.flat) λb3=>?_);refine nx J2 (sr λ_ J3=>PS ?_);refine CP qI (jG rb v bs) (SM [2]) (λ_ d _=>(hF).more d) (λcP HP hP=>?_) (λvR HR hR=>?_);obtain⟨vP,rfl,rfl,hpP⟩:=hP;refine ay (WK [0] (aR ?_));exact⟨_,rfl,rfl,by rw[th,bV hpP]⟩;obtain⟨a1,r1,v1,rfl,rfl,hp1,ht1⟩:=hR;have hf1:=ht1 _ hF;refine FA 0 dT aP ?_;refine bL (vs:=[.int .i64 a1]) (i:=1) (ab rfl) rfl rfl rfl rfl rfl aP (bA [a1]) rfl rfl (by rw[ag];show _+1≤174;omega) (RowT.wr_version _ _) rfl (nx J3 (aa λ_ J4=>sr λ_ J5=>PS ?_));refine nx J5 (aq ?_)
 refine bD (α:=(Nat)×(RowT)×(Value)×(List UInt8)) (λ⟨k,x,u,r⟩=>k≤4∧IsB u r F∧Tail v bs u r∧th bs=pb (lQ (4-k) k x) (iU 5 0) r) (λ⟨k,x,u,r⟩=>[(0,(.pointer (some ⟨rb,0,none⟩))),(2,(.pointer (some ⟨b2,0,none⟩))),(3,(.pointer (some ⟨b3,0,none⟩))),(10,(.int .i64 ((k:Nat))))]) (λ⟨k,x,u,r⟩=>[ah b3 (ints (x).flat) 51,ah b2 (Api.ints Api.RowT.zero.flat) 51,ah rb [u] 197]) (λ⟨k,x,u,r⟩=>4-k) (0,({Api.RowT.zero with version:=a1}:RowT),v1,r1)
  ⟨by omega,hf1,ht1,by rw[th,au hp1]⟩ SB
  (λ_ s=>ak [1,1,0] rfl s) (λ⟨k,x,u,r⟩ hinv=>?_)
 obtain⟨hk,hf,htl,hp⟩:=hinv;refine sr λ_ J6=>PS ?_
 refine ap ?_ ?_<;>intro h11;refine nx J6 (aa λ_ J7=>CY (qx J7 (aa λ_ J8=>aq (sr λ_ J9=>P2 ?_))));refine nx J9 (ad (P2 ?_));refine CP MJ (xh rb u r) (SM [2]) (λ_ d _=>(hf).more d) (λcP HP hP=>?_) (λvR HR hR=>?_);obtain⟨vP,rfl,rfl,hpP⟩:=hP;refine aN (ay (ay (aN (ay (WK [0] (aR ?_))))));exact⟨_,rfl,rfl,by rw[hp,Ef (by omega) hpP]⟩;obtain⟨a2,r2,v2,rfl,rfl,hp2,ht2⟩:=hR;have hf2:=ht2 _ hf;refine FA 1 dT lX ?_;refine IX (1+k*7) B1 gL ?_;refine bL (vs:=ints a2.flat) (i:=1) (ab rfl) rfl rfl rfl rfl rfl (by rw[bB];exact gL) (bA _) rfl rfl (by rw[ag,bB];omega) (RowT.wr_cell _ k (by omega) _) rfl (aw (af (ac J8 (ad (AD ?_)))));refine PS ?_;refine aw ?_
 exact aL ((k+1,({x with cells:=(x).cells.set k a2 (by omega)}:RowT),v2,r2):(Nat)×(RowT)×(Value)×(List UInt8)) ⟨by omega,hf2,(htl.trans ht2),by rw[hp,Eg (by omega) hp2]⟩ (by show _-_<_-_;omega)
  SB
  (λ_ s=>ak [1,1,0] rfl s)
 refine nx J6 (aa λ_ J10=>CN (bh (aC (aC (bC (ac J4 (aa λ_ J11=>sr λ_ J12=>PS ?_)))))));refine nx J12 (aq ?_)
 refine bD (α:=(Nat)×(RowT)×(Value)×(List UInt8)) (λ⟨i,x,u,r⟩=>i≤5∧IsB u r F∧Tail v bs u r∧th bs=iU (5-i) i x r) (λ⟨i,x,u,r⟩=>[(0,(.pointer (some ⟨rb,0,none⟩))),(2,(.pointer (some ⟨b2,0,none⟩))),(3,(.pointer (some ⟨b3,0,none⟩))),(19,(.int .i64 ((i:Nat))))]) (λ⟨i,x,u,r⟩=>[ah b3 (ints (x).flat) 51,ah b2 (Api.ints Api.RowT.zero.flat) 51,ah rb [u] 197]) (λ⟨i,x,u,r⟩=>5-i) (0,x,u,r)
  ⟨by omega,hf,htl,by rw[hp,F6 (by omega)]⟩ SB
  (λ_ s=>ak [0,0,0] rfl s) (λ⟨i,x,u,r⟩ hinv=>?_)
 obtain⟨hi,hf,htl,hp⟩:=hinv;refine sr λ_ J13=>PS ?_
 refine ap ?_ ?_<;>intro h20;refine nx J13 (aa λ_ J14=>CY (qx J14 (aa λ_ J15=>aq (sr λ_ J16=>P2 ?_))));refine nx J16 (sr λ_ J17=>P2 ?_);refine CP qI (jG rb u r) (SM [2]) (λ_ d _=>(hf).more d) (λcP HP hP=>?_) (λvR HR hR=>?_);obtain⟨vP,rfl,rfl,hpP⟩:=hP;refine ay (aN (ay (ay (aN (ay (WK [0] (aR ?_)))))));exact⟨_,rfl,rfl,by rw[hp,DK (by omega) hpP]⟩;obtain⟨a2,r2,v2,rfl,rfl,hp2,ht2⟩:=hR;have hf2:=ht2 _ hf;refine FA 29 dT gM ?_;refine IX (29+i) mS aP ?_;refine bL (vs:=[.int .i64 a2]) (i:=1) (ab rfl) rfl rfl rfl rfl rfl aP (bA [a2]) rfl rfl (by rw[ag];show _+1≤174;omega) (RowT.wr_heir _ i (by omega) _) rfl (nx J17 (sr λ_ J18=>PS ?_));refine FA 29 dT gM ?_;refine IX (29+i) mS aP ?_;refine LT 1 Y3 (.int .i64 (a2)) ?_ (hc:=by exact by rw[RowT.get_heir _ i (by omega)];simp);refine PS ?_;refine ap ?_ ?_<;>intro h31;refine nx J18 (CY (sr λ_ J19=>PS ?_));refine nx J19 (aq ?_)
 refine bD (α:=(Nat)×(RowT)×(Value)×(List UInt8)) (λ⟨k,y,uL,rL⟩=>k≤4∧IsB uL rL F∧Tail v bs uL rL∧th bs=pb (oT (4-k) i k y) (iU (5- (i+1)) (i+1)) rL) (λ⟨k,y,uL,rL⟩=>[(0,(.pointer (some ⟨rb,0,none⟩))),(2,(.pointer (some ⟨b2,0,none⟩))),(3,(.pointer (some ⟨b3,0,none⟩))),(5,(.int .i64 ((i:Nat)))),(19,(.int .i64 ((i:Nat)))),(32,(.int .i64 ((k:Nat))))]) (λ⟨k,y,uL,rL⟩=>[ah b3 (ints (y).flat) 51,ah b2 (Api.ints Api.RowT.zero.flat) 51,ah rb [uL] 197]) (λ⟨k,y,uL,rL⟩=>4-k) (0,({x with heir:=(x).heir.set i a2}:RowT),v2,r2)
  ⟨by omega,hf2,(htl.trans ht2),by rw[hp,FJ (by omega) hp2 h31]⟩ SB
  (λ_ s=>ak [1,1,0] rfl s) (λ⟨k,y,uL,rL⟩ hinv=>?_)
 obtain⟨hk,hfL,htlL,hpL⟩:=hinv;refine sr λ_ J20=>PS ?_
 refine ap ?_ ?_<;>intro h33;refine nx J20 (aa λ_ J21=>CY (qx J21 (aa λ_ J22=>aq (sr λ_ J23=>P2 ?_))));refine nx J23 (D0 bl ?_);refine PD 0 ?_;refine PD 1 ?_;refine PD 2 ?_;refine FD 4 34 dT Cl ?_;refine IY 5 (34+i*28) MX lX ?_;refine AL 3 ?_;refine CP MJ (xh rb uL rL) (SM [2]) (λ_ d _=>(hfL).more d) (λcP HP hP=>?_) (λvR HR hR=>?_);obtain⟨vP,rfl,rfl,hpP⟩:=hP;refine ay (aN (ay (ay (aN (aN (ay (ay (aN (ay (WK [0] (aR ?_)))))))))));exact⟨_,rfl,rfl,by rw[hpL,FE (by omega) hpP]⟩;obtain⟨a3,r3,v3,rfl,rfl,hp3,ht3⟩:=hR;have hf3:=ht3 _ hfL;refine EN (IY 6 (34+i*28+k*7) B1 gL ?_);refine AL 7 ?_;refine bL (vs:=ints a3.flat) (i:=1) (ab rfl) rfl rfl rfl rfl rfl (by rw[bB];exact gL) (bA _) rfl rfl (by rw[ag,bB];omega) (RowT.wr_left _ i k (by omega) (by omega) _) rfl (EN (DN (af (ac J22 (ad (AD ?_))))));refine PS ?_;refine aw ?_
 exact aL ((k+1,({y with left:=(y).left.set i (((y).left[i]'(by omega)).set k a3 (by omega)) (by omega)}:RowT),v3,r3):(Nat)×(RowT)×(Value)×(List UInt8)) ⟨by omega,hf3,(htlL.trans ht3),by rw[hpL,FF (by omega) (by omega) hp3]⟩ (by show _-_<_-_;omega)
  SB
  (λ_ s=>ak [1,1,0] rfl s)
 refine nx J20 (aa λ_ J24=>CN (bh (aC (aC (bC (af (ac J15 (ad (AD ?_)))))))));refine PS ?_;refine aw ?_
 exact aL ((i+1,y,uL,rL):(Nat)×(RowT)×(Value)×(List UInt8)) ⟨by omega,hfL,htlL,by rw[hpL,Il (by omega)]⟩ (by show _-_<_-_;omega)
  SB
  (λ_ s=>ak [0,0,0] rfl s)
 refine nx J18 (CN (aS (af (ac J15 (ad (AD ?_))))));refine PS ?_;refine aw ?_
 exact aL ((i+1,({x with heir:=(x).heir.set i a2}:RowT),v2,r2):(Nat)×(RowT)×(Value)×(List UInt8)) ⟨by omega,hf2,(htl.trans ht2),by rw[hp,Iu (by omega) hp2 h31]⟩ (by show _-_<_-_;omega)
  SB
  (λ_ s=>ak [1,1,0] rfl s)
 refine nx J13 (aa λ_ J25=>CN (bh (aC (aC (bC (ac J11 (sr λ_ J26=>tp (aM (vs:=ints (x).flat) rfl dT rfl aX rfl (RO 0) (ag _) (by rw[be,aD (by rw[ag];decide)])) ?_)))))));refine bL (vs:=ints (x).flat) (i:=1) (ab rfl) rfl rfl rfl rfl rfl (by rw[ag];exact aX) (bA _) rfl rfl (by rw[ag,bq,ag];decide) (gC (by rw[ag,ag])) rfl (nx J26 (aj (RC 1 [2] dT aX (ag _) ?_)));exact⟨x,_,_,rfl,rfl,by rw[hp,FK (by omega)],htl⟩
theorem lW(n:Int):
 DT 144 #[(.int .i64 (n))] T0 [] (RI (.bool (Do n)) []):=by
 refine BD 9 Tryz.func144 rfl rfl rfl λw0 F hF=>sr λ_ J1=>PS ?_
 refine nx J1 (sr λ_ J2=>P2 ?_);refine ap ?_ ?_<;>intro h4
 iterate 5 refine PS ?_
 refine nx J2 (aj (av rfl rfl ?_));exact⟨congrArg Value.bool (by unfold Do;first| (rw[decide_eq_decide];omega)| (symm;rw[decide_eq_false_iff_not];omega)| (symm;rw[decide_eq_true_iff];omega)),rfl⟩;refine PS ?_;refine UF ?_;refine UF ?_;refine P2 ?_;refine nx J2 (aj (av rfl rfl ?_));exact⟨congrArg Value.bool (by unfold Do;first| (rw[decide_eq_decide];omega)| (symm;rw[decide_eq_false_iff_not];omega)| (symm;rw[decide_eq_true_iff];omega)),rfl⟩
theorem ko(w:Int):
 DT 37 #[(.int .i64 (w))] T0 [] (RI (.bool (cI w)) []):=by
 refine BD 9 Tryz.func37 rfl rfl rfl λw0 F hF=>sr λ_ J1=>PS ?_
 refine nx J1 (sr λ_ J2=>P2 ?_);refine ap ?_ ?_<;>intro h4
 iterate 5 refine PS ?_
 refine nx J2 (aj (av rfl rfl ?_));exact⟨congrArg Value.bool (by unfold cI;first| (rw[decide_eq_decide];omega)| (symm;rw[decide_eq_false_iff_not];omega)| (symm;rw[decide_eq_true_iff];omega)),rfl⟩;refine PS ?_;refine UF ?_;refine UF ?_;refine P2 ?_;refine nx J2 (aj (av rfl rfl ?_));exact⟨congrArg Value.bool (by unfold cI;first| (rw[decide_eq_decide];omega)| (symm;rw[decide_eq_false_iff_not];omega)| (symm;rw[decide_eq_true_iff];omega)),rfl⟩
theorem dC(v:ViewT)(w:Int):
 DT 17 #[(.agg (ints v.flat).toArray),(.int .i64 (w))] T0 [] (RI (.bool (iS v w)) []):=by
 refine BD 15 Tryz.func17 rfl rfl rfl λw0 F hF=>sr λ_ J1=>XY (ints v.flat) λb2=>?_
 refine PS ?_;refine nx J1 (sr λ_ J2=>PS ?_);refine CE JL (ko w) ID ?_;refine bb ?_ ?_<;>intro h6;have hm:0≤w∧w<5:=of_decide_eq_true h6;refine PS ?_;refine FA 1 e6 aP ?_;refine LU 0 Y3 (mI v rfl) ?_;refine PS ?_;refine tq (mp (r:=(v.members.fdiv (2^min w.toNat IntKind.i64.bits))) rfl rfl rfl (by omega) rfl) ?_;refine tq (o5 (r:=((v.members.fdiv (2^min w.toNat IntKind.i64.bits))%2)) rfl rfl rfl (Mq _)) ?_;refine P3 ?_;refine nx J2 (aj (WK [] (av rfl rfl ?_)));exact⟨congrArg Value.bool (by rw[iS,h6];rfl),rfl⟩;refine PS ?_
 iterate 6 refine UF ?_
 refine P2 ?_;refine nx J2 (aj (WK [] (av rfl rfl ?_)));exact⟨congrArg Value.bool (by rw[iS,h6];rfl),rfl⟩
theorem Bj(b off cap:Nat)(l:List Int)(hl:l.length≤1000)(cs:List Value)(T:TypeId)(z:Nat×Nat)(hb: ∀j,j<l.length→cs[off+j]?=some (.int .i64 (l.getD j 0))):
 DT 158 #[(.slice (some ⟨b,off,none⟩) (l.length) (cap))] (λF=>F b=some (.cells cs.toArray T z)) [] (RI (.tuple #[.int .i64 (oA l 0).1, .int .i64 (oA l 0).2]) []):=by
 refine BD 25 Tryz.func158 rfl rfl rfl λw0 F hF=>sr λ_ J1=>P2 ?_
 refine nx J1 (sr λ_ J2=>PS ?_);refine nx J2 (aa λ_ J3=>sr λ_ J4=>PS ?_);refine tp (tV rfl km rfl) ?_;refine PS ?_;refine nx J4 (aq ?_)
 refine bD (α:=(Nat)×(Int)) (λ⟨k,s⟩=>k≤l.length∧0≤s∧s≤1099511627776∧oA l 0=oA (l.drop k) s) (λ⟨k,s⟩=>[(4,(.int .i64 (s))),(7,(.slice (some ⟨b,off,none⟩) (l.length) (cap))),(8,(.int .i64 (((l.length:Nat):Int)))),(9,(.int .i64 (((k:Nat):Int))))]) (λ⟨k,s⟩=>[]) (λ⟨k,s⟩=>l.length-k) (0,0)
  ⟨aO _,by omega,by omega,rfl⟩ SB
  (λ_ s=>s) (λ⟨k,s⟩ hinv=>?_)
 obtain⟨hk,hs0,hs1,he⟩:=hinv;refine sr λ_ J5=>PS ?_
 refine ap ?_ ?_<;>intro h10;refine nx J5 (aa λ_ J6=>CY (qx J6 (aa λ_ J7=>aq (sr λ_ J8=>tp (j9 (r:=off+k) rfl km aP rfl rfl (by first|omega|decide) (by first|omega|decide) (by omega)) ?_))));refine tp (ii (v:=(.int .i64 ((l.getD k 0)))) rfl Y3 rfl rfl (Rd.ro hF) (hb k (by omega))) ?_;refine PS ?_;refine nx J8 (aa λ_ J9=>sr λ_ J10=>PS ?_);refine CE GJ (lW (l.getD k 0)) ID ?_;refine bb ?_ ?_<;>intro h14;have hn:0≤l.getD k 0∧l.getD k 0≤1099511627776:=of_decide_eq_true h14;refine PS ?_;refine nx J10 (CN (qx J9 (aa λ_ J11=>sr λ_ J12=>P2 ?_)));refine tp (j8 rfl rfl rfl (bK (by omega) (by omega))) ?_;refine PS ?_;refine ap ?_ ?_<;>intro h19;refine nx J12 (CY (sr λ_ J13=>P2 ?_));refine nx J13 (aj (ae (aJ (ae (ae (aJ (ae (WK [] (jo rfl rfl rfl ?_)))))))));exact⟨by rw[he,yc (show k<l.length by omega),if_pos h14,if_pos (by omega)],rfl⟩;refine nx J12 (CN (qx J11 (ad (P2 ?_))));refine AD ?_;refine PS ?_;refine aw (af (ac J7 (ad (AD ?_))));refine PS ?_;refine aw ?_
 exact aL ((k+1,s+l.getD k 0):(Nat)×(Int)) ⟨by omega,by omega,by omega,by rw[he,yc (show k<l.length by omega),if_pos h14,if_neg (by omega)]⟩ (by show l.length- (k+1)<l.length-k;omega)
  SB
  (λ_ s=>s)
 refine PS ?_;refine nx J10 (CY (sr λ_ J14=>P2 ?_));refine nx J14 (aj (ae (aJ (ae (ae (aJ (ae (WK [] (jo rfl rfl rfl ?_)))))))));exact⟨by rw[he,yc (show k<l.length by omega),if_neg (by rw[h14];decide)],rfl⟩;refine nx J5 (aa λ_ J15=>CN (bh (aC (aC (bC (ac J3 (sr λ_ J16=>P3 ?_)))))));refine nx J16 (aj (WK [] (jo rfl rfl rfl ?_)));exact⟨by rw[he,dO (by omega)];rfl,rfl⟩
theorem Fp:
 DT 158 #[(.slice none 0 0)] T0 [] (RI (.tuple #[.int .i64 (oA [] 0).1, .int .i64 (oA [] 0).2]) []):=by
 refine BD 25 Tryz.func158 rfl rfl rfl λw0 F hF=>sr λ_ J1=>P2 ?_
 refine nx J1 (sr λ_ J2=>PS ?_);refine nx J2 (aa λ_ J3=>sr λ_ J4=>PS ?_);refine tp (tV rfl km rfl) ?_;refine PS ?_;refine nx J4 (aq ?_)
 refine bD (α:=Unit) (λ_u=>True) (λ_u=>[(4,(.int .i64 0)),(7,(.slice none 0 0)),(8,(.int .i64 0)),(9,(.int .i64 0))]) (λ_u=>[]) (λ_u=>0) ()
  trivial SB
  (λ_ s=>s) (λ_u hinv=>?_)
 obtain _:=hinv;refine sr λ_ J5=>PS ?_
 refine nx J5 (aa λ_ J6=>CN (bh (aC (aC (bC (ac J3 (sr λ_ J7=>P3 ?_)))))));exact nx J7 (aj (WK [] (jo rfl rfl rfl ⟨rfl,rfl⟩)))
theorem Dq(x:Value)(l:List Int)(hl:l.length≤1000):DT 158 #[x] (Re x l) [] (RI (.tuple #[.int .i64 (oA l 0).1, .int .i64 (oA l 0).2]) []):=by
 refine Leg.Does.of λF hF=>?_
 rcases id hF with⟨rfl,rfl⟩| ⟨b,off,cap,cs,T,z,rfl,h3,h4⟩
 · exact⟨_,trivial,Fp⟩
 · exact⟨_,h3,Bj b off cap l hl cs T z h4⟩
theorem pP(x:Vector CellT 4):
    DT 143 #[(.agg (ints (bI x.toList)).toArray)] T0 [] (RI (.bool (yz x)) []):=by
 refine BD 30 Tryz.func143 rfl rfl rfl λw0 F hF=>sr λ_ J1=>XY (ints (bI x.toList)) λb1=>?_
 refine PS ?_;refine nx J1 (aa λ_ J2=>sr λ_ J3=>tp (aM (vs:=ints (bI x.toList)) rfl B1 rfl lX rfl (RO 0) (eD x) (bo (eD x))) ?_);refine PS ?_;refine nx J3 (aq ?_)
 refine bD (α:=(Nat)) (λk=>k≤4∧∀(j:Nat) (h:j<4),j<k→KU x[j]=true) (λk=>[(7,(.agg (ints (bI x.toList)).toArray)),(8,(.int .i64 (((k:Nat):Int))))]) (λk=>[ah b1 (ints (bI x.toList)) 48]) (λk=>4-k) 0
     ⟨aO _,λj h hj=>absurd hj (by omega)⟩ SB
     (λ_ s=>s) (λk hinv=>?_)
 obtain⟨hk,ho⟩:=hinv;refine sr λ_ J4=>PS ?_
 refine ap ?_ ?_<;>intro h9;refine nx J4 (aa λ_ J5=>CY (qx J5 (aa λ_ J6=>aq (sr λ_ J7=>tp (Rk (cs:=ints (bI x.toList)) (vs:=ints (x[k]'(by omega)).flat) (r:=k*7) rfl B1 oi rfl gL rfl rfl (by omega) (by omega) (by omega) (ki bP x (i:=k) 0 (by omega) (by omega) (by decide) (bo (bB (x[k]'(by omega)))))) ?_))));refine XZ KT (ints CellT.zero.flat) λb4=>?_
 refine SW 0 gL bB ?_;refine nx J7 (aa λ_ J8=>sr λ_ J9=>FA 0 oi aP ?_);refine LT 0 Y3 (.int .i64 ((x[k]'(by omega)).inn)) ?_ (hc:=by exact y3 _ rfl);refine CE GJ (lW ((x[k]'(by omega)).inn)) ID ?_;refine bb ?_ ?_<;>intro h13;refine PS ?_;refine PS ?_;refine FA 1 oi aP ?_;refine LT 0 Y3 (.int .i64 ((x[k]'(by omega)).out)) ?_ (hc:=by exact y2 _ rfl);refine CE GJ (lW ((x[k]'(by omega)).out)) ID ?_;refine bb ?_ ?_<;>intro h18;refine PS ?_;refine PS ?_;refine nx J9 (CN (qx J8 (sr λ_ J10=>FA 2 oi gM ?_)));refine tp (ol rfl mS aP rfl) ?_;refine CF O4 (Dq (.slice (some ⟨b4,2,none⟩) (5) (5)) ((x[k]'(by omega)).given).toList (by simp)) ID (dP 0 rfl rfl (by simp) (by rw[aA];exact(CellT.sub_given (x[k]'(by omega)) 0 rfl (by decide) (bo (jq ((x[k]'(by omega)).given)))))) ?_;refine P4 ?_;refine PS ?_;refine nx J10 (sr λ_ J11=>P2 ?_);refine ap ?_ ?_<;>intro h28;refine nx J11 (CY (sr λ_ J12=>PS ?_));refine nx J12 (aj (aJ (ae (ae (aJ (ae (WK [] (av rfl rfl ⟨congrArg Value.bool ?_,rfl⟩))))))));symm;rw[yz,decide_eq_false_iff_not];intro h;have h:=h k (by omega);unfold KU at h;simp at h;exact absurd h.2 h28;refine nx J11 (CN (aS (af (ac J6 (ad (AD ?_))))));refine PS ?_;refine aw ?_
 exact aL ((k+1):(Nat)) ⟨by omega,λj h hj=>by
        by_cases q:j=k
        · subst q;unfold KU;simp_all
        · exact ho j h (by omega)⟩ (by show 4- (k+1)<4-k;omega)
   SB
   (λ_ s=>ak [1] rfl s)
 refine PS ?_;refine PS ?_;refine nx J9 (CY (sr λ_ J13=>PS ?_));refine nx J13 (aj (ae (aJ (ae (ae (aJ (ae (WK [] (av rfl rfl ⟨congrArg Value.bool ?_,rfl⟩)))))))));symm;rw[yz,decide_eq_false_iff_not];intro h;have h:=h k (by omega);unfold KU at h;simp[h18]at h;refine PS ?_;refine PS ?_
 iterate 4 refine UT ?_
 refine PS ?_;refine nx J9 (CY (sr λ_ J14=>PS ?_));refine nx J14 (aj (ae (aJ (ae (ae (aJ (ae (WK [] (av rfl rfl ⟨congrArg Value.bool ?_,rfl⟩)))))))));symm;rw[yz,decide_eq_false_iff_not];intro h;have h:=h k (by omega);unfold KU at h;simp[h13]at h;refine nx J4 (aa λ_ J15=>CN (bh (aC (aC (bC (ac J2 (sr λ_ J16=>PS ?_)))))));refine nx J16 (aj (WK [] (av rfl rfl ?_)));exact⟨congrArg Value.bool (by symm;rw[yz,decide_eq_true_iff];exact λj h=>ho j h (by omega)),rfl⟩
theorem Qo:Tryz.prog.eqGuardType Tryz.prog.depth 48=false:=by kernel_rfl
theorem Qj:Tryz.prog.keyTypeAt 6 48=true:=by kernel_rfl
theorem Q1:oV Tryz.prog 6 48=some 28:=by kernel_rfl
theorem Pu:(match Tryz.prog.underlying 48 with|some (.struct _)|some (.array _ _)=>true|_=>false)=true:=by kernel_rfl
theorem Pz:Tryz.prog.cellsOf 48=28:=by kernel_rfl
theorem K9{x:RowT}(h:WF x.flat)(i:Nat)(hi:i<5):WF (bI x.left[i].toList):=λn hn=>h n (by
 simp only[RowT.flat,cn,eY,kH]
 exact .inr (.inr (.inr ⟨x.left[i],by simp[Vector.getElem_mem],hn⟩)))
theorem Oi:WF (bI RowT.zero.left[0].toList):=λn hn=>by
 have:n∈List.replicate 28 (0:Int):=hn;obtain rfl:=List.eq_of_mem_replicate this;decide
theorem ku(x:RowT)(hw:WF x.flat):
    DT 119 #[(.agg (ints x.flat).toArray)] T0 [] (RI (.bool (fy x)) []):=by
 refine BD 41 Tryz.func119 rfl rfl rfl λw0 F hF=>sr λ_ J1=>XY (ints x.flat) λb1=>?_
 refine PS ?_;refine nx J1 (aa λ_ J2=>sr λ_ J3=>FA 0 dT aP ?_);refine LU 0 Y3 (cf x rfl) ?_;refine PS ?_;refine ap ?_ ?_<;>intro h7;refine PS ?_
 iterate 4 refine UT ?_
 refine PS ?_;refine nx J3 (CY (sr λ_ J4=>PS ?_));refine nx J4 (aj (ae (WK [] (av rfl rfl ⟨congrArg Value.bool ?_,rfl⟩))));symm;rw[fy,fJ];intro h;rw[an,an,decide_eq_true_iff,decide_eq_true_iff]at h;omega;refine PS ?_;refine FA 1 dT lX ?_;refine tq (aM (vs:=ints (bI x.cells.toList)) rfl B1 rfl lX rfl (RO 0) (eD x.cells) (Es x 0 rfl (by decide) (bo (eD x.cells)))) ?_;refine CE MI (pP x.cells) ID ?_;refine bb ?_ ?_<;>intro h11;refine PS ?_;refine PS ?_;refine nx J3 (CN (qx J2 (aa λ_ J5=>sr λ_ J6=>FA 29 dT gM ?_)));refine tp (aM (vs:=ints x.heir.toList) rfl mS rfl gM rfl (RO 0) (jq x.heir) (Hc x 0 rfl (by decide) (bo (jq x.heir)))) ?_;refine PS ?_;refine nx J6 (aq ?_)
 refine bD (α:=(Nat)) (λi=>i≤5∧∀(j:Nat) (h:j<5),j<i→Bt x.heir[j] x.left[j]=true) (λi=>[(1,(.pointer (some ⟨b1,0,none⟩))),(15,(.agg (ints x.heir.toList).toArray)),(16,(.int .i64 (((i:Nat):Int))))]) (λi=>[ah b1 (ints x.flat) 51]) (λi=>5-i) 0
     ⟨aO _,λj h hj=>absurd hj (by omega)⟩ SB
     (λ_ s=>s) (λi hinv=>?_)
 obtain⟨hi,ho⟩:=hinv;refine sr λ_ J7=>PS ?_
 refine ap ?_ ?_<;>intro h17;refine nx J7 (aa λ_ J8=>CY (qx J8 (aa λ_ J9=>aq (sr λ_ J10=>PS ?_))));refine tp (p9 (cs:=ints x.heir.toList) (v:=Value.int .i64 (x.heir[i]'(by omega))) (r:=i) rfl mS Y3 rfl aP rfl rfl (by omega) (by omega) (by omega) (kp x.heir (by omega))) ?_;refine P2 ?_;refine nx J10 (aa λ_ J11=>sr λ_ J12=>P2 ?_);refine ap ?_ ?_<;>intro h21;refine PS ?_
 iterate 6 refine UT ?_
 refine PS ?_;refine nx J12 (CY (sr λ_ J13=>PS ?_));refine nx J13 (aj (ae (aJ (ae (ae (aJ (ae (WK [] (av rfl rfl ⟨congrArg Value.bool ?_,rfl⟩)))))))));symm;rw[fy,fJ];intro h;rw[an,an,decide_eq_true_iff,decide_eq_true_iff]at h;have h:=h.2 i (by omega);unfold Bt at h;rw[an,an,decide_eq_true_iff,decide_eq_true_iff]at h;omega;refine P2 ?_;refine FA 34 dT Cl ?_;refine IX (34+i*28) MX lX ?_;refine tq (aM (vs:=ints (bI (x.left[i]'(by omega)).toList)) rfl B1 rfl lX rfl (RO 0) (eD (x.left[i]'(by omega))) (Hb x (i*28) (by omega) (by omega) (ki uh x.left (i:=i) 0 (by omega) (by omega) (by decide) (bo (eD (x.left[i]'(by omega))))))) ?_;refine CE MI (pP (x.left[i]'(by omega))) ID ?_;refine bb ?_ ?_<;>intro h27;refine PS ?_;refine PS ?_;refine nx J12 (CN (qx J11 (sr λ_ J14=>P2 ?_)));refine ap ?_ ?_<;>intro h31;refine P2 ?_;refine FA 34 dT Cl ?_;refine IX (34+i*28) MX lX ?_;refine tq (aM (vs:=ints (bI (x.left[i]'(by omega)).toList)) rfl B1 rfl lX rfl (RO 0) (eD (x.left[i]'(by omega))) (Hb x (i*28) (by omega) (by omega) (ki uh x.left (i:=i) 0 (by omega) (by omega) (by decide) (bo (eD (x.left[i]'(by omega))))))) ?_;refine BV ((ints (bI RowT.zero.cells.toList)).toArray) ?_
 refine tq (Mx (a:=bI (x.left[i]'(by omega)).toList) (b:=bI RowT.zero.cells.toList) (m:=6) (c:=28) Qo Qj rfl Q1 (eg (eD (x.left[i]'(by omega)))) (eg (eD RowT.zero.cells)) ⟨hZ Pu Pz (eg (eD (x.left[i]'(by omega)))),hZ Pu Pz (eg (eD RowT.zero.cells))⟩ (K9 hw i (by omega)) Oi rfl rfl rfl) ?_;refine ap ?_ ?_<;>intro h38;refine PS ?_;refine nx J14 (CY (sr λ_ J15=>PS ?_));refine nx J15 (aj (aJ (ae (ae (aJ (ae (WK [] (av rfl rfl ⟨congrArg Value.bool ?_,rfl⟩))))))));symm;rw[fy,fJ];intro h;rw[an,an,decide_eq_true_iff,decide_eq_true_iff]at h;have h:=h.2 i (by omega);unfold Bt at h;rw[an,an,decide_eq_true_iff,decide_eq_true_iff]at h;exact h38 (h.2 h31);refine PS ?_;refine nx J14 (CN (aS (af (ac J9 (ad (AD ?_))))));refine PS ?_;refine aw ?_
 exact aL ((i+1):(Nat)) ⟨by omega,λj h hj=>by
        by_cases q:j=i
        · subst q;unfold Bt;rw[an,an,decide_eq_true_iff,decide_eq_true_iff];exact⟨⟨by omega,h27⟩,λe=>by first|exact absurd e h31|exact Classical.not_not.1 h38⟩
        · exact ho j h (by omega)⟩ (by show 5- (i+1)<5-i;omega)
   SB
   (λ_ s=>s)
 refine PS ?_
 iterate 6 refine UF ?_
 refine PS ?_;refine nx J14 (CN (aS (af (ac J9 (ad (AD ?_))))));refine PS ?_;refine aw ?_
 exact aL ((i+1):(Nat)) ⟨by omega,λj h hj=>by
        by_cases q:j=i
        · subst q;unfold Bt;rw[an,an,decide_eq_true_iff,decide_eq_true_iff];exact⟨⟨by omega,h27⟩,λe=>by first|exact absurd e h31|exact Classical.not_not.1 h38⟩
        · exact ho j h (by omega)⟩ (by show 5- (i+1)<5-i;omega)
   SB
   (λ_ s=>s)
 refine PS ?_;refine PS ?_;refine nx J12 (CY (sr λ_ J16=>PS ?_));refine nx J16 (aj (ae (aJ (ae (ae (aJ (ae (WK [] (av rfl rfl ⟨congrArg Value.bool ?_,rfl⟩)))))))));symm;rw[fy,fJ];intro h;rw[an,an,decide_eq_true_iff,decide_eq_true_iff]at h;have h:=h.2 i (by omega);unfold Bt at h;rw[an,an,decide_eq_true_iff,decide_eq_true_iff]at h;rw[h27]at h;exact absurd h.1.2 (by decide);refine nx J7 (aa λ_ J17=>CN (bh (aC (aC (bC (ac J5 (sr λ_ J18=>PS ?_)))))));refine nx J18 (aj (WK [] (av rfl rfl ?_)));exact⟨congrArg Value.bool (by symm;rw[fy,an,an,decide_eq_true_iff,decide_eq_true_iff];exact⟨⟨by omega,h11⟩,λj h=>ho j h (by omega)⟩),rfl⟩;refine PS ?_;refine PS ?_;refine nx J3 (CY (sr λ_ J19=>PS ?_));refine nx J19 (aj (ae (WK [] (av rfl rfl ⟨congrArg Value.bool ?_,rfl⟩))));symm;rw[fy,fJ];intro h;rw[an,an,decide_eq_true_iff,decide_eq_true_iff]at h;rw[h11]at h;exact absurd h.1.2 (by decide)
theorem su:
 DT 8 #[] T0 [] (RI (.agg (ints firstV.flat).toArray) []):=by
 refine BD 2 Tryz.func8 rfl rfl rfl λw0 F hF=>sr λ_ J1=>XZ rN (ints ViewT.zero.flat) λb0=>?_
 refine nx J1 (sr λ_ J2=>tp (yX (cs:=ints (ViewT.mk 1 7 (#v[0,0,0,0,0])).flat) (segs:=[[Value.int .i64 0],[Value.int .i64 0],ints (#v[0,0,0,0,0]).toList]) (res:=[[Value.int .i64 1],[Value.int .i64 7],ints (#v[0,0,0,0,0]).toList]) (parts:=[(0,[Value.int .i64 1]),(1,[Value.int .i64 7])]) rfl rfl e6 (by kernel_rfl) (by kernel_rfl) rfl (fG rfl rfl (fG rfl rfl l5)) (nQ (ViewT.mk 1 7 (#v[0,0,0,0,0]))).symm) ?_);refine SW 0 bi am ?_;refine nx J2 (aj (RC 0 [] e6 bi (am _) ?_));exact⟨rfl,rfl⟩
theorem ll(v:ViewT)(hh:Rng v):
    DT 12 #[(.agg (ints v.flat).toArray)] T0 [] (RI (.bool (jB v)) []):=by
 refine BD 39 Tryz.func12 rfl rfl rfl λw0 F hF=>sr λ_ J1=>XY (ints v.flat) λb1=>?_
 refine PS ?_;refine nx J1 (aa λ_ J2=>sr λ_ J3=>FA 0 e6 aP ?_);refine LU 0 Y3 (aY v rfl) ?_;refine PS ?_;refine ap ?_ ?_<;>intro h7;refine PS ?_
 iterate 3 refine UT ?_
 refine P2 ?_
 iterate 3 refine UT ?_
 refine PS ?_;refine nx J3 (CY (sr λ_ J4=>PS ?_));refine nx J4 (aj (ae (WK [] (av rfl rfl ⟨congrArg Value.bool ?_,rfl⟩))));symm;rw[jB,fJ];intro h;rw[an,decide_eq_true_iff,decide_eq_true_iff]at h;omega;refine PS ?_;refine FA 1 e6 aP ?_;refine LU 0 Y3 (mI v rfl) ?_;refine PS ?_;refine ap ?_ ?_<;>intro h11;refine P2 ?_
 iterate 3 refine UT ?_
 refine PS ?_;refine nx J3 (CY (sr λ_ J5=>PS ?_));refine nx J5 (aj (ae (WK [] (av rfl rfl ⟨congrArg Value.bool ?_,rfl⟩))));symm;rw[jB,fJ];intro h;rw[an,decide_eq_true_iff,decide_eq_true_iff]at h;omega;refine P2 ?_;refine FA 1 e6 aP ?_;refine LU 0 Y3 (mI v rfl) ?_;refine PS ?_;refine ap ?_ ?_<;>intro h16;refine PS ?_;refine nx J3 (CY (sr λ_ J6=>PS ?_));refine nx J6 (aj (ae (WK [] (av rfl rfl ⟨congrArg Value.bool ?_,rfl⟩))));symm;rw[jB,fJ];intro h;rw[an,decide_eq_true_iff,decide_eq_true_iff]at h;omega;refine PS ?_;refine nx J3 (CN (qx J2 (aa λ_ J7=>sr λ_ J8=>FA 2 e6 gM ?_)));refine tp (aM (vs:=ints v.heirs.toList) rfl mS rfl gM rfl (RO 0) (jq v.heirs) (ViewT.sub_heirs v 0 rfl (by decide) (bo (jq v.heirs)))) ?_;refine PS ?_;refine nx J8 (aq ?_)
 refine bD (α:=(Nat)) (λi=>i≤5∧∀(j:Nat) (h:j<5),j<i→Nq v v.heirs[j] j=true) (λi=>[(1,(.pointer (some ⟨b1,0,none⟩))),(19,(.agg (ints v.heirs.toList).toArray)),(20,(.int .i64 (((i:Nat):Int))))]) (λi=>[ah b1 (ints v.flat) 29]) (λi=>5-i) 0
     ⟨aO _,λj h hj=>absurd hj (by omega)⟩ SB
     (λ_ s=>s) (λi hinv=>?_)
 obtain⟨hi,ho⟩:=hinv;have hhi:=λh:i<5=>hh i h
 refine sr λ_ J9=>PS ?_
 refine ap ?_ ?_<;>intro h21;replace hhi:=hhi (by omega);refine nx J9 (aa λ_ J10=>CY (qx J10 (aa λ_ J11=>aq (sr λ_ J12=>PS ?_))));refine tp (p9 (cs:=ints v.heirs.toList) (v:=Value.int .i64 (v.heirs[i]'(by omega))) (r:=i) rfl mS Y3 rfl aP rfl rfl (by omega) (by omega) (by omega) (kp v.heirs (by omega))) ?_;refine P2 ?_;refine nx J12 (sr λ_ J13=>P2 ?_);refine ap ?_ ?_<;>intro h25;refine PS ?_;refine LW 0 e6 bi am ?_;refine PS ?_;refine tq (j8 rfl rfl rfl (bK (by omega) (by omega))) ?_;refine CE pY (dC v ((v.heirs[i]'(by omega))-1)) ID ?_;refine bb ?_ ?_<;>intro h30;refine PS ?_;refine PS ?_;refine LW 0 e6 bi am ?_;refine PS ?_;refine CE pY (dC v ((i:Nat):Int)) ID ?_;refine bb ?_ ?_<;>intro h35;refine P2 ?_;refine nx J13 (CY (sr λ_ J14=>PS ?_));refine nx J14 (aj (aJ (ae (ae (aJ (ae (WK [] (av rfl rfl ⟨congrArg Value.bool ?_,rfl⟩))))))));symm;rw[jB,fJ];intro h;rw[an,decide_eq_true_iff,decide_eq_true_iff]at h;have h:=h.2 i (by omega);unfold Nq at h;rw[rr,decide_eq_true_iff,an]at h;rw[h35]at h;exact h.elim h25 λq=>absurd q.2 (by decide)
 refine P2 ?_;refine nx J13 (CN (aS (af (ac J11 (ad (AD ?_))))));refine PS ?_;refine aw ?_
 exact aL ((i+1):(Nat)) ⟨by omega,λj h hj=>by
        by_cases q:j=i
        · subst q;unfold Nq;simp_all
        · exact ho j h (by omega)⟩ (by show 5- (i+1)<5-i;omega)
   SB
   (λ_ s=>s)
 refine PS ?_;refine PS ?_
 iterate 3 refine UT ?_
 refine P2 ?_;refine nx J13 (CY (sr λ_ J15=>PS ?_));refine nx J15 (aj (aJ (ae (ae (aJ (ae (WK [] (av rfl rfl ⟨congrArg Value.bool ?_,rfl⟩))))))));symm;rw[jB,fJ];intro h;rw[an,decide_eq_true_iff,decide_eq_true_iff]at h;have h:=h.2 i (by omega);unfold Nq at h;rw[rr,decide_eq_true_iff,an]at h;rw[h30]at h;exact h.elim h25 λq=>absurd q.1 (by decide)
 refine PS ?_
 iterate 6 refine UF ?_
 refine TL.unmetU rfl rfl rfl rfl (lb rfl) (TL.unmetU rfl rfl rfl rfl (lb rfl) (TL.unmetU rfl rfl rfl rfl (lb rfl) (UF ?_)));refine PS ?_;refine nx J13 (CN (aS (af (ac J11 (ad (AD ?_))))));refine PS ?_;refine aw ?_
 exact aL ((i+1):(Nat)) ⟨by omega,λj h hj=>by
        by_cases q:j=i
        · subst q;unfold Nq;simp_all
        · exact ho j h (by omega)⟩ (by show 5- (i+1)<5-i;omega)
   SB
   (λ_ s=>s)
 refine nx J9 (aa λ_ J16=>CN (bh (aC (aC (bC (ac J7 (sr λ_ J17=>PS ?_)))))));refine nx J17 (aj (WK [] (av rfl rfl ?_)));exact⟨congrArg Value.bool (by symm;rw[jB,an,decide_eq_true_iff,decide_eq_true_iff];exact⟨by omega,λj h=>ho j h (by omega)⟩),rfl⟩
theorem uS(v:ViewT)(w:Int)(hh:Rng v):
 DT 74 #[(.agg (ints v.flat).toArray),(.int .i64 (w))] T0 [] (RI (.tuple #[.int .i64 ((mg v w).getD 0), .bool (mg v w).isSome]) []):=by
 refine BD 21 Tryz.func74 rfl rfl rfl λw0 F hF=>sr λ_ J1=>XY (ints v.flat) λb2=>?_
 refine P2 ?_;refine nx J1 (aa λ_ J2=>sr λ_ J3=>PS ?_);refine CE JL (ko w) ID ?_;refine bb ?_ ?_<;>intro h7;have hm:0≤w∧w<5:=of_decide_eq_true h7;have hb:=hh w.toNat (by omega);refine PS ?_;refine P2 ?_;refine FA 2 e6 gM ?_;refine IX (2+w.toNat) mS aP ?_;refine LT 0 Y3 (.int .i64 ((v.heirs[w.toNat]'(by omega)))) ?_ (hc:=by exact ViewT.pt_heirs v (w.toNat) (by omega) (by omega) (kp v.heirs (by omega)));refine PS ?_;refine ap ?_ ?_<;>intro h14;refine PS ?_;refine nx J3 (CY (sr λ_ J4=>P2 ?_));refine nx J4 (aj (ae (WK [] (jo rfl rfl rfl ?_))));exact⟨by rw[mg,dif_pos hm,if_pos h14];rfl,rfl⟩;refine PS ?_;refine nx J3 (CN (qx J2 (sr λ_ J5=>PS ?_)));refine FA 2 e6 gM ?_;refine IX (2+w.toNat) mS aP ?_;refine LT 0 Y3 (.int .i64 ((v.heirs[w.toNat]'(by omega)))) ?_ (hc:=by exact ViewT.pt_heirs v (w.toNat) (by omega) (by omega) (kp v.heirs (by omega)));refine tp (j8 rfl rfl rfl (bK (by omega) (by omega))) ?_;refine P2 ?_;refine nx J5 (aj (WK [] (jo rfl rfl rfl ?_)));exact⟨by rw[mg,dif_pos hm,if_neg h14];rfl,rfl⟩;refine PS ?_;refine PS ?_
 iterate 5 refine UT ?_
 refine PS ?_;refine nx J3 (CY (sr λ_ J6=>P2 ?_));refine nx J6 (aj (ae (WK [] (jo rfl rfl rfl ?_))));exact⟨by rw[mg,dif_neg (of_decide_eq_false h7)];rfl,rfl⟩
theorem dE(v:ViewT)(c:ChangeT)(hh:Rng v):
    DT 34 #[(.agg (ints v.flat).toArray),(.agg (ints c.flat).toArray)] T0 [] (RI (.tuple #[.agg (ints (dF v c).1.flat).toArray, .int .i64 (dF v c).2]) []):=by
 refine BD 106 Tryz.func34 rfl rfl rfl λw0 F hF=>sr λ_ J1=>XY (ints v.flat) λb2=>?_
 refine XY (ints c.flat) λb3=>?_
 refine XZ rN (ints ViewT.zero.flat) λb4=>?_
 refine PS ?_;refine nx J1 (aa λ_ J2=>sr λ_ J3=>FA 1 nP aP ?_);refine LU 1 Y3 (jj c rfl) ?_;refine CE JL (ko c.who) ID ?_;refine bb ?_ ?_<;>intro h12;have hm1:0≤c.who∧c.who<5:=of_decide_eq_true h12;refine PS ?_;refine PS ?_;refine FA 2 nP aP ?_;refine LU 1 Y3 (rq c rfl) ?_;refine CE JL (ko c.heir) ID ?_;refine bb ?_ ?_<;>intro h17;have hm2:0≤c.heir∧c.heir<5:=of_decide_eq_true h17;refine PS ?_;refine PS ?_;refine nx J3 (CN (qx J2 (aa λ_ J4=>sr λ_ J5=>FA 0 nP aP ?_)));refine LU 1 Y3 (ChangeT.at_kind c rfl) ?_;refine nx J5 (aq (sr λ_ J6=>PS ?_));refine ap ?_ ?_<;>intro h25;refine PS ?_;refine nx J6 (CY (aa λ_ J7=>sr λ_ J8=>LW 2 e6 bi am ?_));refine FA 1 nP aP ?_;refine LU 1 Y3 (jj c rfl) ?_;refine CE Nv (uS v c.who hh) ID ?_;refine P3 ?_;refine bb ?_ ?_<;>intro h32;refine P2 ?_;refine nx J8 (sr λ_ J9=>P2 ?_)
 iterate 4 refine UT ?_
 refine PS ?_;refine nx J9 (CY (sr λ_ J10=>BV ((ints ViewT.zero.flat).toArray) ?_));refine SW 0 bi am ?_;refine PS ?_;refine nx J10 (aj (ae (aJ (ae (RT 0 [] e6 bi (am _) ?_)))));exact⟨by simp_all [dF],rfl⟩;refine P2 ?_;refine nx J8 (sr λ_ J11=>P2 ?_);refine LW 2 e6 bi am ?_;refine FA 1 nP aP ?_;refine LU 1 Y3 (jj c rfl) ?_;refine CE pY (dC v c.who) ID ?_;refine bb ?_ ?_<;>intro h38;refine PS ?_;refine nx J11 (CY (sr λ_ J12=>BV ((ints ViewT.zero.flat).toArray) ?_));refine SW 0 bi am ?_;refine PS ?_;refine nx J12 (aj (ae (aJ (ae (RT 0 [] e6 bi (am _) ?_)))));exact⟨by simp_all [dF],rfl⟩;refine PS ?_;refine nx J11 (CN (qx J7 (D1 1 bl ?_)));refine FD 0 1 e6 aP ?_;refine FD 2 1 nP aP ?_;refine LR 3 Y3 (jj c rfl) ?_;refine ta 4 rfl (yU (r:=(2^c.who.toNat)) rfl rfl rfl (by omega) (Gu hm1)) ?_;refine AL 1 ?_;refine LU 2 Y3 (mI v rfl) ?_;refine EN (ta 5 rfl (KM (r:=(iP .i64 v.members (2^c.who.toNat))) rfl rfl rfl rfl) ?_);refine FD 6 1 e6 aP ?_;refine AL 7 ?_;refine bO (i:=2) (ab rfl) rfl rfl rfl rfl rfl aP rfl rfl (LB (am _)) (ViewT.set_members v rfl _) rfl (EN (DN (af (ac J4 (sr λ_ J13=>FA 0 e6 aP ?_)))));refine LT 2 Y3 (.int .i64 (v.epoch)) ?_ (hc:=by exact aY _ rfl);refine tp (cB (r:=(IntKind.i64.wrap (v.epoch+1))) rfl rfl rfl rfl) ?_;refine FA 0 e6 aP ?_;refine bO (i:=2) (ab rfl) rfl rfl rfl rfl rfl aP rfl rfl (LB (am _)) (ViewT.set_epoch _ rfl _) rfl (nx J13 (sr λ_ J14=>LW 2 e6 bi am ?_));refine SW 0 bi am ?_;refine PS ?_
 refine nx J14 (aj (RT 0 [] e6 bi (am _) ?_));exact⟨by simp_all [dF],rfl⟩;refine PS ?_;refine nx J6 (CN (sr λ_ J15=>PS ?_));refine ap ?_ ?_<;>intro h49;refine PS ?_;refine nx J15 (CY (aa λ_ J16=>sr λ_ J17=>LW 2 e6 bi am ?_));refine FA 1 nP aP ?_;refine LU 1 Y3 (jj c rfl) ?_;refine CE pY (dC v c.who) ID ?_;refine bb ?_ ?_<;>intro h53;refine PS ?_;refine PS ?_;refine LW 2 e6 bi am ?_;refine FA 2 nP aP ?_;refine LU 1 Y3 (rq c rfl) ?_;refine CE pY (dC v c.heir) ID ?_;refine bb ?_ ?_<;>intro h59;refine PS ?_;refine P2 ?_;refine FA 2 nP aP ?_;refine LU 1 Y3 (rq c rfl) ?_;refine FA 1 nP aP ?_;refine LU 1 Y3 (jj c rfl) ?_;refine PS ?_;refine ap ?_ ?_<;>intro h67;refine PS ?_;refine nx J17 (CY (sr λ_ J18=>BV ((ints ViewT.zero.flat).toArray) ?_));refine SW 0 bi am ?_;refine PS ?_;refine nx J18 (aj (ae (aJ (ae (RT 0 [] e6 bi (am _) ?_)))));exact⟨by simp_all [dF],rfl⟩;refine PS ?_;refine nx J17 (CN (qx J16 (aa λ_ J19=>D1 1 bl ?_)));refine FD 0 1 e6 aP ?_;refine FD 2 1 nP aP ?_;refine LR 3 Y3 (jj c rfl) ?_;refine ta 4 rfl (yU (r:=(2^c.who.toNat)) rfl rfl rfl (by omega) (Gu hm1)) ?_;refine AL 1 ?_;refine LU 2 Y3 (mI v rfl) ?_;refine EN (ta 5 rfl (PV.andNot (r:=(nb .i64 v.members (2^c.who.toNat))) rfl rfl rfl rfl) ?_);refine FD 6 1 e6 aP ?_;refine AL 7 ?_;refine bO (i:=2) (ab rfl) rfl rfl rfl rfl rfl aP rfl rfl (LB (am _)) (ViewT.set_members v rfl _) rfl (EN (DN (ac J19 (sr λ_ J20=>FA 2 e6 gM ?_))))
 refine tp (aM (vs:=ints v.heirs.toList) rfl mS rfl gM rfl (RO 2) (jq v.heirs) (ViewT.sub_heirs (ViewT.mk v.epoch (nb .i64 v.members (2^c.who.toNat)) v.heirs) 0 rfl (by decide) (bo (jq v.heirs)))) ?_;refine PS ?_;refine nx J20 (aq ?_)
 refine bD (α:=(Nat)×(Vector Int 5)) (λ⟨i,hs⟩=>i≤5∧∀(j:Nat) (h:j<5),hs[j]=if j<i then uM c j v.heirs[j]else v.heirs[j]) (λ⟨i,hs⟩=>[(2,(.pointer (some ⟨b2,0,none⟩))),(3,(.pointer (some ⟨b3,0,none⟩))),(4,(.pointer (some ⟨b4,0,none⟩))),(5,(.int .i64 0)),(78,(.agg (ints v.heirs.toList).toArray)),(79,(.int .i64 (((i:Nat):Int))))]) (λ⟨i,hs⟩=>[ah b4 (ints ViewT.zero.flat) 29,ah b3 (ints c.flat) 33,ah b2 (ints (ViewT.mk v.epoch (nb .i64 v.members (2^c.who.toNat)) hs).flat) 29]) (λ⟨i,hs⟩=>5-i) (0,v.heirs)
     ⟨aO _,λj h=>by rw[if_neg (by omega)]⟩ SB
     (λ_ s=>s) (λ⟨i,hs⟩ hinv=>?_)
 obtain⟨hi,ho⟩:=hinv;refine sr λ_ J21=>PS ?_
 refine ap ?_ ?_<;>intro h80;refine nx J21 (aa λ_ J22=>CY (qx J22 (aa λ_ J23=>aq (sr λ_ J24=>PS ?_))));refine tp (p9 (cs:=ints v.heirs.toList) (v:=Value.int .i64 (v.heirs[i]'(by omega))) (r:=i) rfl mS Y3 rfl aP rfl rfl (by omega) (by omega) (by omega) (kp v.heirs (by omega))) ?_;refine P2 ?_;refine nx J24 (sr λ_ J25=>PS ?_);refine FA 1 nP aP ?_;refine LU 1 Y3 (jj c rfl) ?_;refine PS ?_;refine ap ?_ ?_<;>intro h86;refine PS ?_
 iterate 5 refine UT ?_
 refine PS ?_;refine nx J25 (CY (ad (PS ?_)));refine FA 2 nP aP ?_;refine LU 1 Y3 (rq c rfl) ?_;refine AD ?_;refine FA 2 e6 gM ?_;refine IX (2+i) mS aP ?_;refine bO (i:=2) (ab rfl) rfl rfl rfl rfl rfl aP rfl rfl (LB (am _)) (ViewT.st_heirs (ViewT.mk v.epoch (nb .i64 v.members (2^c.who.toNat)) hs) i (by omega) (by omega) (za hs (by omega) _)) rfl (aw (af (ac J23 (ad (AD ?_)))));refine PS ?_;refine aw ?_
 exact aL ((i+1,hs.set i (c.heir+1) (by omega)):(Nat)×(Vector Int 5)) ⟨by omega,λj h=>by
        rw[Vector.getElem_set]
        by_cases q:j=i
        · subst q;rw[if_pos rfl,if_pos (by omega),uM,if_pos (by omega)]
        · rw[if_neg (by omega),ho j h]
          by_cases q2:j<i
          · rw[if_pos q2,if_pos (by omega)]
          · rw[if_neg q2,if_neg (by omega)]⟩ (by show 5- (i+1)<5-i;omega)
   SB
   (λ_ s=>s)
 refine P2 ?_;refine FA 1 nP aP ?_;refine LU 1 Y3 (jj c rfl) ?_;refine tq (cB rfl rfl rfl (bK (by omega) (by omega))) ?_;refine PS ?_;refine ap ?_ ?_<;>intro h92;refine PS ?_;refine nx J25 (CY (ad (PS ?_)));refine FA 2 nP aP ?_;refine LU 1 Y3 (rq c rfl) ?_;refine AD ?_;refine FA 2 e6 gM ?_;refine IX (2+i) mS aP ?_;refine bO (i:=2) (ab rfl) rfl rfl rfl rfl rfl aP rfl rfl (LB (am _)) (ViewT.st_heirs (ViewT.mk v.epoch (nb .i64 v.members (2^c.who.toNat)) hs) i (by omega) (by omega) (za hs (by omega) _)) rfl (aw (af (ac J23 (ad (AD ?_)))));refine PS ?_;refine aw ?_
 exact aL ((i+1,hs.set i (c.heir+1) (by omega)):(Nat)×(Vector Int 5)) ⟨by omega,λj h=>by
        rw[Vector.getElem_set]
        by_cases q:j=i
        · subst q;rw[if_pos rfl,if_pos (by omega),uM,if_pos (by omega)]
        · rw[if_neg (by omega),ho j h]
          by_cases q2:j<i
          · rw[if_pos q2,if_pos (by omega)]
          · rw[if_neg q2,if_neg (by omega)]⟩ (by show 5- (i+1)<5-i;omega)
   SB
   (λ_ s=>s)
 refine PS ?_;refine nx J25 (CN (aS (af (ac J23 (ad (AD ?_))))));refine PS ?_;refine aw ?_
 exact aL ((i+1,hs):(Nat)×(Vector Int 5)) ⟨by omega,λj h=>by
        rw[ho j h]
        by_cases q:j=i
        · subst q;rw[if_neg (by omega),if_pos (by omega),uM,if_neg (by omega)]
        · by_cases q2:j<i
          · rw[if_pos q2,if_pos (by omega)]
          · rw[if_neg q2,if_neg (by omega)]⟩ (by show 5- (i+1)<5-i;omega)
   SB
   (λ_ s=>s)
 refine nx J21 (aa λ_ J26=>CN (bh (aC (aC (bC (af (ac J4 (sr λ_ J27=>FA 0 e6 aP ?_))))))));refine LT 2 Y3 (.int .i64 (v.epoch)) ?_ (hc:=by exact aY _ rfl);refine tp (cB (r:=(IntKind.i64.wrap (v.epoch+1))) rfl rfl rfl rfl) ?_;refine FA 0 e6 aP ?_;refine bO (i:=2) (ab rfl) rfl rfl rfl rfl rfl aP rfl rfl (LB (am _)) (ViewT.set_epoch _ rfl _) rfl (nx J27 (sr λ_ J28=>LW 2 e6 bi am ?_));refine SW 0 bi am ?_;refine PS ?_;refine nx J28 (aj (RT 0 [] e6 bi (am _) ?_))
 have e:hs=si v c:=by
   apply Vector.ext;intro j hj;rw[ho j hj,if_pos (by omega)];simp[si]
 subst e;exact⟨by simp_all [dF],rfl⟩;refine PS ?_;refine P2 ?_
 iterate 5 refine UT ?_
 refine PS ?_;refine nx J17 (CY (sr λ_ J29=>BV ((ints ViewT.zero.flat).toArray) ?_));refine SW 0 bi am ?_;refine PS ?_;refine nx J29 (aj (ae (aJ (ae (RT 0 [] e6 bi (am _) ?_)))));exact⟨by simp_all [dF],rfl⟩;refine PS ?_;refine PS ?_
 iterate 5 refine UT ?_
 refine P2 ?_
 iterate 5 refine UT ?_
 refine PS ?_;refine nx J17 (CY (sr λ_ J30=>BV ((ints ViewT.zero.flat).toArray) ?_));refine SW 0 bi am ?_;refine PS ?_;refine nx J30 (aj (ae (aJ (ae (RT 0 [] e6 bi (am _) ?_)))));exact⟨by simp_all [dF],rfl⟩;refine PS ?_;refine nx J15 (CN (sr λ_ J31=>BV ((ints ViewT.zero.flat).toArray) ?_));refine SW 0 bi am ?_;refine PS ?_;refine nx J31 (aj (aJ (ae (RT 0 [] e6 bi (am _) ?_))));exact⟨by simp_all [dF],rfl⟩;refine PS ?_;refine PS ?_;refine nx J3 (CY (sr λ_ J32=>BV ((ints ViewT.zero.flat).toArray) ?_));refine SW 0 bi am ?_;refine PS ?_;refine nx J32 (aj (ae (RT 0 [] e6 bi (am _) ?_)));exact⟨by simp_all [dF],rfl⟩;refine PS ?_;refine PS ?_
 iterate 4 refine UT ?_
 refine PS ?_;refine nx J3 (CY (sr λ_ J33=>BV ((ints ViewT.zero.flat).toArray) ?_));refine SW 0 bi am ?_;refine PS ?_;refine nx J33 (aj (ae (RT 0 [] e6 bi (am _) ?_)));exact⟨by simp_all [dF],rfl⟩
end Go.Proofs.YtmcjhkbcmmddgaaGreat
end

section
namespace Leg
open Go Codec Api
section
variable {P:Program} {w0:World} {F:Hl} {n:Nat} {ops:Array Oper} {Q:QQ} {D:List Deferred} {L:List (Nat×Value)} {H:List HP} {o:Oper} {l:List Oper} {d:Nat}
def ez(c cap:Nat)(vs:List Value)(s r:Nat):HP:=Bh c (.chan cap vs.toArray false s r false)
theorem TL.makeChan{t e:TypeId}{dir:ChanDir}{x:Operand}{k bytes:Nat}(hw:Want n D ops o L)(ho:o.op= .makeChan t x)(hd:o.dst=some d)(hn:Nat.blt d n=true)(ht:P.underlying t=some (.chan dir e))(hi:(P.info? e).map (·.bytes)=some bytes)
 (hx:cK L x=some (.int .i64 ((k:Nat):Int))) (hb:bytes*k≤281474976710544) (hk:k≤9223372036854775807)
 (h: ∀c,TL P w0 F n ops Q l D ((d, .chan (some c))::L) (ez c k [] 0 0::H)):TL P w0 F n ops Q (o::l) D L H:=
 mJ hw λa w f s m=>by
  unfold Oper.wp;cases hi':P.info? e with
  |none=>rw[hi']at hi;cases hi
  |some i=>
   rw[hi']at hi;have hbb:i.bytes=bytes:=by simpa using hi
   have a1: ¬(((k:Nat):Int)<0):=by omega
   have a2: ¬(9223372036854775807< ((k:Nat):Int)):=by omega
   have a3: ¬(281474976710544< (i.bytes:Int)* ((k:Nat):Int)):=by
    have:(i.bytes:Int)* ((k:Nat):Int)≤281474976710544:=by rw[hbb,←Int.natCast_mul];exact Int.ofNat_le.2 hb
    omega
   have hc:(Instr.makeChan t (.int .i64 ((k:Nat):Int))).run P w= .ok (.chan (some w.heap.size)) (w.alloc (.chan k #[] false 0 0 false)):=by
    simp[Instr.makeChan,run_underlying ht,typeInfo,hi',asInt,asIntOf,IntKind.max,IntKind.signed,IntKind.bits,a1,a2,a3]
   have r:(execOp a.eval o).run P w= .ok (.value (.chan (some w.heap.size))) (w.alloc (.chan k #[] false 0 0 false)):=by
    simp[execOp,ho,f.eval hx,Sem.run_bind,hc]
   rw[r,Oper.upon_value,hd];exact h _ _ _ (f.put (lb hn) _) (s.trans ⟨rfl,rfl,rfl,by simp⟩) ((m.alloc _).mono λh s=>cF s (λ_ x=>x) λ_ x=>x)
end
section
variable {α:Type} {f:α→List Int} {m:Nat}
theorem DM(hf: ∀x,(f x).length=m)(l:List α):(ints (l.flatMap f)).length=l.length*m:=by
 rw[ints_length]
 induction l with
 |nil=>simp
 |cons x l ih=>rw[db,ai,ih,hf,ax,gp];omega
end
section
variable {P:Program} {w0:World} {F:Hl} {n:Nat} {ops:Array Oper} {Q:QQ} {D:List Deferred} {L:List (Nat×Value)} {H:List HP} {o:Oper} {l:List Oper} {S:World→Prop}
end
def Arnd{α:Type}(cs c:α→List Value)(off:Nat):Prop:=∃A B,A.length=off∧∀x,cs x=A++(c x++B)
section
variable {α:Type} {cs c:α→List Value} {off o j k:Nat} {x x':α}
theorem Arnd.le(h:Arnd cs c off)(x:α):off+(c x).length≤(cs x).length:=by
 obtain⟨A,B,h1,h2⟩:=h;rw[h2,ai,ai];omega
theorem Arnd.at(h:Arnd cs c off)(ho:o=off+j)(hj:j< (c x).length){r:Option Value}(hr:(c x)[j]?=r):(cs x)[o]?=r:=by
 obtain⟨A,B,h1,h2⟩:=h;subst ho;subst h1;rw[h2,List.getElem?_append_right (by omega),cq,List.getElem?_append_left hj,hr]
theorem Arnd.sub(h:Arnd cs c off)(ho:o=off+j)(hj:j+k≤(c x).length){r:List Value}(hr:((c x).drop j).take k=r):((cs x).drop o).take k=r:=by
 obtain⟨A,B,h1,h2⟩:=h;subst ho;subst h1;rw[h2,←mr,Ew,kY (by omega),cy (by rw[ej];omega),hr]
abbrev PT:= @Arnd.sub
theorem Arnd.wr(h:Arnd cs c off){vs:List Value}(ho:o=off+j)(hj:j+vs.length≤(c x).length)(hw:Leg.wr (c x) j vs=c x'):Leg.wr (cs x) o vs=cs x':=by
 obtain⟨A,B,h1,h2⟩:=h;subst ho;subst h1;rw[h2,h2,eM (by omega),cq,iC hj,hw]
theorem Arnd.set(h:Arnd cs c off){v:Value}(ho:o=off+j)(hj:j< (c x).length)(hw:(c x).set j v=c x'):(cs x).set o v=cs x':=by
 obtain⟨A,B,h1,h2⟩:=h;subst ho;subst h1;rw[h2,h2,gY _ _ (by omega),cq,qW _ _ hj,hw]
end
end Leg
namespace Api
open Go Leg Codec
def oY(l:List Bool):List Value:=l.map .bool
theorem MB{n:Nat}(v:Vector Bool n){i:Nat}(h:i<n):(oY v.toList)[i]?=some (.bool v[i]):=by simp[oY,h]
theorem Oj{n:Nat}(v:Vector Bool n){i:Nat}(h:i<n)(x:Bool):(oY v.toList).set i (.bool x)=oY (v.set i x h).toList:=by rw[rQ];simp[oY,KP]
theorem fO(v:Vector RowT 5):(ints (v.toList.flatMap RowT.flat)).length=870:=by rw[DM co];simp
theorem La(v:Vector CellT 5):(ints (v.toList.flatMap CellT.flat)).length=35:=by rw[DM bP];simp
structure AccT where
 epoch:Int
 vow:BallotT
 had:BallotT
 change:ChangeT
def AccT.zero:AccT:=⟨0, .zero, .zero, .zero⟩
def AccT.flat(m:AccT):List Int:=([m.epoch])++(m.vow.flat)++(m.had.flat)++(m.change.flat)
structure SaidT where
 to':Int
 msg:MsgT
structure BookT where
 rows:Vector RowT 5
def BookT.zero:BookT:=⟨#v[RowT.zero,RowT.zero,RowT.zero,RowT.zero,RowT.zero]⟩
def BookT.flat(m:BookT):List Int:=(m.rows.toList.flatMap RowT.flat)
structure MirT where
 rows:Vector RowT 5
 sealed:Vector Bool 5
def MirT.zero:MirT:=⟨#v[RowT.zero,RowT.zero,RowT.zero,RowT.zero,RowT.zero], #v[false,false,false,false,false]⟩
def MirT.cells(m:MirT):List Value:=[ints (m.rows.toList.flatMap RowT.flat),oY m.sealed.toList].flatten
structure VoteT where
 view:ViewT
 ballot:BallotT
 change:ChangeT
 best:BallotT
 vowed:Int
 took:Int
 putting:Bool
def VoteT.zero:VoteT:=⟨.zero, .zero, .zero, .zero,0,0,false⟩
def VoteT.cells(m:VoteT):List Value:=[ints m.view.flat,ints m.ballot.flat,ints m.change.flat,ints m.best.flat,[Value.int .i64 m.vowed],[Value.int .i64 m.took],[Value.bool m.putting]].flatten
structure RepT where
 id:Int
 log:Value
 view:ViewT
 own:RowT
 mirror:MirT
 acc:AccT
 round:Int
 vote:Value
 book:BookT
 busy:Bool
 kept:Int
 waits:Int
 ops:Int
 replies:Value
 told:Vector Int 5
 last:Vector RowT 5
def RepT.cells(m:RepT):List Value:=[[Value.int .i64 m.id],[m.log],ints m.view.flat,ints m.own.flat,MirT.cells m.mirror,ints m.acc.flat,[Value.int .i64 m.round],[m.vote],ints m.book.flat,[Value.bool m.busy],[Value.int .i64 m.kept],[Value.int .i64 m.waits],[Value.int .i64 m.ops],[m.replies],ints m.told.toList,ints (m.last.toList.flatMap RowT.flat)].flatten
theorem AccT.sl(m:AccT):SL [[Value.int .i64 m.epoch],ints m.vow.flat,ints m.had.flat,ints m.change.flat] [1,2,2,3]:=(.cons rfl (.cons (ao _) (.cons (ao _) (.cons (aK _) .nil))))
abbrev EE:= @AccT.sl
abbrev AccT.sg(m:AccT):List (List Value):=[[Value.int .i64 m.epoch],ints m.vow.flat,ints m.had.flat,ints m.change.flat]
theorem AccT.eq(m:AccT):ints m.flat=[[Value.int .i64 m.epoch],ints m.vow.flat,ints m.had.flat,ints m.change.flat].flatten:=by simp[AccT.flat,ints]
abbrev o9:= @AccT.eq
theorem AccT.len(m:AccT):(ints m.flat).length=8:=by rw[o9,(EE m).len];rfl
abbrev ba:= @AccT.len
theorem AccT.at_epoch(m:AccT){o:Nat}(ho:o=0):(ints m.flat)[o]?=some (Value.int .i64 m.epoch):=by subst ho;rw[o9];exact(EE m).at (off:=0) 0 0 rfl rfl (by simp) (by decide)
theorem AccT.sub_vow(m:AccT){o k:Nat}(j:Nat)(ho:o=1+j)(h:j+k≤2){r:List Value}(hr:((ints m.vow.flat).drop j).take k=r):((ints m.flat).drop o).take k=r:=by subst ho;rw[←hr,o9];exact(EE m).sub (off:=1) 1 j k rfl rfl (by simp) h
abbrev Rz:= @AccT.sub_vow
theorem AccT.wr_vow_(m:AccT){o:Nat}(j:Nat){vs:List Value}{u':BallotT}(ho:o=1+j)(h:j+vs.length≤2)(hw:wr (ints m.vow.flat) j vs=ints u'.flat):wr (ints m.flat) o vs=ints ({m with vow:=u'}:AccT).flat:=by subst ho;rw[o9,o9];exact(EE m).putIn (off:=1) 1 j vs rfl rfl (by simp) h hw
abbrev Ry:= @AccT.wr_vow_
theorem AccT.sp_vow(m:AccT):((ints m.flat).drop 1).take 2=ints m.vow.flat:=Rz m 0 rfl (by decide) (bo ((ao _):(ints m.vow.flat).length=2))
theorem AccT.wp_vow(m:AccT)(u:BallotT):wr (ints m.flat) 1 (ints u.flat)=ints ({m with vow:=u}:AccT).flat:=Ry m 0 rfl (by rw[bq];exact dB ((ao _):(ints u.flat).length=2)) (ct (Eq.trans ((ao _):(ints m.vow.flat).length=2) (Eq.symm ((ao _):(ints u.flat).length=2))))
theorem AccT.sub_had(m:AccT){o k:Nat}(j:Nat)(ho:o=3+j)(h:j+k≤2){r:List Value}(hr:((ints m.had.flat).drop j).take k=r):((ints m.flat).drop o).take k=r:=by subst ho;rw[←hr,o9];exact(EE m).sub (off:=3) 2 j k rfl rfl (by simp) h
theorem AccT.wr_had_(m:AccT){o:Nat}(j:Nat){vs:List Value}{u':BallotT}(ho:o=3+j)(h:j+vs.length≤2)(hw:wr (ints m.had.flat) j vs=ints u'.flat):wr (ints m.flat) o vs=ints ({m with had:=u'}:AccT).flat:=by subst ho;rw[o9,o9];exact(EE m).putIn (off:=3) 2 j vs rfl rfl (by simp) h hw
theorem AccT.sp_had(m:AccT):((ints m.flat).drop 3).take 2=ints m.had.flat:=AccT.sub_had m 0 rfl (by decide) (bo ((ao _):(ints m.had.flat).length=2))
theorem AccT.wp_had(m:AccT)(u:BallotT):wr (ints m.flat) 3 (ints u.flat)=ints ({m with had:=u}:AccT).flat:=AccT.wr_had_ m 0 rfl (by rw[bq];exact dB ((ao _):(ints u.flat).length=2)) (ct (Eq.trans ((ao _):(ints m.had.flat).length=2) (Eq.symm ((ao _):(ints u.flat).length=2))))
theorem AccT.sub_change(m:AccT){o k:Nat}(j:Nat)(ho:o=5+j)(h:j+k≤3){r:List Value}(hr:((ints m.change.flat).drop j).take k=r):((ints m.flat).drop o).take k=r:=by subst ho;rw[←hr,o9];exact(EE m).sub (off:=5) 3 j k rfl rfl (by simp) h
theorem AccT.wr_change_(m:AccT){o:Nat}(j:Nat){vs:List Value}{u':ChangeT}(ho:o=5+j)(h:j+vs.length≤3)(hw:wr (ints m.change.flat) j vs=ints u'.flat):wr (ints m.flat) o vs=ints ({m with change:=u'}:AccT).flat:=by subst ho;rw[o9,o9];exact(EE m).putIn (off:=5) 3 j vs rfl rfl (by simp) h hw
theorem AccT.sp_change(m:AccT):((ints m.flat).drop 5).take 3=ints m.change.flat:=AccT.sub_change m 0 rfl (by decide) (bo ((aK _):(ints m.change.flat).length=3))
theorem AccT.wp_change(m:AccT)(u:ChangeT):wr (ints m.flat) 5 (ints u.flat)=ints ({m with change:=u}:AccT).flat:=AccT.wr_change_ m 0 rfl (by rw[bq];exact dB ((aK _):(ints u.flat).length=3)) (ct (Eq.trans ((aK _):(ints m.change.flat).length=3) (Eq.symm ((aK _):(ints u.flat).length=3))))
abbrev SaidT.sg(m:SaidT):List (List Value):=[[Value.int .i64 m.to'],ints m.msg.flat]
theorem BookT.sl(m:BookT):SL [ints (m.rows.toList.flatMap RowT.flat)] [870]:=(.cons (fO _) .nil)
abbrev BookT.sg(m:BookT):List (List Value):=[ints (m.rows.toList.flatMap RowT.flat)]
theorem BookT.eq(m:BookT):ints m.flat=[ints (m.rows.toList.flatMap RowT.flat)].flatten:=by simp[BookT.flat,ints]
abbrev PQ:= @BookT.eq
theorem BookT.len(m:BookT):(ints m.flat).length=870:=by rw[PQ,(BookT.sl m).len];rfl
abbrev yj:= @BookT.len
theorem BookT.pt_rows(m:BookT){o:Nat}(j:Nat)(ho:o=0+j)(h:j<870){r:Option Value}(hr:(ints (m.rows.toList.flatMap RowT.flat))[j]?=r):(ints m.flat)[o]?=r:=by subst ho;rw[←hr,PQ];exact(BookT.sl m).at (off:=0) 0 j rfl rfl (by simp) h
theorem BookT.sub_rows(m:BookT){o k:Nat}(j:Nat)(ho:o=0+j)(h:j+k≤870){r:List Value}(hr:((ints (m.rows.toList.flatMap RowT.flat)).drop j).take k=r):((ints m.flat).drop o).take k=r:=by subst ho;rw[←hr,PQ];exact(BookT.sl m).sub (off:=0) 0 j k rfl rfl (by simp) h
abbrev PP:= @BookT.sub_rows
theorem BookT.wr_rows_(m:BookT){o:Nat}(j:Nat){vs:List Value}{u':Vector RowT 5}(ho:o=0+j)(h:j+vs.length≤870)(hw:wr (ints (m.rows.toList.flatMap RowT.flat)) j vs=ints (u'.toList.flatMap RowT.flat)):wr (ints m.flat) o vs=ints ({m with rows:=u'}:BookT).flat:=by subst ho;rw[PQ,PQ];exact(BookT.sl m).putIn (off:=0) 0 j vs rfl rfl (by simp) h hw
theorem MirT.sl(m:MirT):SL [ints (m.rows.toList.flatMap RowT.flat),oY m.sealed.toList] [870,5]:=(.cons (fO _) (.cons (by simp[oY]) .nil))
abbrev N7:= @MirT.sl
abbrev MirT.sg(m:MirT):List (List Value):=[ints (m.rows.toList.flatMap RowT.flat),oY m.sealed.toList]
theorem MirT.eq(m:MirT):MirT.cells m=[ints (m.rows.toList.flatMap RowT.flat),oY m.sealed.toList].flatten:=rfl
abbrev EC:= @MirT.eq
theorem MirT.len(m:MirT):(MirT.cells m).length=875:=by rw[EC,(N7 m).len];rfl
abbrev qV:= @MirT.len
theorem MirT.pt_rows(m:MirT){o:Nat}(j:Nat)(ho:o=0+j)(h:j<870){r:Option Value}(hr:(ints (m.rows.toList.flatMap RowT.flat))[j]?=r):(MirT.cells m)[o]?=r:=by subst ho;rw[←hr,EC];exact(N7 m).at (off:=0) 0 j rfl rfl (by simp) h
theorem MirT.sub_rows(m:MirT){o k:Nat}(j:Nat)(ho:o=0+j)(h:j+k≤870){r:List Value}(hr:((ints (m.rows.toList.flatMap RowT.flat)).drop j).take k=r):((MirT.cells m).drop o).take k=r:=by subst ho;rw[←hr,EC];exact(N7 m).sub (off:=0) 0 j k rfl rfl (by simp) h
theorem MirT.wr_rows_(m:MirT){o:Nat}(j:Nat){vs:List Value}{u':Vector RowT 5}(ho:o=0+j)(h:j+vs.length≤870)(hw:wr (ints (m.rows.toList.flatMap RowT.flat)) j vs=ints (u'.toList.flatMap RowT.flat)):wr (MirT.cells m) o vs=MirT.cells ({m with rows:=u'}:MirT):=by subst ho;rw[EC,EC];exact(N7 m).putIn (off:=0) 0 j vs rfl rfl (by simp) h hw
theorem MirT.pt_sealed(m:MirT){o:Nat}(j:Nat)(ho:o=870+j)(h:j<5){r:Option Value}(hr:(oY m.sealed.toList)[j]?=r):(MirT.cells m)[o]?=r:=by subst ho;rw[←hr,EC];exact(N7 m).at (off:=870) 1 j rfl rfl (by simp) h
theorem MirT.st_sealed(m:MirT){o:Nat}(j:Nat){v:Value}{u':Vector Bool 5}(ho:o=870+j)(h:j<5)(hw:(oY m.sealed.toList).set j v=oY u'.toList):(MirT.cells m).set o v=MirT.cells ({m with sealed:=u'}:MirT):=by subst ho;rw[EC,EC];exact((N7 m).set (off:=870) 1 j v rfl rfl (by simp) h).trans (by rw[hw];rfl)
theorem VoteT.sl(m:VoteT):SL [ints m.view.flat,ints m.ballot.flat,ints m.change.flat,ints m.best.flat,[Value.int .i64 m.vowed],[Value.int .i64 m.took],[Value.bool m.putting]] [7,2,3,2,1,1,1]:=(.cons (am _) (.cons (ao _) (.cons (aK _) (.cons (ao _) (.cons rfl (.cons rfl (.cons rfl .nil)))))))
abbrev kD:= @VoteT.sl
abbrev VoteT.sg(m:VoteT):List (List Value):=[ints m.view.flat,ints m.ballot.flat,ints m.change.flat,ints m.best.flat,[Value.int .i64 m.vowed],[Value.int .i64 m.took],[Value.bool m.putting]]
theorem VoteT.eq(m:VoteT):VoteT.cells m=[ints m.view.flat,ints m.ballot.flat,ints m.change.flat,ints m.best.flat,[Value.int .i64 m.vowed],[Value.int .i64 m.took],[Value.bool m.putting]].flatten:=rfl
abbrev fU:= @VoteT.eq
theorem VoteT.len(m:VoteT):(VoteT.cells m).length=17:=by rw[fU,(kD m).len];rfl
abbrev oj:= @VoteT.len
theorem VoteT.sub_view(m:VoteT){o k:Nat}(j:Nat)(ho:o=0+j)(h:j+k≤7){r:List Value}(hr:((ints m.view.flat).drop j).take k=r):((VoteT.cells m).drop o).take k=r:=by subst ho;rw[←hr,fU];exact(kD m).sub (off:=0) 0 j k rfl rfl (by simp) h
abbrev Ep:= @VoteT.sub_view
theorem VoteT.wr_view_(m:VoteT){o:Nat}(j:Nat){vs:List Value}{u':ViewT}(ho:o=0+j)(h:j+vs.length≤7)(hw:wr (ints m.view.flat) j vs=ints u'.flat):wr (VoteT.cells m) o vs=VoteT.cells ({m with view:=u'}:VoteT):=by subst ho;rw[fU,fU];exact(kD m).putIn (off:=0) 0 j vs rfl rfl (by simp) h hw
theorem VoteT.sp_view(m:VoteT):((VoteT.cells m).drop 0).take 7=ints m.view.flat:=Ep m 0 rfl (by decide) (bo ((am _):(ints m.view.flat).length=7))
abbrev qe:= @VoteT.sp_view
theorem VoteT.wp_view(m:VoteT)(u:ViewT):wr (VoteT.cells m) 0 (ints u.flat)=VoteT.cells ({m with view:=u}:VoteT):=VoteT.wr_view_ m 0 rfl (by rw[bq];exact dB ((am _):(ints u.flat).length=7)) (ct (Eq.trans ((am _):(ints m.view.flat).length=7) (Eq.symm ((am _):(ints u.flat).length=7))))
theorem VoteT.sub_ballot(m:VoteT){o k:Nat}(j:Nat)(ho:o=7+j)(h:j+k≤2){r:List Value}(hr:((ints m.ballot.flat).drop j).take k=r):((VoteT.cells m).drop o).take k=r:=by subst ho;rw[←hr,fU];exact(kD m).sub (off:=7) 1 j k rfl rfl (by simp) h
abbrev Mv:= @VoteT.sub_ballot
theorem VoteT.wr_ballot_(m:VoteT){o:Nat}(j:Nat){vs:List Value}{u':BallotT}(ho:o=7+j)(h:j+vs.length≤2)(hw:wr (ints m.ballot.flat) j vs=ints u'.flat):wr (VoteT.cells m) o vs=VoteT.cells ({m with ballot:=u'}:VoteT):=by subst ho;rw[fU,fU];exact(kD m).putIn (off:=7) 1 j vs rfl rfl (by simp) h hw
theorem VoteT.sp_ballot(m:VoteT):((VoteT.cells m).drop 7).take 2=ints m.ballot.flat:=Mv m 0 rfl (by decide) (bo ((ao _):(ints m.ballot.flat).length=2))
theorem VoteT.wp_ballot(m:VoteT)(u:BallotT):wr (VoteT.cells m) 7 (ints u.flat)=VoteT.cells ({m with ballot:=u}:VoteT):=VoteT.wr_ballot_ m 0 rfl (by rw[bq];exact dB ((ao _):(ints u.flat).length=2)) (ct (Eq.trans ((ao _):(ints m.ballot.flat).length=2) (Eq.symm ((ao _):(ints u.flat).length=2))))
theorem VoteT.sub_change(m:VoteT){o k:Nat}(j:Nat)(ho:o=9+j)(h:j+k≤3){r:List Value}(hr:((ints m.change.flat).drop j).take k=r):((VoteT.cells m).drop o).take k=r:=by subst ho;rw[←hr,fU];exact(kD m).sub (off:=9) 2 j k rfl rfl (by simp) h
theorem VoteT.wr_change_(m:VoteT){o:Nat}(j:Nat){vs:List Value}{u':ChangeT}(ho:o=9+j)(h:j+vs.length≤3)(hw:wr (ints m.change.flat) j vs=ints u'.flat):wr (VoteT.cells m) o vs=VoteT.cells ({m with change:=u'}:VoteT):=by subst ho;rw[fU,fU];exact(kD m).putIn (off:=9) 2 j vs rfl rfl (by simp) h hw
theorem VoteT.sp_change(m:VoteT):((VoteT.cells m).drop 9).take 3=ints m.change.flat:=VoteT.sub_change m 0 rfl (by decide) (bo ((aK _):(ints m.change.flat).length=3))
theorem VoteT.wp_change(m:VoteT)(u:ChangeT):wr (VoteT.cells m) 9 (ints u.flat)=VoteT.cells ({m with change:=u}:VoteT):=VoteT.wr_change_ m 0 rfl (by rw[bq];exact dB ((aK _):(ints u.flat).length=3)) (ct (Eq.trans ((aK _):(ints m.change.flat).length=3) (Eq.symm ((aK _):(ints u.flat).length=3))))
theorem VoteT.sub_best(m:VoteT){o k:Nat}(j:Nat)(ho:o=12+j)(h:j+k≤2){r:List Value}(hr:((ints m.best.flat).drop j).take k=r):((VoteT.cells m).drop o).take k=r:=by subst ho;rw[←hr,fU];exact(kD m).sub (off:=12) 3 j k rfl rfl (by simp) h
theorem VoteT.wr_best_(m:VoteT){o:Nat}(j:Nat){vs:List Value}{u':BallotT}(ho:o=12+j)(h:j+vs.length≤2)(hw:wr (ints m.best.flat) j vs=ints u'.flat):wr (VoteT.cells m) o vs=VoteT.cells ({m with best:=u'}:VoteT):=by subst ho;rw[fU,fU];exact(kD m).putIn (off:=12) 3 j vs rfl rfl (by simp) h hw
theorem VoteT.sp_best(m:VoteT):((VoteT.cells m).drop 12).take 2=ints m.best.flat:=VoteT.sub_best m 0 rfl (by decide) (bo ((ao _):(ints m.best.flat).length=2))
theorem VoteT.wp_best(m:VoteT)(u:BallotT):wr (VoteT.cells m) 12 (ints u.flat)=VoteT.cells ({m with best:=u}:VoteT):=VoteT.wr_best_ m 0 rfl (by rw[bq];exact dB ((ao _):(ints u.flat).length=2)) (ct (Eq.trans ((ao _):(ints m.best.flat).length=2) (Eq.symm ((ao _):(ints u.flat).length=2))))
theorem VoteT.at_vowed(m:VoteT){o:Nat}(ho:o=14):(VoteT.cells m)[o]?=some (Value.int .i64 m.vowed):=by subst ho;rw[fU];exact(kD m).at (off:=14) 4 0 rfl rfl (by simp) (by decide)
abbrev mh:= @VoteT.at_vowed
theorem VoteT.set_vowed(m:VoteT){o:Nat}(ho:o=14)(x:Int):(VoteT.cells m).set o (Value.int .i64 x)=VoteT.cells ({m with vowed:=x}:VoteT):=by subst ho;rw[fU,fU];exact(kD m).set (off:=14) 4 0 _ rfl rfl (by simp) (by decide)
theorem VoteT.at_took(m:VoteT){o:Nat}(ho:o=15):(VoteT.cells m)[o]?=some (Value.int .i64 m.took):=by subst ho;rw[fU];exact(kD m).at (off:=15) 5 0 rfl rfl (by simp) (by decide)
theorem VoteT.set_took(m:VoteT){o:Nat}(ho:o=15)(x:Int):(VoteT.cells m).set o (Value.int .i64 x)=VoteT.cells ({m with took:=x}:VoteT):=by subst ho;rw[fU,fU];exact(kD m).set (off:=15) 5 0 _ rfl rfl (by simp) (by decide)
theorem VoteT.at_putting(m:VoteT){o:Nat}(ho:o=16):(VoteT.cells m)[o]?=some (Value.bool m.putting):=by subst ho;rw[fU];exact(kD m).at (off:=16) 6 0 rfl rfl (by simp) (by decide)
abbrev mH:= @VoteT.at_putting
theorem VoteT.set_putting(m:VoteT){o:Nat}(ho:o=16)(x:Bool):(VoteT.cells m).set o (Value.bool x)=VoteT.cells ({m with putting:=x}:VoteT):=by subst ho;rw[fU,fU];exact(kD m).set (off:=16) 6 0 _ rfl rfl (by simp) (by decide)
abbrev lJ:= @VoteT.set_putting
theorem RepT.sl(m:RepT):SL [[Value.int .i64 m.id],[m.log],ints m.view.flat,ints m.own.flat,MirT.cells m.mirror,ints m.acc.flat,[Value.int .i64 m.round],[m.vote],ints m.book.flat,[Value.bool m.busy],[Value.int .i64 m.kept],[Value.int .i64 m.waits],[Value.int .i64 m.ops],[m.replies],ints m.told.toList,ints (m.last.toList.flatMap RowT.flat)] [1,1,7,174,875,8,1,1,870,1,1,1,1,1,5,870]:=(.cons rfl (.cons rfl (.cons (am _) (.cons (ag _) (.cons (qV _) (.cons (ba _) (.cons rfl (.cons rfl (.cons (yj _) (.cons rfl (.cons rfl (.cons rfl (.cons rfl (.cons rfl (.cons (by simp[ints]) (.cons (fO _) .nil))))))))))))))))
abbrev e7:= @RepT.sl
abbrev RepT.sg(m:RepT):List (List Value):=[[Value.int .i64 m.id],[m.log],ints m.view.flat,ints m.own.flat,MirT.cells m.mirror,ints m.acc.flat,[Value.int .i64 m.round],[m.vote],ints m.book.flat,[Value.bool m.busy],[Value.int .i64 m.kept],[Value.int .i64 m.waits],[Value.int .i64 m.ops],[m.replies],ints m.told.toList,ints (m.last.toList.flatMap RowT.flat)]
theorem RepT.eq(m:RepT):RepT.cells m=[[Value.int .i64 m.id],[m.log],ints m.view.flat,ints m.own.flat,MirT.cells m.mirror,ints m.acc.flat,[Value.int .i64 m.round],[m.vote],ints m.book.flat,[Value.bool m.busy],[Value.int .i64 m.kept],[Value.int .i64 m.waits],[Value.int .i64 m.ops],[m.replies],ints m.told.toList,ints (m.last.toList.flatMap RowT.flat)].flatten:=rfl
abbrev eP:= @RepT.eq
theorem RepT.len(m:RepT):(RepT.cells m).length=2818:=by rw[eP,(e7 m).len];rfl
abbrev cX:= @RepT.len
theorem RepT.at_id(m:RepT){o:Nat}(ho:o=0):(RepT.cells m)[o]?=some (Value.int .i64 m.id):=by subst ho;rw[eP];exact(e7 m).at (off:=0) 0 0 rfl rfl (by simp) (by decide)
abbrev cH:= @RepT.at_id
theorem RepT.at_log(m:RepT){o:Nat}(ho:o=1):(RepT.cells m)[o]?=some (m.log):=by subst ho;rw[eP];exact(e7 m).at (off:=1) 1 0 rfl rfl (by simp) (by decide)
theorem RepT.pt_view(m:RepT){o:Nat}(j:Nat)(ho:o=2+j)(h:j<7){r:Option Value}(hr:(ints m.view.flat)[j]?=r):(RepT.cells m)[o]?=r:=by subst ho;rw[←hr,eP];exact(e7 m).at (off:=2) 2 j rfl rfl (by simp) h
abbrev cg:= @RepT.pt_view
theorem RepT.sub_view(m:RepT){o k:Nat}(j:Nat)(ho:o=2+j)(h:j+k≤7){r:List Value}(hr:((ints m.view.flat).drop j).take k=r):((RepT.cells m).drop o).take k=r:=by subst ho;rw[←hr,eP];exact(e7 m).sub (off:=2) 2 j k rfl rfl (by simp) h
abbrev gB:= @RepT.sub_view
theorem RepT.wr_view_(m:RepT){o:Nat}(j:Nat){vs:List Value}{u':ViewT}(ho:o=2+j)(h:j+vs.length≤7)(hw:wr (ints m.view.flat) j vs=ints u'.flat):wr (RepT.cells m) o vs=RepT.cells ({m with view:=u'}:RepT):=by subst ho;rw[eP];refine((e7 m).putIn (off:=2) 2 j vs rfl rfl (by simp) h hw).trans ?_;simp only[RepT.cells,bU,bZ]
abbrev Q5:= @RepT.wr_view_
theorem RepT.sp_view(m:RepT):((RepT.cells m).drop 2).take 7=ints m.view.flat:=gB m 0 rfl (by decide) (bo ((am _):(ints m.view.flat).length=7))
abbrev cW:= @RepT.sp_view
theorem RepT.wp_view(m:RepT)(u:ViewT):wr (RepT.cells m) 2 (ints u.flat)=RepT.cells ({m with view:=u}:RepT):=Q5 m 0 rfl (by rw[bq];exact dB ((am _):(ints u.flat).length=7)) (ct (Eq.trans ((am _):(ints m.view.flat).length=7) (Eq.symm ((am _):(ints u.flat).length=7))))
theorem RepT.pt_own(m:RepT){o:Nat}(j:Nat)(ho:o=9+j)(h:j<174){r:Option Value}(hr:(ints m.own.flat)[j]?=r):(RepT.cells m)[o]?=r:=by subst ho;rw[←hr,eP];exact(e7 m).at (off:=9) 3 j rfl rfl (by simp) h
theorem RepT.sub_own(m:RepT){o k:Nat}(j:Nat)(ho:o=9+j)(h:j+k≤174){r:List Value}(hr:((ints m.own.flat).drop j).take k=r):((RepT.cells m).drop o).take k=r:=by subst ho;rw[←hr,eP];exact(e7 m).sub (off:=9) 3 j k rfl rfl (by simp) h
abbrev yR:= @RepT.sub_own
theorem RepT.wr_own_(m:RepT){o:Nat}(j:Nat){vs:List Value}{u':RowT}(ho:o=9+j)(h:j+vs.length≤174)(hw:wr (ints m.own.flat) j vs=ints u'.flat):wr (RepT.cells m) o vs=RepT.cells ({m with own:=u'}:RepT):=by subst ho;rw[eP];refine((e7 m).putIn (off:=9) 3 j vs rfl rfl (by simp) h hw).trans ?_;simp only[RepT.cells,bU,bZ]
abbrev Rs:= @RepT.wr_own_
theorem RepT.sp_own(m:RepT):((RepT.cells m).drop 9).take 174=ints m.own.flat:=yR m 0 rfl (by decide) (bo ((ag _):(ints m.own.flat).length=174))
abbrev Et:= @RepT.sp_own
theorem RepT.wp_own(m:RepT)(u:RowT):wr (RepT.cells m) 9 (ints u.flat)=RepT.cells ({m with own:=u}:RepT):=Rs m 0 rfl (by rw[bq];exact dB ((ag _):(ints u.flat).length=174)) (ct (Eq.trans ((ag _):(ints m.own.flat).length=174) (Eq.symm ((ag _):(ints u.flat).length=174))))
theorem RepT.around_mirror(m:RepT): ∃A B,RepT.cells m=A++(MirT.cells m.mirror++B)∧A.length=183∧∀u':MirT,RepT.cells ({m with mirror:=u'}:RepT)=A++(MirT.cells u'++B):=by
 obtain⟨A,B,h1,h2,h3⟩:=(e7 m).around (off:=183) 4 rfl rfl (by simp);exact⟨A,B,by rw[eP];exact h1,h2,λu'=>by rw[←h3];simp only[RepT.cells,bU,bZ]⟩
theorem RepT.arnd_mirror(m:RepT):Arnd (λu:MirT=>RepT.cells ({m with mirror:=u}:RepT)) (λu=>MirT.cells u) 183:=by
 obtain⟨A,B,_,h2,h3⟩:=RepT.around_mirror m;exact⟨A,B,h2,h3⟩
abbrev ei:= @RepT.arnd_mirror
theorem RepT.sub_acc(m:RepT){o k:Nat}(j:Nat)(ho:o=1058+j)(h:j+k≤8){r:List Value}(hr:((ints m.acc.flat).drop j).take k=r):((RepT.cells m).drop o).take k=r:=by subst ho;rw[←hr,eP];exact(e7 m).sub (off:=1058) 5 j k rfl rfl (by simp) h
abbrev yS:= @RepT.sub_acc
theorem RepT.wr_acc_(m:RepT){o:Nat}(j:Nat){vs:List Value}{u':AccT}(ho:o=1058+j)(h:j+vs.length≤8)(hw:wr (ints m.acc.flat) j vs=ints u'.flat):wr (RepT.cells m) o vs=RepT.cells ({m with acc:=u'}:RepT):=by subst ho;rw[eP];refine((e7 m).putIn (off:=1058) 5 j vs rfl rfl (by simp) h hw).trans ?_;simp only[RepT.cells,bU,bZ]
abbrev k8:= @RepT.wr_acc_
theorem RepT.at_round(m:RepT){o:Nat}(ho:o=1066):(RepT.cells m)[o]?=some (Value.int .i64 m.round):=by subst ho;rw[eP];exact(e7 m).at (off:=1066) 6 0 rfl rfl (by simp) (by decide)
abbrev vZ:= @RepT.at_round
theorem RepT.set_round(m:RepT){o:Nat}(ho:o=1066)(x:Int):(RepT.cells m).set o (Value.int .i64 x)=RepT.cells ({m with round:=x}:RepT):=by subst ho;rw[eP];refine((e7 m).set (off:=1066) 6 0 _ rfl rfl (by simp) (by decide)).trans ?_;simp only[RepT.cells,bU,bZ]
abbrev mn:= @RepT.set_round
theorem RepT.at_vote(m:RepT){o:Nat}(ho:o=1067):(RepT.cells m)[o]?=some (m.vote):=by subst ho;rw[eP];exact(e7 m).at (off:=1067) 7 0 rfl rfl (by simp) (by decide)
abbrev bX:= @RepT.at_vote
theorem RepT.set_vote(m:RepT){o:Nat}(ho:o=1067)(x:Value):(RepT.cells m).set o (x)=RepT.cells ({m with vote:=x}:RepT):=by subst ho;rw[eP];refine((e7 m).set (off:=1067) 7 0 _ rfl rfl (by simp) (by decide)).trans ?_;simp only[RepT.cells,bU,bZ]
abbrev Q6:= @RepT.set_vote
theorem RepT.around_book(m:RepT): ∃A B,RepT.cells m=A++(ints m.book.flat++B)∧A.length=1068∧∀u':BookT,RepT.cells ({m with book:=u'}:RepT)=A++(ints u'.flat++B):=by
 obtain⟨A,B,h1,h2,h3⟩:=(e7 m).around (off:=1068) 8 rfl rfl (by simp);exact⟨A,B,by rw[eP];exact h1,h2,λu'=>by rw[←h3];simp only[RepT.cells,bU,bZ]⟩
theorem RepT.arnd_book(m:RepT):Arnd (λu:BookT=>RepT.cells ({m with book:=u}:RepT)) (λu=>ints u.flat) 1068:=by
 obtain⟨A,B,_,h2,h3⟩:=RepT.around_book m;exact⟨A,B,h2,h3⟩
abbrev fV:= @RepT.arnd_book
theorem RepT.at_busy(m:RepT){o:Nat}(ho:o=1938):(RepT.cells m)[o]?=some (Value.bool m.busy):=by subst ho;rw[eP];exact(e7 m).at (off:=1938) 9 0 rfl rfl (by simp) (by decide)
abbrev yT:= @RepT.at_busy
theorem RepT.set_busy(m:RepT){o:Nat}(ho:o=1938)(x:Bool):(RepT.cells m).set o (Value.bool x)=RepT.cells ({m with busy:=x}:RepT):=by subst ho;rw[eP];refine((e7 m).set (off:=1938) 9 0 _ rfl rfl (by simp) (by decide)).trans ?_;simp only[RepT.cells,bU,bZ]
abbrev Q8:= @RepT.set_busy
theorem RepT.at_kept(m:RepT){o:Nat}(ho:o=1939):(RepT.cells m)[o]?=some (Value.int .i64 m.kept):=by subst ho;rw[eP];exact(e7 m).at (off:=1939) 10 0 rfl rfl (by simp) (by decide)
abbrev sC:= @RepT.at_kept
theorem RepT.set_kept(m:RepT){o:Nat}(ho:o=1939)(x:Int):(RepT.cells m).set o (Value.int .i64 x)=RepT.cells ({m with kept:=x}:RepT):=by subst ho;rw[eP];refine((e7 m).set (off:=1939) 10 0 _ rfl rfl (by simp) (by decide)).trans ?_;simp only[RepT.cells,bU,bZ]
abbrev Q7:= @RepT.set_kept
theorem RepT.at_waits(m:RepT){o:Nat}(ho:o=1940):(RepT.cells m)[o]?=some (Value.int .i64 m.waits):=by subst ho;rw[eP];exact(e7 m).at (off:=1940) 11 0 rfl rfl (by simp) (by decide)
theorem RepT.set_waits(m:RepT){o:Nat}(ho:o=1940)(x:Int):(RepT.cells m).set o (Value.int .i64 x)=RepT.cells ({m with waits:=x}:RepT):=by subst ho;rw[eP];refine((e7 m).set (off:=1940) 11 0 _ rfl rfl (by simp) (by decide)).trans ?_;simp only[RepT.cells,bU,bZ]
theorem RepT.at_ops(m:RepT){o:Nat}(ho:o=1941):(RepT.cells m)[o]?=some (Value.int .i64 m.ops):=by subst ho;rw[eP];exact(e7 m).at (off:=1941) 12 0 rfl rfl (by simp) (by decide)
theorem RepT.set_ops(m:RepT){o:Nat}(ho:o=1941)(x:Int):(RepT.cells m).set o (Value.int .i64 x)=RepT.cells ({m with ops:=x}:RepT):=by subst ho;rw[eP];refine((e7 m).set (off:=1941) 12 0 _ rfl rfl (by simp) (by decide)).trans ?_;simp only[RepT.cells,bU,bZ]
theorem RepT.at_replies(m:RepT){o:Nat}(ho:o=1942):(RepT.cells m)[o]?=some (m.replies):=by subst ho;rw[eP];exact(e7 m).at (off:=1942) 13 0 rfl rfl (by simp) (by decide)
theorem RepT.set_replies(m:RepT){o:Nat}(ho:o=1942)(x:Value):(RepT.cells m).set o (x)=RepT.cells ({m with replies:=x}:RepT):=by subst ho;rw[eP];refine((e7 m).set (off:=1942) 13 0 _ rfl rfl (by simp) (by decide)).trans ?_;simp only[RepT.cells,bU,bZ]
theorem RepT.pt_told(m:RepT){o:Nat}(j:Nat)(ho:o=1943+j)(h:j<5){r:Option Value}(hr:(ints m.told.toList)[j]?=r):(RepT.cells m)[o]?=r:=by subst ho;rw[←hr,eP];exact(e7 m).at (off:=1943) 14 j rfl rfl (by simp) h
abbrev Rt:= @RepT.pt_told
theorem RepT.st_told(m:RepT){o:Nat}(j:Nat){v:Value}{u':Vector Int 5}(ho:o=1943+j)(h:j<5)(hw:(ints m.told.toList).set j v=ints u'.toList):(RepT.cells m).set o v=RepT.cells ({m with told:=u'}:RepT):=by subst ho;rw[eP];refine((e7 m).set (off:=1943) 14 j v rfl rfl (by simp) h).trans ?_;rw[hw];simp only[RepT.cells,bU,bZ]
theorem RepT.pt_last(m:RepT){o:Nat}(j:Nat)(ho:o=1948+j)(h:j<870){r:Option Value}(hr:(ints (m.last.toList.flatMap RowT.flat))[j]?=r):(RepT.cells m)[o]?=r:=by subst ho;rw[←hr,eP];exact(e7 m).at (off:=1948) 15 j rfl rfl (by simp) h
theorem RepT.sub_last(m:RepT){o k:Nat}(j:Nat)(ho:o=1948+j)(h:j+k≤870){r:List Value}(hr:((ints (m.last.toList.flatMap RowT.flat)).drop j).take k=r):((RepT.cells m).drop o).take k=r:=by subst ho;rw[←hr,eP];exact(e7 m).sub (off:=1948) 15 j k rfl rfl (by simp) h
theorem RepT.wr_last_(m:RepT){o:Nat}(j:Nat){vs:List Value}{u':Vector RowT 5}(ho:o=1948+j)(h:j+vs.length≤870)(hw:wr (ints (m.last.toList.flatMap RowT.flat)) j vs=ints (u'.toList.flatMap RowT.flat)):wr (RepT.cells m) o vs=RepT.cells ({m with last:=u'}:RepT):=by subst ho;rw[eP];refine((e7 m).putIn (off:=1948) 15 j vs rfl rfl (by simp) h hw).trans ?_;simp only[RepT.cells,bU,bZ]
def fx(n:Int):Int:=IntKind.i64.wrap n
theorem lj{n:Int}(h1: -9223372036854775808≤n)(h2:n≤9223372036854775807):fx n=n:=bK h1 h2
def m5(key:Int):Bool:=decide (0≤key∧key<4)
theorem cS{w:Int}(h:cI w=true):w.toNat<5:=by have:0≤w∧w<5:=of_decide_eq_true h;omega
theorem uO{k:Int}(h:m5 k=true):k.toNat<4:=by have:0≤k∧k<4:=of_decide_eq_true h;omega
def tR(key n:Int):Bool:=m5 key&&decide (1≤n)&&Do n
def cellAt(x:RowT)(key:Int):CellT:=if h:m5 key=true then x.cells[key.toNat]'(uO h)else .zero
def eF(x:RowT)(key:Int)(c:CellT):RowT:=if h:m5 key=true then {x with cells:=x.cells.set key.toNat c (uO h)}else x
def jJ(x:RowT)(key n counts:Int)(c:CellT):RowT×Int:=
 if counts>1099511627776-n then(.zero,6)else({eF x key c with version:=fx (x.version+1)},0)
def pk(x:RowT)(key n:Int):RowT×Int:=
 if tR key n then jJ x key n (cellAt x key).inn {cellAt x key with inn:=fx ((cellAt x key).inn+n)}else(.zero,5)
def pm(x:RowT)(key n:Int):RowT×Int:=
 if tR key n then jJ x key n (cellAt x key).out {cellAt x key with out:=fx ((cellAt x key).out+n)}else(.zero,5)
def iB(c:CellT)(to:Int):Int:=if h:cI to=true then c.given[to.toNat]'(cS h)else 0
def qK(c:CellT)(to v:Int):CellT:=if h:cI to=true then {c with given:=c.given.set to.toNat v (cS h)}else c
def sumG(c:CellT):Int:=c.given.toList.foldl (λs g=>fx (s+g)) 0
def lV(x:RowT)(key n to:Int):RowT×Int:=
 if cI to&&tR key n then jJ x key n (sumG (cellAt x key)) (qK (cellAt x key) to (fx (iB (cellAt x key) to+n)))else(.zero,5)
def ownAt(x:RowT)(who:Int)(i:Nat):Bool:=decide ((i:Int)=who)||decide (0<x.heir.toList.getD i 0)
def iM(x:RowT)(who:Int)(k:Nat):List Int:=((List.range k).filter (ownAt x who)).map λi=>((i:Nat):Int)
def fX(x:RowT)(who:Int):List Int:=iM x who 5
theorem r9(x:RowT)(who:Int)(k:Nat):iM x who (k+1)=iM x who k++(if ownAt x who k then [((k:Nat):Int)]else []):=by
 unfold iM;rw[de,List.filter_append,ec]
 by_cases h:ownAt x who k=true<;>simp[h]
theorem xp(x:RowT)(who:Int){i:Nat}(h:i<5):ownAt x who i=(decide ((i:Int)=who)||decide (0<x.heir[i])):=by simp[ownAt,h]
theorem zK(x:RowT)(who:Int)(k:Nat):(iM x who k).length≤k:=by
 unfold iM;rw[bY];exact jT (BY _ _) (by simp)
def heirAt(x:RowT)(of':Int):Int:=if h:cI of'=true then x.heir[of'.toNat]'(cS h)else 0
def leftAt(x:RowT)(of' key:Int):CellT:=if h:cI of'=true∧m5 key=true then(x.left[of'.toNat]'(cS h.1))[key.toNat]'(uO h.2)else .zero
def rowCell(x:RowT)(who of' key:Int):CellT×Int:=
 if cI who&&cI of'&&m5 key then(if of'=who then(cellAt x key,x.version)else if heirAt x of'>0 then(leftAt x of' key,fx (heirAt x of'-1))else(.zero, -1))else(.zero, -1)
def ix(who:Int):List Int:=if cI who then [(who+1)%5,(who+2)%5]else []
def cj(b:BookT)(who:Int):RowT:=if h:cI who=true then b.rows[who.toNat]'(cS h)else .zero
theorem x9(b:BookT){k:Nat}(h:k<5):cj b ((k:Nat):Int)=b.rows[k]:=by rw[cj,dif_pos (show cI ((k:Nat):Int)=true from decide_eq_true ⟨by omega,by omega⟩)];rfl
def xk(b:BookT)(who:Int)(x:RowT):BookT:=if h:cI who=true then {b with rows:=b.rows.set who.toNat x (cS h)}else b
def eU(b:BookT)(who:Int)(x:RowT):BookT×Bool:=
 if cI who&&fy x&&decide (x.version>(cj b who).version)then(xk b who x,true)else(b,false)
def qQ(b:BookT)(of' key:Int)(s:CellT×Int)(i:Nat):CellT×Int:=
 let c:=rowCell (cj b i) i of' key
 if c.2>s.2 then c else s
def pJ(b:BookT)(of' key:Int)(k:Nat):CellT×Int:=(List.range k).foldl (qQ b of' key) (.zero, -1)
def cE(b:BookT)(of' key:Int):CellT:=(pJ b of' key 5).1
theorem og(b:BookT)(of' key:Int)(k:Nat):pJ b of' key (k+1)=qQ b of' key (pJ b of' key k) k:=by
 unfold pJ;rw[de,fk];rfl
def valueTo(b:BookT)(key:Int)(k:Nat):Int:=(List.range k).foldl (λv (i:Nat)=>fx (v+fx ((cE b i key).inn- (cE b i key).out))) 0
def ni(b:BookT)(key:Int):Int:=valueTo b key 5
theorem pd(b:BookT)(key:Int)(k:Nat):valueTo b key (k+1)=fx (valueTo b key k+fx ((cE b k key).inn- (cE b k key).out)):=by
 unfold valueTo;rw[de,fk];rfl
def rightsIn(b:BookT)(key of':Int)(r:Int)(k:Nat):Int:=(List.range k).foldl (λr (i:Nat)=>fx (r+fx (iB (cE b i key) of'-iB (cE b of' key) i))) r
theorem ox(b:BookT)(key of' r:Int)(k:Nat):rightsIn b key of' r (k+1)=fx (rightsIn b key of' r k+fx (iB (cE b k key) of'-iB (cE b of' key) k)):=by
 unfold rightsIn;rw[de,fk];rfl
def lL(b:BookT)(key r of':Int):Int:=rightsIn b key of' (fx (r+fx ((cE b of' key).inn- (cE b of' key).out))) 5
def dG(b:BookT)(who key:Int):Int:=if cI who then(fX (cj b who) who).foldl (lL b key) 0 else 0
theorem Fe(x:RowT)(who:Int): ∀n∈fX x who,0≤n∧n<5:=by
 intro n hn;simp only[fX,iM,gd,List.mem_filter,eX]at hn;obtain⟨i,⟨hi,_⟩,rfl⟩:=hn;omega
theorem xH(c:CellT){k:Nat}(h:k<5):iB c ((k:Nat):Int)=c.given[k]:=by rw[iB,dif_pos (show cI ((k:Nat):Int)=true from decide_eq_true ⟨by omega,by omega⟩)];rfl
def mirRow(m:MirT)(who:Int):RowT:=if h:cI who=true then m.rows[who.toNat]'(cS h)else .zero
def eS(m:MirT)(who:Int):Bool:=if h:cI who=true then m.sealed[who.toNat]'(cS h)else false
def gX(m:MirT)(who:Int)(x:RowT):Bool:=cI who&& !eS m who&&fy x&&decide (x.version>(mirRow m who).version)
def sc(m:MirT)(who:Int)(x:RowT):MirT:=if h:cI who=true then {m with rows:=m.rows.set who.toNat x (cS h)}else m
def iz(m:MirT)(who:Int)(x:RowT):MirT×Bool:=if gX m who x then(sc m who x,true)else(m,false)
def je(m:MirT)(who:Int):MirT:=if h:cI who=true then {m with sealed:=m.sealed.set who.toNat true (cS h)}else m
end Api
end

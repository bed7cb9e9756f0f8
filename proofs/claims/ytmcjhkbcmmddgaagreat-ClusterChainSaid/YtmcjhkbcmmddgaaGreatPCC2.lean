/-
  Joined texts:what a statement's proof reaches.
-/
import Derived.Test.YtmcjhkbcmmddgaaGreatPCC1
set_option maxHeartbeats 8000000
set_option maxRecDepth 100000
set_option linter.unusedSimpArgs false
set_option linter.unusedVariables false
section
namespace Leg
open Go Codec Api
def RdX(S:World→Prop)(b:Nat)(xs:List Value):Prop:=∀w,S w→∀j v,xs[j]?=some v→w.cell? ⟨b,j,none⟩=some v
theorem RdX.own{H:List HP}{F:Hl}{g cap n:Nat}{xs:List Value}{e size:Nat}(i:Nat)(hi:Nat.blt i H.length=true){v:Value}(hv:v= .slice (some ⟨g,0,none⟩) n cap)(hH:H.getD i (λ_=>True)=Leg.own v n xs e size):RdX (Sat H F) g xs:=λw s j u h=>by
 subst hv;obtain⟨cur,h1,_,_,_,h2⟩:=s.own_block (lb hi) hH;subst h2;rw[List.getElem?_take]at h;split at h
 · simpa [World.cell?,h1]using h
 · cases h
abbrev gO:= @RdX.own
theorem RdX.frm{S:World→Prop}{F:Hl}{b:Nat}{cs:List Value}{T:TypeId}{z:Nat×Nat}(e:F b=some (.cells (List.toArray cs) T z))(hS: ∀w,S w→Frm F w):RdX S b cs:=λw s j u h=>by
 rw[oF (hS w s b _ e)];exact h
abbrev DU:= @RdX.frm
section
variable {P:Program} {w0:World} {F:Hl} {n:Nat} {ops:Array Oper} {Q:QQ} {D:List Deferred} {L:List (Nat×Value)} {H:List HP} {o:Oper} {l:List Oper} {d:Nat} {S:World→Prop}
theorem PV.load1X{t:TypeId}{x:Operand}{dt:TypeDesc}{b j:Nat}{xs:List Value}{v:Value}(ho:o.op= .load t x)
 (ht:P.underlying t=some dt) (hp:eG dt=true) (hx:cI L x=some (.pointer (some ⟨b,j,none⟩))) (hR:RdX S b xs) (hc:xs[j]?=some v):PV P n D L S o (v):=
 λa w f m=>by
  simp[execOp,ho,f.eval hx,yY ht hp (hR w m j v hc)]
abbrev de:= @PV.load1X
theorem PV.loadNX{t:TypeId}{x:Operand}{dt:TypeDesc}{b j m:Nat}{xs vs:List Value}(ho:o.op= .load t x)
 (ht:P.underlying t=some dt) (hp:eG dt=false) (hm:(P.info? t).map (·.size)=some m) (hx:cI L x=some (.pointer (some ⟨b,j,none⟩))) (hR:RdX S b xs)
 (hl:vs.length=m) (hc:(xs.drop j).take m=vs):PV P n D L S o (.agg vs.toArray):=
 λa w f s=>by
  have:=yX (P:=P) (w:=w) ht hp (b:=b) (o:=j) hm hl (λi v e=>by
   subst hc;rw[List.getElem?_take]at e;split at e
   · exact hR w s _ v (by simpa using e)
   · cases e)
  simp[execOp,ho,f.eval hx,this]
abbrev Qf:= @PV.loadNX
theorem PV.indexSlV{t e:TypeId}{x y:Operand}{v:Value}{b j len cap s r:Nat}{k:IntKind}{i:Int}(hv:v= .slice (some ⟨b,j,none⟩) len cap)(ho:o.op= .indexAddr t x y)(ht:P.underlying t=some (.slice e))
 (hs:(P.info? e).map (·.size)=some s) (hx:cI L x=some v) (hy:cI L y=some (.int k i)) (h0:0≤i) (h1:i<len) (hr:j+i.toNat*s=r):PV P n D L S o (.pointer (some ⟨b,r,none⟩)):=
 jW ho ht hs (by rw[←hv];exact hx) hy h0 h1 hr
abbrev ca:= @PV.indexSlV
theorem Sat.own_at{w:World}{v:Value}{nn e size:Nat}{xs:List Value}(i:Nat)(s:Sat H F w)(hi:Nat.blt i H.length=true)(hH:H.getD i (λ_=>True)=own v nn xs e size)(hpos:0<nn):
 ∃g cap,v= .slice (some ⟨g,0,none⟩) nn cap∧(nn≤cap∧cap≤9223372036854775807):=by
 rcases s.own_form (lb hi) hH with⟨_,h0,_⟩| ⟨g,cap,rfl⟩
 · omega
 · obtain⟨_,_,h1,h2,_⟩:=s.own_block (lb hi) hH
   exact⟨g,cap,rfl,h1,by simpa [maxLen]using h2⟩
theorem TC.ownAt{c:Code}{v:Value}{nn e size:Nat}{xs:List Value}(i:Nat)(hi:Nat.blt i H.length=true)(hH:H.getD i (λ_=>True)=own v nn xs e size)(hpos:0<nn)
 (h: ∀g cap,v= .slice (some ⟨g,0,none⟩) nn cap→nn≤cap∧cap≤9223372036854775807→TC P w0 F n c Q D L H):TC P w0 F n c Q D L H:=λa w f s m=>
 let ⟨g,cap,hv,hc⟩:=m.own_at i hi hH hpos;h g cap hv hc a w f s m
theorem TL.ownAt{v:Value}{nn e size:Nat}{xs:List Value}(i:Nat)(hi:Nat.blt i H.length=true)(hH:H.getD i (λ_=>True)=own v nn xs e size)(hpos:0<nn)
 (h: ∀g cap,v= .slice (some ⟨g,0,none⟩) nn cap→nn≤cap∧cap≤9223372036854775807→TL P w0 F n ops Q l D L H):TL P w0 F n ops Q l D L H:=λa w f s m=>
 let ⟨g,cap,hv,hc⟩:=m.own_at i hi hH hpos;h g cap hv hc a w f s m
abbrev kl:= @TL.ownAt
theorem TL.fact{p:Prop}(hp: ∀w,Sat H F w→p)(h:p→TL P w0 F n ops Q l D L H):TL P w0 F n ops Q l D L H:=λa w f s m=>h (hp w m) a w f s m
abbrev yu:= @TL.fact
end
def IsW(v:Value)(bs:List UInt8)(F:Hl):Prop:=IsB v bs F∨∃a c,v= .slice (some a) 0 c∧bs=[]
theorem IsB.w{v:Value}{bs:List UInt8}{F:Hl}(h:IsB v bs F):IsW v bs F:= .inl h
abbrev L6:= @IsB.w
theorem IsW.more{v:Value}{bs:List UInt8}{F g:Hl}(h:IsW v bs F)(d:Dj g F):IsW v bs (jn g F):=h.imp (λx=>x.more d) id
abbrev Oz:= @IsW.more
theorem IsW.len{v:Value}{bs:List UInt8}{F:Hl}(h:IsW v bs F):pB v bs.length:=by
 rcases h with h| ⟨a,c,rfl,rfl⟩
 · exact h.len
 · exact⟨_,_,rfl⟩
theorem IsW.one{v:Value}{bs:List UInt8}{F:Hl}(h:IsW v bs F):v.oneCell'=true:=by
 rcases h with h| ⟨a,c,rfl,rfl⟩
 · exact h.one
 · rfl
theorem IsW.src{v:Value}{bs:List UInt8}{F:Hl}(h:IsW v bs F){S:World→Prop}(hS: ∀w,S w→Frm F w):Src S v bs.length (eS bs) 1:=by
 rcases h with h| ⟨a,c,rfl,rfl⟩
 · exact h.src hS
 · exact⟨rfl, .inr ⟨a,c,rfl,λw s j u hj=>by simp[eS]at hj⟩⟩
theorem IsW.at{v:Value}{bs:List UInt8}{F:Hl}(h:IsW v bs F){j:Nat}(hj:j<bs.length):
 ∃b off cap cs T z,v= .slice (some ⟨b,off,none⟩) bs.length cap∧F b=some (.cells (List.toArray cs) T z)∧(∀j,j<bs.length→cs[off+j]?=some (.int .u8 ((bs.getD j 0).toNat:Nat)))∧bs.length≤cap:=by
 rcases h with(⟨_,rfl⟩| ⟨b,off,cap,cs,T,z,h0,h1,h2,h3,h4⟩)| ⟨a,c,rfl,rfl⟩
 · simp at hj
 · exact⟨b,off,cap,cs,T,z,h0,h3,h4,h1⟩
 · simp at hj
def pack{α:Type}(p:α→List HP):HP:=λh=>∃x,bN (p x) h
theorem fL{α:Type}{p:α→List HP}{H:List HP}{h:Hl}(s:bN (pack p::H) h): ∃x,bN (p x++H) h:=by
 obtain⟨h1,h2,d,rfl,⟨x,a⟩,b⟩:=s;exact⟨x,(cj _ _).2 ⟨h1,h2,d,rfl,a,b⟩⟩
theorem br{α:Type}{p:α→List HP}{H:List HP}{h:Hl}(x:α)(s:bN (p x++H) h):bN (pack p::H) h:=
 cE ((cj _ _).1 s) (λ_ a=>⟨x,a⟩) λ_ b=>b
section
variable {P:Program}
theorem Does.pack{α:Type}{f:FuncId}{args:Array Value}{R:Hl→Prop}{p:α→List HP}{B:List HP}{post:Ending→List HP→Prop}(s: ∀x,Does P f args R (p x++B) post):Does P f args R (Leg.pack p::B) post:=λw F r ⟨h,d,e,t⟩=>
 let ⟨x,t'⟩:=fL t;s x w F r ⟨h,d,e,t'⟩
theorem Does.ex{α:Sort _}{f:FuncId}{args:Array Value}{R:Hl→Prop}{A:List HP}{A':α→List HP}{post:Ending→List HP→Prop}(m: ∀h,bN A h→∃x,bN (A' x) h)(s: ∀x,Does P f args R (A' x) post):Does P f args R A post:=λw F r ⟨h,d,e,t⟩=>
 let ⟨x,t'⟩:=m h t;s x w F r ⟨h,d,e,t'⟩
theorem Does.fold{f:FuncId}{args:Array Value}{R:Hl→Prop}{A:List HP}{post post':Ending→List HP→Prop}(s:Does P f args R A post)
 (hpost: ∀e H,post e H→∃H',(∀h,bN H h→bN H' h)∧post' e H'):Does P f args R A post':=
 s.conv (λ_ h=>h) λe H F w c m=>let ⟨H',h1,h2⟩:=hpost e H c;⟨H',m.mono h1,h2⟩
theorem Does.withinR{f:FuncId}{args:Array Value}{R:Hl→Prop}{A B C:List HP}{p p':Value→List HP→Prop}(s:Does P f args R A (dL p))(hR: ∀F g,R F→Dj g F→R (jn g F))(hA: ∀h,bN C h→bN (A++B) h)
 (hp: ∀v H,p v H→∃H',(∀h,bN (H++B) h→bN H' h)∧p' v H'):Does P f args R C (dL p'):=λw F r m=>by
 obtain⟨g,d,b,m'⟩:=Sat.split (m.mono hA);refine(s w _ (hR F g r d) m').mono ?_
 rintro e w' ⟨s',H',m'',q⟩
 cases e with
 |returned v=>obtain⟨H2,h1,h2⟩:=hp v H' q;exact⟨s',H2,(m''.merge d b).mono h1,h2⟩
 |panicked c=>exact q.elim
 |outgrown=>exact q.elim
end
end Leg
namespace Leg
open Go Codec Api
section
variable {P:Program} {n:Nat} {D:List Deferred} {L:List (Nat×Value)} {S:World→Prop} {o:Oper}
theorem PV.to{v v':Value}(h:PV P n D L S o v)(e:v=v'):PV P n D L S o v':=e▸h
abbrev Qd:= @PV.to
theorem PV.sliceArrHi{t e len:Nat}{x y:Operand}{b j s k:Nat}{kk:IntKind}{i:Int}(ho:o.op= .slice t x none (some y) none)(ht:P.underlying t=some (.array len e))(hs:(P.info? e).map (·.size)=some s)(hx:cI L x=some (.pointer (some ⟨b,j,none⟩)))
 (hy:cI L y=some (.int kk i)) (hk:i=(k:Int)) (h1:k≤len) (hl:Nat.blt 0 len=true):PV P n D L S o (.slice (some ⟨b,j,none⟩) k len):=λa w g _=>by
 subst hk;have h0: ¬len=0:=by have:=lb hl;omega
 simp[execOp,ho,g.eval hx,g.eval hy,Instr.sliceAt,run_underlying ht,Instr.sureAddr,Instr.sliceBounds,Instr.sliceBound,asIntOf,h1,eu hs,qy]
abbrev P7:= @PV.sliceArrHi
end
def Hm(m:Nat)(kv:List (Int×Value))(w:World):Prop:=∃es clock,w.heap[m]?=some (.map (List.toArray es) clock)∧jx es=jZ kv
def Hx(b:Nat)(xs:List Value)(w:World):Prop:=∀j v,xs[j]?=some v→w.cell? ⟨b,j,none⟩=some v
theorem im(e size:Nat){H:List HP}{h:Hl}(s:bN H h):bN (own (.slice none 0 0) 0 [] e size::H) h:=
 ⟨em,h,DO h,(ra h).symm,⟨by simp, .inl ⟨rfl,rfl,rfl⟩⟩,s⟩
end Leg
namespace Leg
open Go Codec Api
def IsL{α:Type}(size:Nat)(E:List Value→α→Hl→Prop)(v:Value)(l:List α)(F:Hl):Prop:=
 (v= .slice none 0 0∧l=[])∨(∃a c,v= .slice (some a) 0 c∧l=[])∨
 ∃b off cap cs T z,v= .slice (some ⟨b,off,none⟩) l.length cap∧l.length≤cap∧cap≤9223372036854775807∧F b=some (.cells (List.toArray cs) T z)∧
  ∀j (h:j<l.length),∃us,us.length=size∧(cs.drop (off+j*size)).take size=us∧E us l[j] F
section
variable {α:Type} {size:Nat} {E:List Value→α→Hl→Prop} {v:Value} {l:List α} {F g:Hl}
theorem IsL.len(h:IsL size E v l F):pB v l.length:=by
 rcases h with⟨rfl,rfl⟩| ⟨a,c,rfl,rfl⟩| ⟨b,off,cap,cs,T,z,rfl,_⟩<;>exact⟨_,_,rfl⟩
theorem IsL.more(hE: ∀us x F g,E us x F→Dj g F→E us x (jn g F))(h:IsL size E v l F)(d:Dj g F):IsL size E v l (jn g F):=by
 rcases h with h|h| ⟨b,off,cap,cs,T,z,h0,h1,h2,h3,h4⟩
 · exact .inl h
 · exact .inr (.inl h)
 · exact .inr (.inr ⟨b,off,cap,cs,T,z,h0,h1,h2,Le.right d _ _ h3,λj hj=>let ⟨us,e1,e2,e3⟩:=h4 j hj;⟨us,e1,e2,hE _ _ _ _ e3 d⟩⟩)
theorem IsL.at(h:IsL size E v l F){j:Nat}(hj:j<l.length):
 ∃b off cap cs T z us,v= .slice (some ⟨b,off,none⟩) l.length cap∧(l.length≤cap∧cap≤9223372036854775807)∧F b=some (.cells (List.toArray cs) T z)∧us.length=size∧(cs.drop (off+j*size)).take size=us∧E us l[j] F:=by
 rcases h with⟨_,rfl⟩| ⟨a,c,_,rfl⟩| ⟨b,off,cap,cs,T,z,h0,h1,h2,h3,h4⟩
 · simp at hj
 · simp at hj
 · obtain⟨us,e1,e2,e3⟩:=h4 j hj
   exact⟨b,off,cap,cs,T,z,us,h0,⟨h1,h2⟩,h3,e1,e2,e3⟩
end
theorem BQ{cs us:List Value}{o n j:Nat}{v:Value}(h:(cs.drop o).take n=us)(hj:us[j]?=some v):cs[o+j]?=some v:=by
 subst h;rw[List.getElem?_take]at hj;split at hj
 · simpa using hj
 · cases hj
def EB(us:List Value)(bs:List UInt8)(F:Hl):Prop:=∃u,us=[u]∧IsW u bs F
abbrev OA(v:Value)(l:List (List UInt8))(F:Hl):Prop:=IsL 1 EB v l F
end Leg
namespace Leg
open Go Codec Api
theorem KK(i:Nat){g T:Nat}{bs:List UInt8}{B:List HP}{F:Hl}(hl:bs.length≤9223372036854775807)(hi:Nat.blt i B.length=true)(e:B.getD i (λ_=>True)=an g (eS bs) T): ∀h,Dj h F→bN B h→IsB (.slice (some ⟨g,0,none⟩) bs.length bs.length) bs (jn h F):=λh d s=>
 .inr ⟨g,0,bs.length,eS bs,T,(0,0),rfl,aM _,hl,sP i hi e h d s,λj hj=>by simp[eS,List.getD_eq_getElem?_getD,hj]⟩
section
variable {P:Program} {n:Nat} {D:List Deferred} {L:List (Nat×Value)} {S:World→Prop} {o:Oper}
theorem PV.ptrNil{t t':TypeId}{x y:Operand}{a:Addr}(ho:o.op= .binOp .eql t x y t')(ht:P.underlying t=some (.pointer (P.pointee t)))(hx:cI L x=some (.pointer (some a)))(hy:cI L y=some (.pointer none)):PV P n D L S o (.bool false):=
 gY ho hx hy λw=>by
  have:=run_eql_pointer_nil (P:=P) w t (some a) ht
  simpa [eqGuard]using this
abbrev km:= @PV.ptrNil
theorem PV.nilPtrNil{t t':TypeId}{x y:Operand}(ho:o.op= .binOp .eql t x y t')(ht:P.underlying t=some (.pointer (P.pointee t)))(hx:cI L x=some (.pointer none))(hy:cI L y=some (.pointer none)):PV P n D L S o (.bool true):=
 gY ho hx hy λw=>by
  have:=run_eql_pointer_nil (P:=P) w t none ht
  simpa [eqGuard]using this
abbrev Qs:= @PV.nilPtrNil
theorem PV.ptrNotNil{t t':TypeId}{x y:Operand}{a:Addr}(ho:o.op= .binOp .neq t x y t')(ht:P.underlying t=some (.pointer (P.pointee t)))(hx:cI L x=some (.pointer (some a)))(hy:cI L y=some (.pointer none)):PV P n D L S o (.bool true):=
 gY ho hx hy λw=>by
  have:=run_neq_pointer_nil (P:=P) w t (some a) ht
  simpa [eqGuard]using this
abbrev jI:= @PV.ptrNotNil
theorem PV.nilPtrNotNil{t t':TypeId}{x y:Operand}(ho:o.op= .binOp .neq t x y t')(ht:P.underlying t=some (.pointer (P.pointee t)))(hx:cI L x=some (.pointer none))(hy:cI L y=some (.pointer none)):PV P n D L S o (.bool false):=
 gY ho hx hy λw=>by
  have:=run_neq_pointer_nil (P:=P) w t none ht
  simpa [eqGuard]using this
abbrev jo:= @PV.nilPtrNotNil
end
end Leg
namespace Leg
open Go Codec Api
section
variable {P:Program} {n:Nat} {D:List Deferred} {L:List (Nat×Value)} {S:World→Prop} {o:Oper}
end
end Leg
namespace Leg
open Go
section
variable {P:Program} {w0:World} {F:Hl} {n:Nat} {Q:QQ} {D:List Deferred} {L:List (Nat×Value)} {H:List HP}
theorem TC.cut{α:Type}{c:Code}{K:Act→World→Prop}(Inv:α→Prop)(Lf:α→List (Nat×Value))(Hf:α→List HP)(tail: ∀x,Inv x→TE w0 F n (Exit.then K Q) .normal D (Lf x) (Hf x))
 (main:(∀x,Inv x→TE w0 F n (Exit.then K Q) .normal D (Lf x) (Hf x))→TC P w0 F n c (Exit.then K Q) D L H):TC P w0 F n c (Exit.then K Q) D L H:=main tail
abbrev fo:= @TC.cut
end
open Codec Api
def zq:Lit→Option (Option IntKind)
 | .int q _=>some (some q)
 | .bool _=>some none
 |_=>none
def jj:Lit→Value
 | .int q n=> .int q n
 | .bool b=> .bool b
 |_=>undef
def qn(P:Program)(g:TypeId→Option (List (Option IntKind))):List Field→Nat→Option (List (Option IntKind))
 | [],_=>some []
 |f::fs,o=>match g f.type with
  |some c=>if f.offset=o∧P.cellsOf f.type=c.length then(qn P g fs (o+c.length)).map (c++ ·)else none
  |none=>none
def mz(P:Program):Nat→TypeId→Option (List (Option IntKind))
 |0,_=>none
 |d+1,t=>match P.underlying t with
  |some (.int q)=>some [some q]
  |some .bool=>some [none]
  |some (.array n e)=>match mz P d e with
   |some c=>if P.cellsOf e=c.length∧P.cellsOf t=n*c.length then some (List.replicate n c).flatten else none
   |none=>none
  |some (.struct fs)=>match qn P (mz P d) fs.toList 0 with
   | some m => if P.cellsOf t = m.length ∧ fs.all (·.name != "_") = true then some m else none
   |none=>none
  |_=>none
def Fits(ks:List (Option IntKind))(ls:List Lit):Prop:=ls.map zq=ks.map some∧∀l∈ls,l.wf=true
theorem Fits.len{ks:List (Option IntKind)}{ls:List Lit}(h:Fits ks ls):ls.length=ks.length:=by
 have:=congrArg List.length h.1
 simpa using this
theorem Fits.sub{ks:List (Option IntKind)}{ls:List Lit}(h:Fits ks ls)(a b:Nat):Fits ((ks.drop a).take b) ((ls.drop a).take b):=
 ⟨by rw[pT,ll,h.1,pT,ll],λl hl=>h.2 l (List.mem_of_mem_drop (l9 hl))⟩
theorem zK(l:List Lit)(a b:Nat):((l.map jj).drop a).take b=((l.drop a).take b).map jj:=by simp[ll,pT]
theorem zI{α:Type}(c:List α): ∀(n i:Nat),i<n→((List.replicate n c).flatten.drop (i*c.length)).take c.length=c
 |0,_,h=>by omega
 |n+1,0,_=>by
  rw[List.replicate_succ,List.flatten_cons,hX,bq];exact tF
 |n+1,i+1,h=>by
  rw[List.replicate_succ,List.flatten_cons,gZ,show(i+1)*c.length=i*c.length+c.length by rw[gd,Nat.one_mul],cq (by omega),bu,HW];exact zI c n i (by omega)
theorem uZ{P:Program}{d:Nat}(ih: ∀t ks,mz P d t=some ks→∀l:List Lit,Fits ks l→P.keyLits d t (l.map jj)=some l)(l:List Lit):
 ∀(fs:List Field) (o:Nat) (ks:List (Option IntKind)),qn P (mz P d) fs o=some ks→o≤l.length→Fits ks (l.drop o)→
  ∃L,(fs.mapM λf=>P.keyLits d f.type (((l.map jj).drop f.offset).take (P.cellsOf f.type)))=some L∧L.flatten=l.drop o
 | [],o,ks,h,_,hf=>by
  simp only[qn,Option.some.injEq]at h;subst h;have:=hf.len;exact⟨[],rfl,(List.eq_nil_of_length_eq_zero (by simpa using this)).symm⟩
 |f::fs,o,ks,h,ho,hf=>by
  simp only[qn]at h;split at h
  · rename_i c hc
    split at h
    · rename_i hh
      obtain⟨m,hm,rfl⟩:=Option.map_eq_some_iff.1 h;have hlen:=hf.len;rw[aj,ef]at hlen
      have f1:Fits c ((l.drop o).take c.length):=by
       have:=hf.sub 0 c.length
       simpa using this
      have f2:Fits m (l.drop (o+c.length)):=by
       have e:(l.drop (o+c.length))=(((l.drop o).drop c.length).take ((l.drop o).length)):=by
        rw[jb,aD (by simp;omega)]
       have:=hf.sub c.length (l.drop o).length;rw[e]
       have e2:(((c++m).drop c.length).take (l.drop o).length)=m:=by
        rw[DM,aD (by rw[ef];omega)]
       rwa [e2]at this
      obtain⟨L,h1,h2⟩:=uZ ih l fs (o+c.length) m hm (by omega) f2
      have e:P.keyLits d f.type (((l.map jj).drop f.offset).take (P.cellsOf f.type))=some ((l.drop o).take c.length):=by
       rw[zK,hh.1,hh.2];exact ih f.type c hc _ f1
      refine⟨(l.drop o).take c.length::L,by rw[List.mapM_cons,e,h1];rfl,?_⟩;rw[List.flatten_cons,h2,←jb];exact lq _ _
    · cases h
  · cases h
theorem pc{P:Program}: ∀(d:Nat) (t:TypeId) (ks:List (Option IntKind)),mz P d t=some ks→∀l:List Lit,Fits ks l→P.keyLits d t (l.map jj)=some l
 |0,_,_,h=>by simp[mz]at h
 |d+1,t,ks,h=>λl hl=>by
  have ih:=pc (P:=P) d;simp only[mz]at h;split at h
  · rename_i q hu
    simp only[Option.some.injEq]at h;subst h;obtain⟨x,rfl⟩:=yG.1 (by simpa using hl.len);have h1:=hl.1;have h2:=hl.2 x (by simp);simp only[e5,mq,List.cons.injEq,and_true]at h1;cases x<;>simp only[zq,Option.some.injEq,reduceCtorEq]at h1;subst h1;simp[Program.keyLits,hu,jj,h2]
  · rename_i hu
    simp only[Option.some.injEq]at h;subst h;obtain⟨x,rfl⟩:=yG.1 (by simpa using hl.len);have h1:=hl.1;simp only[e5,mq,List.cons.injEq,and_true]at h1;cases x<;>simp only[zq,Option.some.injEq,reduceCtorEq]at h1;simp[Program.keyLits,hu,jj]
  · rename_i n e hu
    split at h
    · rename_i c hc
      split at h
      · rename_i hh
        simp only[Option.some.injEq]at h;subst h
        have hlen:l.length=n*c.length:=by
         rw[hl.len];simp[List.length_flatten]
        have hm:((List.range n).mapM λi=>P.keyLits d e (((l.map jj).drop (i*P.cellsOf e)).take (P.cellsOf e)))=some ((List.range n).map λi=>(l.drop (i*c.length)).take c.length):=by
         refine uk λi hi=>?_
         have hi':i<n:=ee.1 hi;rw[hh.1,zK];refine ih e c hc _ ?_;have:=hl.sub (i*c.length) c.length
         rwa [zI c n i hi']at this
        have hf:(((List.range n).map λi=>(l.drop (i*c.length)).take c.length)).flatten=l:=Fo c.length n l hlen;unfold Program.keyLits;simp only[hu];rw[if_pos (by rw[bW,hlen,hh.2]),hm,Option.map_some,hf]
      · cases h
    · cases h
  · rename_i fs hu
    split at h
    · rename_i m' hc
      split at h
      · rename_i hh
        simp only[Option.some.injEq]at h;subst h;obtain⟨L,h1,h2⟩:=uZ (P:=P) (d:=d) (λt m h l=>ih t m h l) l fs.toList 0 _ hc (aP _) (by simpa using hl);unfold Program.keyLits;simp only[hu];rw[if_pos ⟨by rw[bW,hl.len,hh.1],hh.2⟩,h1,Option.map_some,h2];rfl
      · cases h
    · cases h
  · cases h
section
variable {P:Program} {n:Nat} {D:List Deferred} {L:List (Nat×Value)} {S:World→Prop} {o:Oper}
def HS(P:Program)(t:TypeId):Bool:=match P.underlying t with
 |some (.struct _)=>true
 |some (.array _ _)=>true
 |_=>false
theorem Ga{t:TypeId}{l:List Lit}{ks:List (Option IntKind)}(hu:HS P t=true)(hc:P.cellsOf t=ks.length)(h:Fits ks l):Value.formed P t (.agg (l.map jj).toArray)=true:=by
 unfold HS at hu;unfold Value.formed;split at hu
 · rename_i h1;simp[h1,hc,h.len]
 · rename_i h1;simp[h1,hc,h.len]
 · cases hu
theorem Kq{t:TypeId}{a b:List Lit}[Decidable (a=b)]{m:Nat}{ks:List (Option IntKind)}(hk:P.keyTypeAt m t=true)(hm:Nat.ble m 10000=true)(hF:mz P m t=some ks)
 (hu:HS P t=true) (hc:P.cellsOf t=ks.length) (wa:Fits ks a) (wb:Fits ks b) (w:World):
 (Op.equalIn 10000 t (.agg (a.map jj).toArray) (.agg (b.map jj).toArray)).run P w= .ok (decide (a=b)) w:=by
 have hm':m≤10000:=e7 hm;obtain⟨r,hr,hi⟩:=run_equalIn_deep (10000-m) m t hk w m m (.agg (a.map jj).toArray) (.agg (b.map jj).toArray) a b (Ga hu hc wa) (Ga hu hc wb) (by simpa [Value.cells]using pc m t ks hF a wa) (by simpa [Value.cells]using pc m t ks hF b wb);rw[show 10000-m+m=10000 by omega]at hr
 have e:r=decide (a=b):=by
  rw[zR,hi,decide_eq_true_iff]
 rw[hr,e]
theorem PV.eqlL{t t':TypeId}{x y:Operand}{a b:List Lit}[Decidable (a=b)]{m:Nat}{ks:List (Option IntKind)}(hg:P.eqGuardType P.depth t=false)(hk:P.keyTypeAt m t=true)(hm:Nat.ble m 10000=true)(hF:mz P m t=some ks)
 (hu:HS P t=true) (hc:P.cellsOf t=ks.length) (wa:Fits ks a) (wb:Fits ks b)
 (ho:o.op= .binOp .eql t x y t') (hx:cI L x=some (.agg (a.map jj).toArray)) (hy:cI L y=some (.agg (b.map jj).toArray)):PV P n D L S o (.bool (decide (a=b))):=
 gY ho hx hy λw=>by
  rw[Sem.run_bind,run_eqGuard_agg w .eql t x y _ _ hg,Result.andThen_ok,run_eql_struct,Kq hk hm hF hu hc wa wb w];rfl
end
def yj(l:List UInt8):List Lit:=l.map λb=>Lit.int .u8 ((b.toNat:Nat):Int)
theorem xe(l:List UInt8):(yj l).map jj=eS l:=by simp[yj,eS,jj]
theorem litB_inj{a b:List UInt8}:yj a=yj b↔a=b:=by
 refine HX λu v h=>?_
 injection h with _ h
 exact UInt8.toNat_inj.1 (by exact_mod_cast h)
theorem zm{l:List UInt8}{n:Nat}(h:l.length=n):Fits (List.replicate n (some .u8)) (yj l):=by
 subst h;refine⟨?_,λx hx=>?_⟩
 · rw[List.map_replicate,yj,Qy,List.eq_replicate_iff]
   refine⟨by simp,λy hy=>?_⟩;obtain⟨z,_,rfl⟩:=dw.1 hy;rfl
 · obtain⟨z,_,rfl⟩:=dw.1 hx
   have:=z.toNat_lt;have m1:IntKind.u8.min=0:=by decide
   have m2:IntKind.u8.max=255:=by decide
   simp only[Lit.wf,m1,m2,decide_eq_true_eq,au];omega
section
variable {P:Program} {n:Nat} {D:List Deferred} {L:List (Nat×Value)} {S:World→Prop} {o:Oper}
theorem PV.eqlBy{t t':TypeId}{x y:Operand}{a b:List UInt8}{m c:Nat}(hg:P.eqGuardType P.depth t=false)(hk:P.keyTypeAt m t=true)(hm:Nat.ble m 10000=true)(hF:mz P m t=some (List.replicate c (some .u8)))
 (hu:HS P t=true) (hc:P.cellsOf t=c) (ha:a.length=c) (hb:b.length=c)
 (ho:o.op= .binOp .eql t x y t') (hx:cI L x=some (.agg (eS a).toArray)) (hy:cI L y=some (.agg (eS b).toArray)):PV P n D L S o (.bool (decide (a=b))):=by
 letI:Decidable (yj a=yj b):=decidable_of_iff _ litB_inj.symm
 have:=PV.eqlL (P:=P) (n:=n) (D:=D) (L:=L) (S:=S) (o:=o) (t:=t) (t':=t') (x:=x) (y:=y) (a:=yj a) (b:=yj b) hg hk hm hF hu (by rw[hc,lr]) (zm ha) (zm hb) ho (by rw[xe];exact hx) (by rw[xe];exact hy)
 simpa [litB_inj]using this
end
theorem Jk(vs:List Value): ∀(o j:Nat) (pre zeros post:List Value),pre.length=o+j→zeros.length=vs.length→
 ((vs.zipIdx j).foldl (λ(cs:Array Value) (c,i)=>cs.setIfInBounds (o+i) c) (pre++(zeros++post)).toArray)=(pre++(vs++post)).toArray:=by
 induction vs with
 |nil=>intro o j pre zeros post _ h;rw[List.eq_nil_of_length_eq_zero h];rfl
 |cons v vs ih=>
  intro o j pre zeros post hp hz
  match zeros,hz with
  |z::zeros,hz=>
   rw[List.zipIdx_cons,List.foldl_cons]
   have e:(pre++(z::zeros++post)).toArray.setIfInBounds (o+j) v=((pre++[v])++(zeros++post)).toArray:=by
    rw[List.setIfInBounds_toArray,gV _ _ (by omega),hp,yE,gf,ce,aV];rfl
   simp only[e];rw[ih o (j+1) (pre++[v]) zeros post (by simp;omega) (by simpa using hz),aV];rfl
def vl:List (List Value)→Nat→List (Nat×Nat)
 | [],_=>[]
 |s::ss,o=>(o,s.length)::vl ss (o+s.length)
def kZ(segs:List (List Value)):List (Nat×List Value)→Option (List (List Value))
 | []=>some segs
 | (i,v)::ps=>match segs[i]?with
  |some s=>if v.length=s.length then kZ (segs.set i v) ps else none
  |none=>none
theorem Cu: ∀(segs:List (List Value)) (o i:Nat) (s v:List Value),segs[i]?=some s→v.length=s.length→vl (segs.set i v) o=vl segs o
 | [],_,_,_,_,h,_=>by simp at h
 |s::ss,o,0,t,v,h,hl=>by
  simp only[List.getElem?_cons_zero,Option.some.injEq]at h;subst h;simp[vl,hl]
 |s::ss,o,i+1,t,v,h,hl=>by
  simp only[List.getElem?_cons_succ]at h;simp[vl,Cu ss _ i t v h hl]
theorem wG: ∀(segs:List (List Value)) (o i:Nat) (s:List Value),segs[i]?=some s→∃A B,segs.flatten=A++(s++B)∧(vl segs o)[i]?=some (o+A.length,s.length)∧∀v,(segs.set i v).flatten=A++(v++B)
 | [],_,_,_,h=>by simp at h
 |s::ss,o,0,t,h=>by
  simp only[List.getElem?_cons_zero,Option.some.injEq]at h;subst h;exact⟨[],ss.flatten,by simp,by simp[vl],λv=>by simp⟩
 |s::ss,o,i+1,t,h=>by
  simp only[List.getElem?_cons_succ]at h;obtain⟨A,B,h1,h2,h3⟩:=wG ss (o+s.length) i t h;refine⟨s++A,B,by simp[h1],?_,λv=>by simp[h3 v]⟩;simp only[vl,List.getElem?_cons_succ,h2,aj,pS]
theorem zz: ∀(parts:List (Nat×List Value)) (vals:List (Nat×Value)) (segs res:List (List Value)) (place:Nat→Option (Nat×Nat)),(∀i,i<segs.length→place i=(vl segs 0)[i]?)→vals.map (λp=>(p.1,p.2.cells))=parts.map (λp=>(p.1,p.2.toArray))→kZ segs parts=some res→
 Instr.fill place segs.flatten.toArray vals=some res.flatten.toArray
 | [],[],segs,res,place,_,_,h=>by
  simp only[kZ,Option.some.injEq]at h;subst h;rfl
 | [],_::_,_,_,_,_,h,_=>by simp at h
 |_::_,[],_,_,_,_,h,_=>by simp at h
 | (i,v)::ps,(i',u)::us,segs,res,place,hp,hv,h=>by
  simp only[e5,List.cons.injEq,Prod.mk.injEq]at hv;obtain⟨⟨rfl,hu⟩,hv⟩:=hv;simp only[kZ]at h;split at h
  · rename_i s hs
    split at h
    · rename_i hl
      have hi:i'<segs.length:=(List.getElem?_eq_some_iff.1 hs).1;obtain⟨A,B,h1,h2,h3⟩:=wG segs 0 i' s hs;simp only[bm]at h2;have e:=Jk v A.length 0 A s B (by simp) (by omega);have ih:=zz ps us (segs.set i' v) res place (λj hj=>by rw[Cu segs 0 i' s v hs hl];exact hp j (by simpa using hj)) hv h;rw[h3]at ih;simp only[Instr.fill,hp i' hi,h2,hu,List.size_toArray,h1];rw[if_neg (by simp[hl])];rw[←ih,←e];congr 1;rw[←Array.foldl_toList,Array.toList_zipIdx]
    · cases h
  · cases h
theorem Ft{P:Program}{t:TypeId}{fs:Array Field}{segs res:List (List Value)}{parts:List (Nat×List Value)}{vals:List (Nat×Value)}(ht:P.underlying t=some (.struct fs))(hz:(P.info? t).map (·.zero)=some (some (.agg segs.flatten.toArray)))
 (hp:fs.toList.mapM (λf=>(P.info? f.type).map λi=>(f.offset,i.size))=some (vl segs 0)) (hv:vals.map (λp=>(p.1,p.2.cells))=parts.map (λp=>(p.1,p.2.toArray))) (h:kZ segs parts=some res):P.built t vals=some res.flatten.toArray:=by
 obtain⟨i,hi,hz'⟩:=Option.map_eq_some_iff.1 hz;unfold Program.built;simp only[hi,ht,hz',hp];exact zz parts vals segs res _ (λj _=>by simp) hv h
section
variable {P:Program} {n:Nat} {D:List Deferred} {L:List (Nat×Value)} {S:World→Prop} {o:Oper}
theorem PV.buildSegs{t:TypeId}{ps:Array (Nat×Operand)}{fs:Array Field}{segs res:List (List Value)}{parts:List (Nat×List Value)}{vals:List (Nat×Value)}{cs:List Value}(ho:o.op= .build t ps)(hx:JW L ps.toList=some vals)(ht:P.underlying t=some (.struct fs))
 (hz:(P.info? t).map (·.zero)=some (some (.agg segs.flatten.toArray))) (hp:fs.toList.mapM (λf=>(P.info? f.type).map λi=>(f.offset,i.size))=some (vl segs 0)) (hv:vals.map (λp=>(p.1,p.2.cells))=parts.map (λp=>(p.1,p.2.toArray))) (h:kZ segs parts=some res) (hc:res.flatten=cs):PV P n D L S o (.agg cs.toArray):=by
 subst hc;exact kn ho hx (Ft ht hz hp hv h)
abbrev yC:= @PV.buildSegs
end
inductive SL:List (List Value)→List Nat→Prop
 |nil:SL [] []
 |cons {s:List Value} {n:Nat} {L:List (List Value)} {ns:List Nat} (h:s.length=n) (r:SL L ns):SL (s::L) (n::ns)
theorem SL.split{L:List (List Value)}{ns:List Nat}(h:SL L ns)(i:Nat){n:Nat}(hn:ns[i]?=some n): ∃s A B,L[i]?=some s∧s.length=n∧L.flatten=A++(s++B)∧A.length=(ns.take i).sum∧∀v,(L.set i v).flatten=A++(v++B):=by
 induction h generalizing i with
 |nil=>simp at hn
 | @cons s m L ns hs r ih=>
  cases i with
  |zero=>
   simp only[List.getElem?_cons_zero,Option.some.injEq]at hn;exact⟨s,[],L.flatten,rfl,by omega,by simp,rfl,λv=>by simp⟩
  |succ i=>
   obtain⟨t,A,B,h1,h2,h3,h4,h5⟩:=ih i (by simpa using hn);exact⟨t,s++A,B,by simpa using h1,h2,by simp[h3],by simp[h4,hs],λv=>by simp[h5 v]⟩
theorem SL.len{L:List (List Value)}{ns:List Nat}(h:SL L ns):L.flatten.length=ns.sum:=by
 induction h with
 |nil=>rfl
 |cons hs r ih=>simp[ih,hs]
theorem SL.sub{L:List (List Value)}{ns:List Nat}(h:SL L ns)(i:Nat){s:List Value}{n off:Nat}(j m:Nat)(hn:ns[i]?=some n)(hs:L[i]?=some s)(ho:(ns.take i).sum=off)(hj:j+m≤n):(L.flatten.drop (off+j)).take m=(s.drop j).take m:=by
 obtain⟨t,A,B,h1,h2,h3,h4,_⟩:=h.split i hn;obtain rfl:t=s:=by rw[h1]at hs;exact aR hs
 rw[h3,←ho,←h4,←jb,DM,ij (by omega),cf (by simp;omega)]
theorem SL.at{L:List (List Value)}{ns:List Nat}(h:SL L ns)(i:Nat){s:List Value}{n off:Nat}(j:Nat)(hn:ns[i]?=some n)(hs:L[i]?=some s)(ho:(ns.take i).sum=off)(hj:j<n):L.flatten[off+j]?=s[j]?:=by
 obtain⟨t,A,B,h1,h2,h3,h4,_⟩:=h.split i hn;obtain rfl:t=s:=by rw[h1]at hs;exact aR hs
 rw[h3,←ho,←h4,List.getElem?_append_right (by omega),cv,List.getElem?_append_left (by omega)]
theorem SL.putIn{L:List (List Value)}{ns:List Nat}(h:SL L ns)(i:Nat){s s':List Value}{n off:Nat}(j:Nat)(vs:List Value)(hn:ns[i]?=some n)(hs:L[i]?=some s)(ho:(ns.take i).sum=off)(hj:j+vs.length≤n)(hw:wr s j vs=s'):wr L.flatten (off+j) vs=(L.set i s').flatten:=by
 obtain⟨t,A,B,h1,h2,h3,h4,h5⟩:=h.split i hn;obtain rfl:t=s:=by rw[h1]at hs;exact aR hs
 rw[h5,h3,←ho,←h4,eO (by omega),cv,iC (by omega),hw]
theorem SL.set{L:List (List Value)}{ns:List Nat}(h:SL L ns)(i:Nat){s:List Value}{n off:Nat}(j:Nat)(v:Value)(hn:ns[i]?=some n)(hs:L[i]?=some s)(ho:(ns.take i).sum=off)(hj:j<n):L.flatten.set (off+j) v=(L.set i (s.set j v)).flatten:=by
 obtain⟨t,A,B,h1,h2,h3,h4,h5⟩:=h.split i hn;obtain rfl:t=s:=by rw[h1]at hs;exact aR hs
 rw[h5,h3,←ho,←h4,gV _ _ (by omega),cv,qG _ _ (by omega)]
theorem SL.around{L:List (List Value)}{ns:List Nat}(h:SL L ns)(i:Nat){s:List Value}{n off:Nat}(hn:ns[i]?=some n)(hs:L[i]?=some s)(ho:(ns.take i).sum=off): ∃A B,L.flatten=A++(s++B)∧A.length=off∧∀v,(L.set i v).flatten=A++(v++B):=by
 obtain⟨t,A,B,h1,h2,h3,h4,h5⟩:=h.split i hn;obtain rfl:t=s:=by rw[h1]at hs;exact aR hs
 exact⟨A,B,h3,by omega,h5⟩
section
variable {P:Program} {w0:World} {F:Hl} {n:Nat} {ops:Array Oper} {Q:QQ} {D:List Deferred} {L:List (Nat×Value)} {H:List HP} {S:World→Prop}
end
end Leg
end

section
namespace Api
open Go Leg
theorem bn{cs:List Value}{n:Nat}(h:cs.length=n):(cs.drop 0).take n=cs:=by rw[bq,aD (by omega)]
theorem cr{cs vs:List Value}(h:cs.length=vs.length):wr cs 0 vs=vs:=jq h
theorem kG{n:Nat}(v:Vector Int n){i:Nat}(h:i<n):(ints v.toList)[i]?=some (.int .i64 v[i]):=by simp[ints,h]
theorem yO{n:Nat}(v:Vector Int n){i:Nat}(h:i<n)(x:Int):(ints v.toList).set i (.int .i64 x)=ints (v.set i x h).toList:=by rw[rm];simp[ints,JO]
theorem yN{α:Type}(f:α→List Int)(l:List α):ints (l.flatMap f)=(l.map λx=>ints (f x)).flatten:=by
 induction l with
 |nil=>rfl
 |cons x l ih=>rw[dh,eJ,ih];rfl
theorem Bz{α:Type}{m:Nat}{f:α→List Int}(hf: ∀x,(f x).length=m): ∀l:List α,SL (l.map λx=>ints (f x)) (List.replicate l.length m)
 | []=> .nil
 |x::l=> .cons (by rw[ints_length,hf]) (Bz hf l)
theorem vE(m:Nat): ∀(n i:Nat),i≤n→((List.replicate n m).take i).sum=i*m:=λn i h=>by
 rw[FB,Nat.min_eq_left h,List.sum_replicate_nat]
theorem kT{α:Type}{n m:Nat}{f:α→List Int}(hf: ∀x,(f x).length=m)(v:Vector α n){i k o:Nat}(j:Nat)(hi:i<n)(ho:o=i*m+j)(h:j+k≤m){r:List Value}(hr:((ints (f v[i])).drop j).take k=r):
 ((ints (v.toList.flatMap f)).drop o).take k=r:=by
 subst ho;rw[←hr,yN];have hl:=(Bz hf v.toList);exact hl.sub i j k (by simp[hi]) (by simp[hi]) (by simp only[aA];exact vE m n i (by omega)) h
theorem pq{α:Type}{n m:Nat}{f:α→List Int}(hf: ∀x,(f x).length=m)(v:Vector α n){i o:Nat}(j:Nat)(hi:i<n)(ho:o=i*m+j)(h:j<m){r:Option Value}(hr:(ints (f v[i]))[j]?=r):
 (ints (v.toList.flatMap f))[o]?=r:=by
 subst ho;rw[←hr,yN];have hl:=(Bz hf v.toList);exact hl.at i j (by simp[hi]) (by simp[hi]) (by simp only[aA];exact vE m n i (by omega)) h
theorem uU{α:Type}{n:Nat}(v:Vector α n){i:Nat}(hi:i<n)(g:α→List Value)(y:α):(v.toList.map g).set i (g y)=(v.set i y hi).toList.map g:=by rw[rm,JO]
theorem wc{α:Type}{n m:Nat}{f:α→List Int}(hf: ∀x,(f x).length=m)(v:Vector α n){i o:Nat}(j:Nat){vs:List Value}{u':α}(hi:i<n)(ho:o=i*m+j)(h:j+vs.length≤m)(hw:wr (ints (f v[i])) j vs=ints (f u')):
 wr (ints (v.toList.flatMap f)) o vs=ints ((v.set i u' hi).toList.flatMap f):=by
 subst ho;rw[yN,yN,←uU v hi (λx=>ints (f x)) u'];have hl:=(Bz hf v.toList);exact hl.putIn i j vs (by simp[hi]) (by simp[hi]) (by simp only[aA];exact vE m n i (by omega)) h hw
theorem Ib{α:Type}{n m:Nat}{f:α→List Int}(hf: ∀x,(f x).length=m)(v:Vector α n){i o:Nat}(j:Nat){x:Value}{u':α}(hi:i<n)(ho:o=i*m+j)(h:j<m)(hw:(ints (f v[i])).set j x=ints (f u')):
 (ints (v.toList.flatMap f)).set o x=ints ((v.set i u' hi).toList.flatMap f):=by
 subst ho;rw[yN,yN,←uU v hi (λx=>ints (f x)) u',←hw];have hl:=(Bz hf v.toList);exact hl.set i j x (by simp[hi]) (by simp[hi]) (by simp only[aA];exact vE m n i (by omega)) h
theorem jL(v:Vector Int 5):(ints v.toList).length=5:=by simp[ints]
theorem eD(v:Vector CellT 4):(ints (bT v.toList)).length=28:=by simp[ints_length,cW]
theorem lS{segs:List (List Value)}:kZ segs []=some segs:=rfl
theorem fA{segs:List (List Value)}{i:Nat}{v s:List Value}{ps:List (Nat×List Value)}{res:List (List Value)}(hs:segs[i]?=some s)(hl:v.length=s.length)(h:kZ (segs.set i v) ps=some res):kZ segs ((i,v)::ps)=some res:=by
 simp only[kZ,hs,if_pos hl,h]
theorem tP(v:Vector CellT 4):(bT v.toList).length=28:=by simp[cW]
theorem CellT.sl(m:CellT):SL [[Value.int .i64 m.inn],[Value.int .i64 m.out],ints m.given.toList] [1,1,5]:=(.cons rfl (.cons rfl (.cons (by simp[ints]) .nil)))
abbrev DP:= @CellT.sl
abbrev CellT.sg(m:CellT):List (List Value):=[[Value.int .i64 m.inn],[Value.int .i64 m.out],ints m.given.toList]
theorem CellT.eq(m:CellT):ints m.flat=[[Value.int .i64 m.inn],[Value.int .i64 m.out],ints m.given.toList].flatten:=by simp[CellT.flat,ints]
abbrev qH:= @CellT.eq
theorem CellT.at_inn(m:CellT){o:Nat}(ho:o=0):(ints m.flat)[o]?=some (Value.int .i64 m.inn):=by subst ho;rw[qH];exact(DP m).at 0 0 rfl rfl rfl (by decide)
abbrev yI:= @CellT.at_inn
theorem CellT.set_inn(m:CellT){o:Nat}(ho:o=0)(x:Int):(ints m.flat).set o (Value.int .i64 x)=ints ({m with inn:=x}:CellT).flat:=by subst ho;rw[qH,qH];exact(DP m).set 0 0 _ rfl rfl rfl (by decide)
theorem CellT.at_out(m:CellT){o:Nat}(ho:o=1):(ints m.flat)[o]?=some (Value.int .i64 m.out):=by subst ho;rw[qH];exact(DP m).at 1 0 rfl rfl rfl (by decide)
abbrev yH:= @CellT.at_out
theorem CellT.set_out(m:CellT){o:Nat}(ho:o=1)(x:Int):(ints m.flat).set o (Value.int .i64 x)=ints ({m with out:=x}:CellT).flat:=by subst ho;rw[qH,qH];exact(DP m).set 1 0 _ rfl rfl rfl (by decide)
theorem CellT.pt_given(m:CellT){o:Nat}(j:Nat)(ho:o=2+j)(h:j<5){r:Option Value}(hr:(ints m.given.toList)[j]?=r):(ints m.flat)[o]?=r:=by subst ho;rw[←hr,qH];exact(DP m).at 2 j rfl rfl rfl h
abbrev OE:= @CellT.pt_given
theorem CellT.sub_given(m:CellT){o k:Nat}(j:Nat)(ho:o=2+j)(h:j+k≤5){r:List Value}(hr:((ints m.given.toList).drop j).take k=r):((ints m.flat).drop o).take k=r:=by subst ho;rw[←hr,qH];exact(DP m).sub 2 j k rfl rfl rfl h
theorem CellT.st_given(m:CellT){o:Nat}(j:Nat){v:Value}{u':Vector Int 5}(ho:o=2+j)(h:j<5)(hw:(ints m.given.toList).set j v=ints u'.toList):(ints m.flat).set o v=ints ({m with given:=u'}:CellT).flat:=by subst ho;rw[qH,qH];exact((DP m).set 2 j v rfl rfl rfl h).trans (by rw[hw];rfl)
theorem RowT.sl(m:RowT):SL [[Value.int .i64 m.version],ints (bT m.cells.toList),ints m.heir.toList,ints (m.left.toList.flatMap λv=>bT v.toList)] [1,28,5,140]:=(.cons rfl (.cons (by simp[ints_length,cW]) (.cons (by simp[ints]) (.cons (by rw[ints_length,s7];simp) .nil))))
abbrev vi:= @RowT.sl
abbrev RowT.sg(m:RowT):List (List Value):=[[Value.int .i64 m.version],ints (bT m.cells.toList),ints m.heir.toList,ints (m.left.toList.flatMap λv=>bT v.toList)]
theorem RowT.eq(m:RowT):ints m.flat=[[Value.int .i64 m.version],ints (bT m.cells.toList),ints m.heir.toList,ints (m.left.toList.flatMap λv=>bT v.toList)].flatten:=by simp[RowT.flat,ints]
abbrev nA:= @RowT.eq
theorem RowT.at_version(m:RowT){o:Nat}(ho:o=0):(ints m.flat)[o]?=some (Value.int .i64 m.version):=by subst ho;rw[nA];exact(vi m).at 0 0 rfl rfl rfl (by decide)
abbrev cJ:= @RowT.at_version
theorem RowT.set_version(m:RowT){o:Nat}(ho:o=0)(x:Int):(ints m.flat).set o (Value.int .i64 x)=ints ({m with version:=x}:RowT).flat:=by subst ho;rw[nA,nA];exact(vi m).set 0 0 _ rfl rfl rfl (by decide)
abbrev xO:= @RowT.set_version
theorem RowT.pt_cells(m:RowT){o:Nat}(j:Nat)(ho:o=1+j)(h:j<28){r:Option Value}(hr:(ints (bT m.cells.toList))[j]?=r):(ints m.flat)[o]?=r:=by subst ho;rw[←hr,nA];exact(vi m).at 1 j rfl rfl rfl h
abbrev vu:= @RowT.pt_cells
theorem RowT.sub_cells(m:RowT){o k:Nat}(j:Nat)(ho:o=1+j)(h:j+k≤28){r:List Value}(hr:((ints (bT m.cells.toList)).drop j).take k=r):((ints m.flat).drop o).take k=r:=by subst ho;rw[←hr,nA];exact(vi m).sub 1 j k rfl rfl rfl h
abbrev DK:= @RowT.sub_cells
theorem RowT.st_cells(m:RowT){o:Nat}(j:Nat){v:Value}{u':Vector CellT 4}(ho:o=1+j)(h:j<28)(hw:(ints (bT m.cells.toList)).set j v=ints (bT u'.toList)):(ints m.flat).set o v=ints ({m with cells:=u'}:RowT).flat:=by subst ho;rw[nA,nA];exact((vi m).set 1 j v rfl rfl rfl h).trans (by rw[hw];rfl)
abbrev PW:= @RowT.st_cells
theorem RowT.pt_heir(m:RowT){o:Nat}(j:Nat)(ho:o=29+j)(h:j<5){r:Option Value}(hr:(ints m.heir.toList)[j]?=r):(ints m.flat)[o]?=r:=by subst ho;rw[←hr,nA];exact(vi m).at 2 j rfl rfl rfl h
abbrev sa:= @RowT.pt_heir
theorem RowT.sub_heir(m:RowT){o k:Nat}(j:Nat)(ho:o=29+j)(h:j+k≤5){r:List Value}(hr:((ints m.heir.toList).drop j).take k=r):((ints m.flat).drop o).take k=r:=by subst ho;rw[←hr,nA];exact(vi m).sub 2 j k rfl rfl rfl h
abbrev PT:= @RowT.sub_heir
theorem RowT.st_heir(m:RowT){o:Nat}(j:Nat){v:Value}{u':Vector Int 5}(ho:o=29+j)(h:j<5)(hw:(ints m.heir.toList).set j v=ints u'.toList):(ints m.flat).set o v=ints ({m with heir:=u'}:RowT).flat:=by subst ho;rw[nA,nA];exact((vi m).set 2 j v rfl rfl rfl h).trans (by rw[hw];rfl)
theorem RowT.sub_left(m:RowT){o k:Nat}(j:Nat)(ho:o=34+j)(h:j+k≤140){r:List Value}(hr:((ints (m.left.toList.flatMap λv=>bT v.toList)).drop j).take k=r):((ints m.flat).drop o).take k=r:=by subst ho;rw[←hr,nA];exact(vi m).sub 3 j k rfl rfl rfl h
abbrev Gl:= @RowT.sub_left
theorem RowT.wr_left_(m:RowT){o:Nat}(j:Nat){vs:List Value}{u':Vector (Vector CellT 4) 5}(ho:o=34+j)(h:j+vs.length≤140)(hw:wr (ints (m.left.toList.flatMap λv=>bT v.toList)) j vs=ints (u'.toList.flatMap λv=>bT v.toList)):wr (ints m.flat) o vs=ints ({m with left:=u'}:RowT).flat:=by subst ho;rw[nA,nA];exact(vi m).putIn 3 j vs rfl rfl rfl h hw
theorem ViewT.sl(m:ViewT):SL [[Value.int .i64 m.epoch],[Value.int .i64 m.members],ints m.heirs.toList] [1,1,5]:=(.cons rfl (.cons rfl (.cons (by simp[ints]) .nil)))
abbrev xN:= @ViewT.sl
abbrev ViewT.sg(m:ViewT):List (List Value):=[[Value.int .i64 m.epoch],[Value.int .i64 m.members],ints m.heirs.toList]
theorem ViewT.eq(m:ViewT):ints m.flat=[[Value.int .i64 m.epoch],[Value.int .i64 m.members],ints m.heirs.toList].flatten:=by simp[ViewT.flat,ints]
abbrev nu:= @ViewT.eq
theorem ViewT.len(m:ViewT):(ints m.flat).length=7:=by rw[nu,(xN m).len];rfl
abbrev ai:= @ViewT.len
theorem ViewT.at_epoch(m:ViewT){o:Nat}(ho:o=0):(ints m.flat)[o]?=some (Value.int .i64 m.epoch):=by subst ho;rw[nu];exact(xN m).at 0 0 rfl rfl rfl (by decide)
abbrev bf:= @ViewT.at_epoch
theorem ViewT.set_epoch(m:ViewT){o:Nat}(ho:o=0)(x:Int):(ints m.flat).set o (Value.int .i64 x)=ints ({m with epoch:=x}:ViewT).flat:=by subst ho;rw[nu,nu];exact(xN m).set 0 0 _ rfl rfl rfl (by decide)
theorem ViewT.at_members(m:ViewT){o:Nat}(ho:o=1):(ints m.flat)[o]?=some (Value.int .i64 m.members):=by subst ho;rw[nu];exact(xN m).at 1 0 rfl rfl rfl (by decide)
abbrev ml:= @ViewT.at_members
theorem ViewT.set_members(m:ViewT){o:Nat}(ho:o=1)(x:Int):(ints m.flat).set o (Value.int .i64 x)=ints ({m with members:=x}:ViewT).flat:=by subst ho;rw[nu,nu];exact(xN m).set 1 0 _ rfl rfl rfl (by decide)
theorem ViewT.pt_heirs(m:ViewT){o:Nat}(j:Nat)(ho:o=2+j)(h:j<5){r:Option Value}(hr:(ints m.heirs.toList)[j]?=r):(ints m.flat)[o]?=r:=by subst ho;rw[←hr,nu];exact(xN m).at 2 j rfl rfl rfl h
theorem ViewT.sub_heirs(m:ViewT){o k:Nat}(j:Nat)(ho:o=2+j)(h:j+k≤5){r:List Value}(hr:((ints m.heirs.toList).drop j).take k=r):((ints m.flat).drop o).take k=r:=by subst ho;rw[←hr,nu];exact(xN m).sub 2 j k rfl rfl rfl h
theorem ViewT.st_heirs(m:ViewT){o:Nat}(j:Nat){v:Value}{u':Vector Int 5}(ho:o=2+j)(h:j<5)(hw:(ints m.heirs.toList).set j v=ints u'.toList):(ints m.flat).set o v=ints ({m with heirs:=u'}:ViewT).flat:=by subst ho;rw[nu,nu];exact((xN m).set 2 j v rfl rfl rfl h).trans (by rw[hw];rfl)
theorem ChangeT.sl(m:ChangeT):SL [[Value.int .i64 m.kind],[Value.int .i64 m.who],[Value.int .i64 m.heir]] [1,1,1]:=(.cons rfl (.cons rfl (.cons rfl .nil)))
abbrev OD:= @ChangeT.sl
abbrev ChangeT.sg(m:ChangeT):List (List Value):=[[Value.int .i64 m.kind],[Value.int .i64 m.who],[Value.int .i64 m.heir]]
theorem ChangeT.eq(m:ChangeT):ints m.flat=[[Value.int .i64 m.kind],[Value.int .i64 m.who],[Value.int .i64 m.heir]].flatten:=by simp[ChangeT.flat,ints]
abbrev H0:= @ChangeT.eq
theorem ChangeT.len(m:ChangeT):(ints m.flat).length=3:=by rw[H0,(OD m).len];rfl
abbrev aK:= @ChangeT.len
theorem ChangeT.at_kind(m:ChangeT){o:Nat}(ho:o=0):(ints m.flat)[o]?=some (Value.int .i64 m.kind):=by subst ho;rw[H0];exact(OD m).at 0 0 rfl rfl rfl (by decide)
theorem ChangeT.at_who(m:ChangeT){o:Nat}(ho:o=1):(ints m.flat)[o]?=some (Value.int .i64 m.who):=by subst ho;rw[H0];exact(OD m).at 1 0 rfl rfl rfl (by decide)
abbrev jc:= @ChangeT.at_who
theorem ChangeT.at_heir(m:ChangeT){o:Nat}(ho:o=2):(ints m.flat)[o]?=some (Value.int .i64 m.heir):=by subst ho;rw[H0];exact(OD m).at 2 0 rfl rfl rfl (by decide)
abbrev qX:= @ChangeT.at_heir
theorem BallotT.sl(m:BallotT):SL [[Value.int .i64 m.round],[Value.int .i64 m.who]] [1,1]:=(.cons rfl (.cons rfl .nil))
abbrev BallotT.sg(m:BallotT):List (List Value):=[[Value.int .i64 m.round],[Value.int .i64 m.who]]
theorem BallotT.eq(m:BallotT):ints m.flat=[[Value.int .i64 m.round],[Value.int .i64 m.who]].flatten:=by simp[BallotT.flat,ints]
abbrev OJ:= @BallotT.eq
theorem BallotT.len(m:BallotT):(ints m.flat).length=2:=by rw[OJ,(BallotT.sl m).len];rfl
abbrev ap:= @BallotT.len
theorem BallotT.at_round(m:BallotT){o:Nat}(ho:o=0):(ints m.flat)[o]?=some (Value.int .i64 m.round):=by subst ho;rw[OJ];exact(BallotT.sl m).at 0 0 rfl rfl rfl (by decide)
abbrev fx:= @BallotT.at_round
theorem BallotT.at_who(m:BallotT){o:Nat}(ho:o=1):(ints m.flat)[o]?=some (Value.int .i64 m.who):=by subst ho;rw[OJ];exact(BallotT.sl m).at 1 0 rfl rfl rfl (by decide)
theorem MsgT.sl(m:MsgT):SL [[Value.int .i64 m.kind],[Value.int .i64 m.whose],ints m.row.flat,[Value.int .i64 m.version],[Value.int .i64 m.epoch],ints m.ballot.flat,ints m.had.flat,ints m.change.flat,ints m.view.flat] [1,1,174,1,1,2,2,3,7]:=(.cons rfl (.cons rfl (.cons (am _) (.cons rfl (.cons rfl (.cons (ap _) (.cons (ap _) (.cons (aK _) (.cons (ai _) .nil)))))))))
abbrev iK:= @MsgT.sl
abbrev MsgT.sg(m:MsgT):List (List Value):=[[Value.int .i64 m.kind],[Value.int .i64 m.whose],ints m.row.flat,[Value.int .i64 m.version],[Value.int .i64 m.epoch],ints m.ballot.flat,ints m.had.flat,ints m.change.flat,ints m.view.flat]
theorem MsgT.eq(m:MsgT):ints m.flat=[[Value.int .i64 m.kind],[Value.int .i64 m.whose],ints m.row.flat,[Value.int .i64 m.version],[Value.int .i64 m.epoch],ints m.ballot.flat,ints m.had.flat,ints m.change.flat,ints m.view.flat].flatten:=by simp[MsgT.flat,ints]
abbrev bv:= @MsgT.eq
theorem MsgT.len(m:MsgT):(ints m.flat).length=192:=by rw[bv,(iK m).len];rfl
abbrev aJ:= @MsgT.len
theorem MsgT.at_kind(m:MsgT){o:Nat}(ho:o=0):(ints m.flat)[o]?=some (Value.int .i64 m.kind):=by subst ho;rw[bv];exact(iK m).at 0 0 rfl rfl rfl (by decide)
abbrev fa:= @MsgT.at_kind
theorem MsgT.set_kind(m:MsgT){o:Nat}(ho:o=0)(x:Int):(ints m.flat).set o (Value.int .i64 x)=ints ({m with kind:=x}:MsgT).flat:=by subst ho;rw[bv,bv];exact(iK m).set 0 0 _ rfl rfl rfl (by decide)
theorem MsgT.at_whose(m:MsgT){o:Nat}(ho:o=1):(ints m.flat)[o]?=some (Value.int .i64 m.whose):=by subst ho;rw[bv];exact(iK m).at 1 0 rfl rfl rfl (by decide)
abbrev cu:= @MsgT.at_whose
theorem MsgT.set_whose(m:MsgT){o:Nat}(ho:o=1)(x:Int):(ints m.flat).set o (Value.int .i64 x)=ints ({m with whose:=x}:MsgT).flat:=by subst ho;rw[bv,bv];exact(iK m).set 1 0 _ rfl rfl rfl (by decide)
theorem MsgT.pt_row(m:MsgT){o:Nat}(j:Nat)(ho:o=2+j)(h:j<174){r:Option Value}(hr:(ints m.row.flat)[j]?=r):(ints m.flat)[o]?=r:=by subst ho;rw[←hr,bv];exact(iK m).at 2 j rfl rfl rfl h
theorem MsgT.sub_row(m:MsgT){o k:Nat}(j:Nat)(ho:o=2+j)(h:j+k≤174){r:List Value}(hr:((ints m.row.flat).drop j).take k=r):((ints m.flat).drop o).take k=r:=by subst ho;rw[←hr,bv];exact(iK m).sub 2 j k rfl rfl rfl h
abbrev mo:= @MsgT.sub_row
theorem MsgT.wr_row_(m:MsgT){o:Nat}(j:Nat){vs:List Value}{u':RowT}(ho:o=2+j)(h:j+vs.length≤174)(hw:wr (ints m.row.flat) j vs=ints u'.flat):wr (ints m.flat) o vs=ints ({m with row:=u'}:MsgT).flat:=by subst ho;rw[bv,bv];exact(iK m).putIn 2 j vs rfl rfl rfl h hw
theorem MsgT.sp_row(m:MsgT):((ints m.flat).drop 2).take 174=ints m.row.flat:=mo m 0 rfl (by decide) (bn ((am _):(ints m.row.flat).length=174))
theorem MsgT.wp_row(m:MsgT)(u:RowT):wr (ints m.flat) 2 (ints u.flat)=ints ({m with row:=u}:MsgT).flat:=MsgT.wr_row_ m 0 rfl (by rw[bm];exact dv ((am _):(ints u.flat).length=174)) (cr (Eq.trans ((am _):(ints m.row.flat).length=174) (Eq.symm ((am _):(ints u.flat).length=174))))
theorem MsgT.at_version(m:MsgT){o:Nat}(ho:o=176):(ints m.flat)[o]?=some (Value.int .i64 m.version):=by subst ho;rw[bv];exact(iK m).at 3 0 rfl rfl rfl (by decide)
theorem MsgT.set_version(m:MsgT){o:Nat}(ho:o=176)(x:Int):(ints m.flat).set o (Value.int .i64 x)=ints ({m with version:=x}:MsgT).flat:=by subst ho;rw[bv,bv];exact(iK m).set 3 0 _ rfl rfl rfl (by decide)
theorem MsgT.at_epoch(m:MsgT){o:Nat}(ho:o=177):(ints m.flat)[o]?=some (Value.int .i64 m.epoch):=by subst ho;rw[bv];exact(iK m).at 4 0 rfl rfl rfl (by decide)
abbrev eZ:= @MsgT.at_epoch
theorem MsgT.set_epoch(m:MsgT){o:Nat}(ho:o=177)(x:Int):(ints m.flat).set o (Value.int .i64 x)=ints ({m with epoch:=x}:MsgT).flat:=by subst ho;rw[bv,bv];exact(iK m).set 4 0 _ rfl rfl rfl (by decide)
abbrev Ox:= @MsgT.set_epoch
theorem MsgT.pt_ballot(m:MsgT){o:Nat}(j:Nat)(ho:o=178+j)(h:j<2){r:Option Value}(hr:(ints m.ballot.flat)[j]?=r):(ints m.flat)[o]?=r:=by subst ho;rw[←hr,bv];exact(iK m).at 5 j rfl rfl rfl h
theorem MsgT.sub_ballot(m:MsgT){o k:Nat}(j:Nat)(ho:o=178+j)(h:j+k≤2){r:List Value}(hr:((ints m.ballot.flat).drop j).take k=r):((ints m.flat).drop o).take k=r:=by subst ho;rw[←hr,bv];exact(iK m).sub 5 j k rfl rfl rfl h
abbrev jp:= @MsgT.sub_ballot
theorem MsgT.wr_ballot_(m:MsgT){o:Nat}(j:Nat){vs:List Value}{u':BallotT}(ho:o=178+j)(h:j+vs.length≤2)(hw:wr (ints m.ballot.flat) j vs=ints u'.flat):wr (ints m.flat) o vs=ints ({m with ballot:=u'}:MsgT).flat:=by subst ho;rw[bv,bv];exact(iK m).putIn 5 j vs rfl rfl rfl h hw
theorem MsgT.sp_ballot(m:MsgT):((ints m.flat).drop 178).take 2=ints m.ballot.flat:=jp m 0 rfl (by decide) (bn ((ap _):(ints m.ballot.flat).length=2))
abbrev oI:= @MsgT.sp_ballot
theorem MsgT.wp_ballot(m:MsgT)(u:BallotT):wr (ints m.flat) 178 (ints u.flat)=ints ({m with ballot:=u}:MsgT).flat:=MsgT.wr_ballot_ m 0 rfl (by rw[bm];exact dv ((ap _):(ints u.flat).length=2)) (cr (Eq.trans ((ap _):(ints m.ballot.flat).length=2) (Eq.symm ((ap _):(ints u.flat).length=2))))
abbrev Ow:= @MsgT.wp_ballot
theorem MsgT.sub_had(m:MsgT){o k:Nat}(j:Nat)(ho:o=180+j)(h:j+k≤2){r:List Value}(hr:((ints m.had.flat).drop j).take k=r):((ints m.flat).drop o).take k=r:=by subst ho;rw[←hr,bv];exact(iK m).sub 6 j k rfl rfl rfl h
abbrev Qx:= @MsgT.sub_had
theorem MsgT.wr_had_(m:MsgT){o:Nat}(j:Nat){vs:List Value}{u':BallotT}(ho:o=180+j)(h:j+vs.length≤2)(hw:wr (ints m.had.flat) j vs=ints u'.flat):wr (ints m.flat) o vs=ints ({m with had:=u'}:MsgT).flat:=by subst ho;rw[bv,bv];exact(iK m).putIn 6 j vs rfl rfl rfl h hw
theorem MsgT.sp_had(m:MsgT):((ints m.flat).drop 180).take 2=ints m.had.flat:=Qx m 0 rfl (by decide) (bn ((ap _):(ints m.had.flat).length=2))
theorem MsgT.wp_had(m:MsgT)(u:BallotT):wr (ints m.flat) 180 (ints u.flat)=ints ({m with had:=u}:MsgT).flat:=MsgT.wr_had_ m 0 rfl (by rw[bm];exact dv ((ap _):(ints u.flat).length=2)) (cr (Eq.trans ((ap _):(ints m.had.flat).length=2) (Eq.symm ((ap _):(ints u.flat).length=2))))
theorem MsgT.sub_change(m:MsgT){o k:Nat}(j:Nat)(ho:o=182+j)(h:j+k≤3){r:List Value}(hr:((ints m.change.flat).drop j).take k=r):((ints m.flat).drop o).take k=r:=by subst ho;rw[←hr,bv];exact(iK m).sub 7 j k rfl rfl rfl h
abbrev nB:= @MsgT.sub_change
theorem MsgT.wr_change_(m:MsgT){o:Nat}(j:Nat){vs:List Value}{u':ChangeT}(ho:o=182+j)(h:j+vs.length≤3)(hw:wr (ints m.change.flat) j vs=ints u'.flat):wr (ints m.flat) o vs=ints ({m with change:=u'}:MsgT).flat:=by subst ho;rw[bv,bv];exact(iK m).putIn 7 j vs rfl rfl rfl h hw
theorem MsgT.sp_change(m:MsgT):((ints m.flat).drop 182).take 3=ints m.change.flat:=nB m 0 rfl (by decide) (bn ((aK _):(ints m.change.flat).length=3))
theorem MsgT.wp_change(m:MsgT)(u:ChangeT):wr (ints m.flat) 182 (ints u.flat)=ints ({m with change:=u}:MsgT).flat:=MsgT.wr_change_ m 0 rfl (by rw[bm];exact dv ((aK _):(ints u.flat).length=3)) (cr (Eq.trans ((aK _):(ints m.change.flat).length=3) (Eq.symm ((aK _):(ints u.flat).length=3))))
abbrev Ov:= @MsgT.wp_change
theorem MsgT.sub_view(m:MsgT){o k:Nat}(j:Nat)(ho:o=185+j)(h:j+k≤7){r:List Value}(hr:((ints m.view.flat).drop j).take k=r):((ints m.flat).drop o).take k=r:=by subst ho;rw[←hr,bv];exact(iK m).sub 8 j k rfl rfl rfl h
abbrev vB:= @MsgT.sub_view
theorem MsgT.wr_view_(m:MsgT){o:Nat}(j:Nat){vs:List Value}{u':ViewT}(ho:o=185+j)(h:j+vs.length≤7)(hw:wr (ints m.view.flat) j vs=ints u'.flat):wr (ints m.flat) o vs=ints ({m with view:=u'}:MsgT).flat:=by subst ho;rw[bv,bv];exact(iK m).putIn 8 j vs rfl rfl rfl h hw
theorem MsgT.sp_view(m:MsgT):((ints m.flat).drop 185).take 7=ints m.view.flat:=vB m 0 rfl (by decide) (bn ((ai _):(ints m.view.flat).length=7))
theorem MsgT.wp_view(m:MsgT)(u:ViewT):wr (ints m.flat) 185 (ints u.flat)=ints ({m with view:=u}:MsgT).flat:=MsgT.wr_view_ m 0 rfl (by rw[bm];exact dv ((ai _):(ints u.flat).length=7)) (cr (Eq.trans ((ai _):(ints m.view.flat).length=7) (Eq.symm ((ai _):(ints u.flat).length=7))))
theorem RecT.sl(m:RecT):SL [[Value.int .i64 m.kind],[Value.int .i64 m.whose],ints m.row.flat,[Value.int .i64 m.epoch],ints m.ballot.flat,ints m.change.flat,ints m.view.flat] [1,1,174,1,2,3,7]:=(.cons rfl (.cons rfl (.cons (am _) (.cons rfl (.cons (ap _) (.cons (aK _) (.cons (ai _) .nil)))))))
abbrev mm:= @RecT.sl
abbrev RecT.sg(m:RecT):List (List Value):=[[Value.int .i64 m.kind],[Value.int .i64 m.whose],ints m.row.flat,[Value.int .i64 m.epoch],ints m.ballot.flat,ints m.change.flat,ints m.view.flat]
theorem RecT.eq(m:RecT):ints m.flat=[[Value.int .i64 m.kind],[Value.int .i64 m.whose],ints m.row.flat,[Value.int .i64 m.epoch],ints m.ballot.flat,ints m.change.flat,ints m.view.flat].flatten:=by simp[RecT.flat,ints]
abbrev fq:= @RecT.eq
theorem RecT.len(m:RecT):(ints m.flat).length=189:=by rw[fq,(mm m).len];rfl
abbrev bt:= @RecT.len
theorem RecT.at_kind(m:RecT){o:Nat}(ho:o=0):(ints m.flat)[o]?=some (Value.int .i64 m.kind):=by subst ho;rw[fq];exact(mm m).at 0 0 rfl rfl rfl (by decide)
abbrev kQ:= @RecT.at_kind
theorem RecT.at_whose(m:RecT){o:Nat}(ho:o=1):(ints m.flat)[o]?=some (Value.int .i64 m.whose):=by subst ho;rw[fq];exact(mm m).at 1 0 rfl rfl rfl (by decide)
abbrev Gm:= @RecT.at_whose
theorem RecT.set_whose(m:RecT){o:Nat}(ho:o=1)(x:Int):(ints m.flat).set o (Value.int .i64 x)=ints ({m with whose:=x}:RecT).flat:=by subst ho;rw[fq,fq];exact(mm m).set 1 0 _ rfl rfl rfl (by decide)
theorem RecT.sub_row(m:RecT){o k:Nat}(j:Nat)(ho:o=2+j)(h:j+k≤174){r:List Value}(hr:((ints m.row.flat).drop j).take k=r):((ints m.flat).drop o).take k=r:=by subst ho;rw[←hr,fq];exact(mm m).sub 2 j k rfl rfl rfl h
abbrev se:= @RecT.sub_row
theorem RecT.wr_row_(m:RecT){o:Nat}(j:Nat){vs:List Value}{u':RowT}(ho:o=2+j)(h:j+vs.length≤174)(hw:wr (ints m.row.flat) j vs=ints u'.flat):wr (ints m.flat) o vs=ints ({m with row:=u'}:RecT).flat:=by subst ho;rw[fq,fq];exact(mm m).putIn 2 j vs rfl rfl rfl h hw
theorem RecT.sp_row(m:RecT):((ints m.flat).drop 2).take 174=ints m.row.flat:=se m 0 rfl (by decide) (bn ((am _):(ints m.row.flat).length=174))
theorem RecT.wp_row(m:RecT)(u:RowT):wr (ints m.flat) 2 (ints u.flat)=ints ({m with row:=u}:RecT).flat:=RecT.wr_row_ m 0 rfl (by rw[bm];exact dv ((am _):(ints u.flat).length=174)) (cr (Eq.trans ((am _):(ints m.row.flat).length=174) (Eq.symm ((am _):(ints u.flat).length=174))))
theorem RecT.at_epoch(m:RecT){o:Nat}(ho:o=176):(ints m.flat)[o]?=some (Value.int .i64 m.epoch):=by subst ho;rw[fq];exact(mm m).at 3 0 rfl rfl rfl (by decide)
theorem RecT.set_epoch(m:RecT){o:Nat}(ho:o=176)(x:Int):(ints m.flat).set o (Value.int .i64 x)=ints ({m with epoch:=x}:RecT).flat:=by subst ho;rw[fq,fq];exact(mm m).set 3 0 _ rfl rfl rfl (by decide)
theorem RecT.pt_ballot(m:RecT){o:Nat}(j:Nat)(ho:o=177+j)(h:j<2){r:Option Value}(hr:(ints m.ballot.flat)[j]?=r):(ints m.flat)[o]?=r:=by subst ho;rw[←hr,fq];exact(mm m).at 4 j rfl rfl rfl h
theorem RecT.sub_ballot(m:RecT){o k:Nat}(j:Nat)(ho:o=177+j)(h:j+k≤2){r:List Value}(hr:((ints m.ballot.flat).drop j).take k=r):((ints m.flat).drop o).take k=r:=by subst ho;rw[←hr,fq];exact(mm m).sub 4 j k rfl rfl rfl h
abbrev qW:= @RecT.sub_ballot
theorem RecT.wr_ballot_(m:RecT){o:Nat}(j:Nat){vs:List Value}{u':BallotT}(ho:o=177+j)(h:j+vs.length≤2)(hw:wr (ints m.ballot.flat) j vs=ints u'.flat):wr (ints m.flat) o vs=ints ({m with ballot:=u'}:RecT).flat:=by subst ho;rw[fq,fq];exact(mm m).putIn 4 j vs rfl rfl rfl h hw
theorem RecT.sp_ballot(m:RecT):((ints m.flat).drop 177).take 2=ints m.ballot.flat:=qW m 0 rfl (by decide) (bn ((ap _):(ints m.ballot.flat).length=2))
theorem RecT.wp_ballot(m:RecT)(u:BallotT):wr (ints m.flat) 177 (ints u.flat)=ints ({m with ballot:=u}:RecT).flat:=RecT.wr_ballot_ m 0 rfl (by rw[bm];exact dv ((ap _):(ints u.flat).length=2)) (cr (Eq.trans ((ap _):(ints m.ballot.flat).length=2) (Eq.symm ((ap _):(ints u.flat).length=2))))
theorem RecT.sub_change(m:RecT){o k:Nat}(j:Nat)(ho:o=179+j)(h:j+k≤3){r:List Value}(hr:((ints m.change.flat).drop j).take k=r):((ints m.flat).drop o).take k=r:=by subst ho;rw[←hr,fq];exact(mm m).sub 5 j k rfl rfl rfl h
abbrev MR:= @RecT.sub_change
theorem RecT.wr_change_(m:RecT){o:Nat}(j:Nat){vs:List Value}{u':ChangeT}(ho:o=179+j)(h:j+vs.length≤3)(hw:wr (ints m.change.flat) j vs=ints u'.flat):wr (ints m.flat) o vs=ints ({m with change:=u'}:RecT).flat:=by subst ho;rw[fq,fq];exact(mm m).putIn 5 j vs rfl rfl rfl h hw
theorem RecT.sp_change(m:RecT):((ints m.flat).drop 179).take 3=ints m.change.flat:=MR m 0 rfl (by decide) (bn ((aK _):(ints m.change.flat).length=3))
theorem RecT.wp_change(m:RecT)(u:ChangeT):wr (ints m.flat) 179 (ints u.flat)=ints ({m with change:=u}:RecT).flat:=RecT.wr_change_ m 0 rfl (by rw[bm];exact dv ((aK _):(ints u.flat).length=3)) (cr (Eq.trans ((aK _):(ints m.change.flat).length=3) (Eq.symm ((aK _):(ints u.flat).length=3))))
theorem RecT.sub_view(m:RecT){o k:Nat}(j:Nat)(ho:o=182+j)(h:j+k≤7){r:List Value}(hr:((ints m.view.flat).drop j).take k=r):((ints m.flat).drop o).take k=r:=by subst ho;rw[←hr,fq];exact(mm m).sub 6 j k rfl rfl rfl h
abbrev P6:= @RecT.sub_view
theorem RecT.wr_view_(m:RecT){o:Nat}(j:Nat){vs:List Value}{u':ViewT}(ho:o=182+j)(h:j+vs.length≤7)(hw:wr (ints m.view.flat) j vs=ints u'.flat):wr (ints m.flat) o vs=ints ({m with view:=u'}:RecT).flat:=by subst ho;rw[fq,fq];exact(mm m).putIn 6 j vs rfl rfl rfl h hw
theorem RecT.sp_view(m:RecT):((ints m.flat).drop 182).take 7=ints m.view.flat:=P6 m 0 rfl (by decide) (bn ((ai _):(ints m.view.flat).length=7))
theorem RecT.wp_view(m:RecT)(u:ViewT):wr (ints m.flat) 182 (ints u.flat)=ints ({m with view:=u}:RecT).flat:=RecT.wr_view_ m 0 rfl (by rw[bm];exact dv ((ai _):(ints u.flat).length=7)) (cr (Eq.trans ((ai _):(ints m.view.flat).length=7) (Eq.symm ((ai _):(ints u.flat).length=7))))
theorem OpT.sl(m:OpT):SL [[Value.int .i64 m.kind],[Value.int .i64 m.at'],[Value.int .i64 m.to'],[Value.int .i64 m.key],[Value.int .i64 m.n],ints m.change.flat,[Value.int .i64 m.mask],[Value.int .i64 m.torn],[Value.int .i64 m.cut]] [1,1,1,1,1,3,1,1,1]:=(.cons rfl (.cons rfl (.cons rfl (.cons rfl (.cons rfl (.cons (aK _) (.cons rfl (.cons rfl (.cons rfl .nil)))))))))
abbrev yD:= @OpT.sl
abbrev OpT.sg(m:OpT):List (List Value):=[[Value.int .i64 m.kind],[Value.int .i64 m.at'],[Value.int .i64 m.to'],[Value.int .i64 m.key],[Value.int .i64 m.n],ints m.change.flat,[Value.int .i64 m.mask],[Value.int .i64 m.torn],[Value.int .i64 m.cut]]
theorem OpT.eq(m:OpT):ints m.flat=[[Value.int .i64 m.kind],[Value.int .i64 m.at'],[Value.int .i64 m.to'],[Value.int .i64 m.key],[Value.int .i64 m.n],ints m.change.flat,[Value.int .i64 m.mask],[Value.int .i64 m.torn],[Value.int .i64 m.cut]].flatten:=by simp[OpT.flat,ints]
abbrev pK:= @OpT.eq
theorem OpT.len(m:OpT):(ints m.flat).length=11:=by rw[pK,(yD m).len];rfl
abbrev pR:= @OpT.len
theorem OpT.at_kind(m:OpT){o:Nat}(ho:o=0):(ints m.flat)[o]?=some (Value.int .i64 m.kind):=by subst ho;rw[pK];exact(yD m).at 0 0 rfl rfl rfl (by decide)
abbrev c7:= @OpT.at_kind
theorem OpT.at_at'(m:OpT){o:Nat}(ho:o=1):(ints m.flat)[o]?=some (Value.int .i64 m.at'):=by subst ho;rw[pK];exact(yD m).at 1 0 rfl rfl rfl (by decide)
abbrev bM:= @OpT.at_at'
theorem OpT.at_to'(m:OpT){o:Nat}(ho:o=2):(ints m.flat)[o]?=some (Value.int .i64 m.to'):=by subst ho;rw[pK];exact(yD m).at 2 0 rfl rfl rfl (by decide)
abbrev ja:= @OpT.at_to'
theorem OpT.at_key(m:OpT){o:Nat}(ho:o=3):(ints m.flat)[o]?=some (Value.int .i64 m.key):=by subst ho;rw[pK];exact(yD m).at 3 0 rfl rfl rfl (by decide)
abbrev pL:= @OpT.at_key
theorem OpT.at_n(m:OpT){o:Nat}(ho:o=4):(ints m.flat)[o]?=some (Value.int .i64 m.n):=by subst ho;rw[pK];exact(yD m).at 4 0 rfl rfl rfl (by decide)
abbrev xP:= @OpT.at_n
theorem OpT.sub_change(m:OpT){o k:Nat}(j:Nat)(ho:o=5+j)(h:j+k≤3){r:List Value}(hr:((ints m.change.flat).drop j).take k=r):((ints m.flat).drop o).take k=r:=by subst ho;rw[←hr,pK];exact(yD m).sub 5 j k rfl rfl rfl h
theorem OpT.wr_change_(m:OpT){o:Nat}(j:Nat){vs:List Value}{u':ChangeT}(ho:o=5+j)(h:j+vs.length≤3)(hw:wr (ints m.change.flat) j vs=ints u'.flat):wr (ints m.flat) o vs=ints ({m with change:=u'}:OpT).flat:=by subst ho;rw[pK,pK];exact(yD m).putIn 5 j vs rfl rfl rfl h hw
theorem OpT.sp_change(m:OpT):((ints m.flat).drop 5).take 3=ints m.change.flat:=OpT.sub_change m 0 rfl (by decide) (bn ((aK _):(ints m.change.flat).length=3))
theorem OpT.wp_change(m:OpT)(u:ChangeT):wr (ints m.flat) 5 (ints u.flat)=ints ({m with change:=u}:OpT).flat:=OpT.wr_change_ m 0 rfl (by rw[bm];exact dv ((aK _):(ints u.flat).length=3)) (cr (Eq.trans ((aK _):(ints m.change.flat).length=3) (Eq.symm ((aK _):(ints u.flat).length=3))))
theorem OpT.at_mask(m:OpT){o:Nat}(ho:o=8):(ints m.flat)[o]?=some (Value.int .i64 m.mask):=by subst ho;rw[pK];exact(yD m).at 6 0 rfl rfl rfl (by decide)
theorem OpT.at_torn(m:OpT){o:Nat}(ho:o=9):(ints m.flat)[o]?=some (Value.int .i64 m.torn):=by subst ho;rw[pK];exact(yD m).at 7 0 rfl rfl rfl (by decide)
theorem OpT.at_cut(m:OpT){o:Nat}(ho:o=10):(ints m.flat)[o]?=some (Value.int .i64 m.cut):=by subst ho;rw[pK];exact(yD m).at 8 0 rfl rfl rfl (by decide)
theorem ReplyT.sl(m:ReplyT):SL [[Value.int .i64 m.op],[Value.int .i64 m.err],[Value.int .i64 m.value]] [1,1,1]:=(.cons rfl (.cons rfl (.cons rfl .nil)))
abbrev ReplyT.sg(m:ReplyT):List (List Value):=[[Value.int .i64 m.op],[Value.int .i64 m.err],[Value.int .i64 m.value]]
theorem ReplyT.eq(m:ReplyT):ints m.flat=[[Value.int .i64 m.op],[Value.int .i64 m.err],[Value.int .i64 m.value]].flatten:=by simp[ReplyT.flat,ints]
theorem ReplyT.len(m:ReplyT):(ints m.flat).length=3:=by rw[ReplyT.eq,(ReplyT.sl m).len];rfl
end Api
end
section
namespace Leg
open Go Api
variable {P:Program} {w0:World} {F:Hl} {n:Nat} {ops:Array Oper} {Q:QQ} {D:List Deferred} {L:List (Nat×Value)} {H:List HP} {d:Nat} {o:Oper} {l:List Oper}
theorem SW{o:Oper}{l:List Oper}{α:Type}{f:α→List Int}{t e:TypeId}{p y:Operand}{b m:Nat}{x x0:α}(k:Nat)(hs:(P.info? t).map (·.size)=some m)(hf: ∀x,(ints (f x)).length=m)(h:TL P w0 F n ops Q l D L (H.set k (an b (ints (f x)) e)))(hw:Want n D ops o L:=by first|exact ab rfl|exact co rfl rfl rfl)(hd:o.dst=none:=by exact rfl)(ho:o.op= .store t p y:=by exact rfl)(hp:cI L p=some (.pointer (some ⟨b,0,none⟩)):=by exact rfl)(hy:cI L y=some (.agg (ints (f x)).toArray):=by exact rfl)(hk:Nat.blt k H.length=true:=by exact rfl)(hH:H.getD k (λ_=>True)=an b (ints (f x0)) e:=by exact rfl):TL P w0 F n ops Q (o::l) D L H:=bR (vs:=ints (f x)) hw ho hd hp hy rfl (by rw[hf];exact hs) (bB _) hk hH (by rw[hf,hf];omega) (cr ((hf x0).trans (hf x).symm)) rfl h
theorem LY{S:World→Prop}{d fuel:Nat}{listed:Array Bool}{o:Oper}{α:Type}{f:α→List Int}{t e:TypeId}{x:Operand}{dt:TypeDesc}{b m:Nat}{y:α}{z:Nat×Nat}(i:Nat)(ht:P.underlying t=some dt)(hz:(P.info? t).map (·.size)=some m)(hf: ∀x,(ints (f x)).length=m)(h:TD P w0 F n ops Q S fuel (listed.setIfInBounds i true) D ((d, .agg (ints (f y)).toArray)::L) H)(hi:ops[i]?=some o:=by exact rfl)(hw:Want n D ops o L:=by first|exact ab rfl|exact co rfl rfl rfl)(hd:o.dst=some d:=by exact rfl)(hn:Nat.blt d n=true:=by exact rfl)(hs:(Region.noSelect ops&&Region.free .any ops listed i&&(Region.ready .any ops listed).contains i)=true:=by kernel_rfl)(hQ: ∀c a v w,Q (.panic c) (a.put o.dst v) w→Q (.panic c) a w:=by exact λ_ _ _ _ h=>h)(ho:o.op= .load t x:=by exact rfl)(hp:eG dt=false:=by exact rfl)(hx:cI L x=some (.pointer (some ⟨b,0,none⟩)):=by exact rfl)(hR:Rd S b (.cells (ints (f y)).toArray e z):=by first|exact λ_ h=>h.2.1|exact λ_ h=>h.2.2.1|exact λ_ h=>h.2.2.2.1|exact λ_ h=>h.2.2.2.2.1|exact λ_ h=>h.2.2.2.2.2.1):TD P w0 F n ops Q S (fuel+1) listed D L H:=by
  rw[au,au]at hs;exact JL hi hs.1.1 hs.1.2 hs.2 hQ hw hd hn (aL ho ht hp hz hx hR (hf y) (by rw[bq,aD (by rw[hf];exact aM _)])) h
theorem SP{o:Oper}{l:List Oper}{α β:Type}{f:α→List Int}{c:β→List Value}{put:β→α→β}{t e:TypeId}{p y:Operand}{b j m m':Nat}{x:α}{z:β}(k:Nat)(hs:(P.info? t).map (·.size)=some m)(hf: ∀x,(ints (f x)).length=m)(hc: ∀z,(c z).length=m')(hw': ∀z x,wr (c z) j (ints (f x))=c (put z x))(h:TL P w0 F n ops Q l D L (H.set k (an b (c (put z x)) e)))(hw:Want n D ops o L:=by first|exact ab rfl|exact co rfl rfl rfl)(hd:o.dst=none:=by exact rfl)(ho:o.op= .store t p y:=by exact rfl)(hp:cI L p=some (.pointer (some ⟨b,j,none⟩)):=by exact rfl)(hy:cI L y=some (.agg (ints (f x)).toArray):=by exact rfl)(hk:Nat.blt k H.length=true:=by exact rfl)(hH:H.getD k (λ_=>True)=an b (c z) e:=by exact rfl)(hj:Nat.ble (j+m) m'=true:=by first|exact rfl|exact Nat.ble_eq_true_of_le (by omega)):TL P w0 F n ops Q (o::l) D L H:=bR (vs:=ints (f x)) hw ho hd hp hy rfl (by rw[hf];exact hs) (bB _) hk hH (by rw[hf,hc];exact e7 hj) (hw' z x) rfl h
theorem SS{o:Oper}{l:List Oper}{t e:TypeId}{x y:Operand}{b j m:Nat}{cs cs':List Value}{v:Value}(k:Nat)(hs:(P.info? t).map (·.size)=some 1)(hl:cs.length=m)(hc:cs.set j v=cs')(h:TL P w0 F n ops Q l D L (H.set k (an b cs' e)))(hw:Want n D ops o L:=by first|exact ab rfl|exact co rfl rfl rfl)(hd:o.dst=none:=by exact rfl)(ho:o.op= .store t x y:=by exact rfl)(hx:cI L x=some (.pointer (some ⟨b,j,none⟩)):=by exact rfl)(hy:cI L y=some v:=by exact rfl)(h1:v.oneCell'=true:=by exact rfl)(hk:Nat.blt k H.length=true:=by exact rfl)(hH:H.getD k (λ_=>True)=an b cs e:=by exact rfl)(hj:Nat.blt j m=true:=by first|exact rfl|exact Nat.ble_eq_true_of_le (by omega)):TL P w0 F n ops Q (o::l) D L H:=cd hw ho hd hx hy h1 hs hk hH (hl▸lb hj) hc rfl h
theorem LW{α:Type}{f:α→List Int}{t e:TypeId}{x:Operand}{dt:TypeDesc}{b m:Nat}{z:α}(k:Nat)(ht:P.underlying t=some dt)(hs:(P.info? t).map (·.size)=some m)(hf: ∀x,(ints (f x)).length=m)(h:TL P w0 F n ops Q l D ((d, .agg (ints (f z)).toArray)::L) H)(hw:Want n D ops o L:=by first|exact ab rfl|exact co rfl rfl rfl)(hd:o.dst=some d:=by exact rfl)(hn:Nat.blt d n=true:=by exact rfl)(ho:o.op= .load t x:=by exact rfl)(hp:eG dt=false:=by exact rfl)(hx:cI L x=some (.pointer (some ⟨b,0,none⟩)):=by exact rfl)(hk:Nat.blt k H.length=true:=by exact rfl)(hH:H.getD k (λ_=>True)=an b (ints (f z)) e:=by exact rfl):TL P w0 F n ops Q (o::l) D L H:=lp hw hd hn (aL ho ht hp hs hx (fu k hk hH) (hf z) (bn (hf z))) h
theorem LV{α β:Type}{f:α→List Int}{c:β→List Value}{g:β→α}{t e:TypeId}{x:Operand}{dt:TypeDesc}{b j m:Nat}{z:β}{y:α}(k:Nat)(ht:P.underlying t=some dt)(hs:(P.info? t).map (·.size)=some m)(hf: ∀x,(ints (f x)).length=m)(hg: ∀z,((c z).drop j).take m=ints (f (g z)))(h:TL P w0 F n ops Q l D ((d, .agg (ints (f y)).toArray)::L) H)(hw:Want n D ops o L:=by first|exact ab rfl|exact co rfl rfl rfl)(hd:o.dst=some d:=by exact rfl)(hn:Nat.blt d n=true:=by exact rfl)(ho:o.op= .load t x:=by exact rfl)(hp:eG dt=false:=by exact rfl)(hx:cI L x=some (.pointer (some ⟨b,j,none⟩)):=by exact rfl)(hk:Nat.blt k H.length=true:=by exact rfl)(hH:H.getD k (λ_=>True)=an b (c z) e:=by exact rfl)(hyz:g z=y:=by exact rfl):TL P w0 F n ops Q (o::l) D L H:=lp hw hd hn (aL ho ht hp hs hx (fu k hk hH) (hf _) ((hg z).trans (by rw[hyz]))) h
theorem LT{t e:TypeId}{x:Operand}{dt:TypeDesc}{b j:Nat}{cs:List Value}(k:Nat)(ht:P.underlying t=some dt)(v:Value)(h:TL P w0 F n ops Q l D ((d,v)::L) H)(hw:Want n D ops o L:=by first|exact ab rfl|exact co rfl rfl rfl)(hd:o.dst=some d:=by exact rfl)(hn:Nat.blt d n=true:=by exact rfl)(ho:o.op= .load t x:=by exact rfl)(hp:eG dt=true:=by exact rfl)(hx:cI L x=some (.pointer (some ⟨b,j,none⟩)):=by exact rfl)(hk:Nat.blt k H.length=true:=by exact rfl)(hH:H.getD k (λ_=>True)=an b cs e:=by exact rfl)(hc:cs[j]?=some v):TL P w0 F n ops Q (o::l) D L H:=lp hw hd hn (fY ho ht hp hx (fu k hk hH) hc) h
theorem lu{P:Program}{n:Nat}{D:List Deferred}{L:List (Nat×Value)}{S:World→Prop}{o:Oper}{α:Type}{f:α→List Int}{g:α→List (List Value)}{t:TypeId}{ps:Array (Nat×Operand)}{fs:Array Field}{vals:List (Nat×Value)}(z x:α)(parts:List (Nat×List Value))(ht:P.underlying t=some (.struct fs))(hg: ∀m,ints (f m)=(g m).flatten)(ho:o.op= .build t ps:=by exact rfl)(hx:JW L ps.toList=some vals:=by exact rfl)(hz:(P.info? t).map (·.zero)=some (some (.agg (g z).flatten.toArray)):=by kernel_rfl)(hp:fs.toList.mapM (λf=>(P.info? f.type).map λi=>(f.offset,i.size))=some (vl (g z) 0):=by kernel_rfl)(hv:vals.map (λp=>(p.1,p.2.cells))=parts.map (λp=>(p.1,p.2.toArray)):=by exact rfl)(h:kZ (g z) parts=some (g x):=by repeat (first|exact lS|exact rfl|refine fA rfl (by first|exact rfl|exact(am _).trans (am _).symm|exact(ai _).trans (ai _).symm|exact(ap _).trans (ap _).symm|exact(aK _).trans (aK _).symm|exact(bH _).trans (bH _).symm) ?_)):PV P n D L S o (.agg (ints (f x)).toArray):=(hg x).symm▸yC ho hx ht hz hp hv h rfl
end Leg
end

section
namespace Codec
open Go Leg Api
theorem p3(c:UInt8):UInt8.ofNat c.toNat=c:=by simp
theorem zh: ∀(bs:List UInt8) (k acc m:Nat) (r:List UInt8),k≤9→kL k acc bs=some (m,r)→∃p,m=acc+p*2^ (7*k)∧bs=ut p++r∧(0<k→0<p)∧p<2^ (7* (9-k))
 | [],k,acc,m,r,_,h=>by simp[kL]at h
 |c::cs,k,acc,m,r,hk,h=>by
  have hc:c.toNat<256:=c.toNat_lt;simp only[kL]at h;split at h
  · cases h
  · rename_i h9
    split at h
    · rename_i h128
      obtain⟨p,h1,h2,h3,h4⟩:=zh cs (k+1) _ m r (by omega) h;have hp:=h3 (by omega);refine⟨c.toNat%128+128*p,?_,?_,λ_=>by omega,?_⟩
      · rw[h1,show 7* (k+1)=7*k+7 by omega,Nat.pow_add,gd,pS]
        congr 2;rw[Nat.mul_comm 128 p,Nat.mul_assoc,Nat.mul_comm 128]
      · rw[pi (by omega),show(c.toNat%128+128*p)%128+128=c.toNat by omega,show(c.toNat%128+128*p) / 128=p by omega,p3,h2];rfl
      · rw[show 7* (9-k)=7* (9- (k+1))+7 by omega,Nat.pow_add];omega
    · rename_i h128
      split at h
      · cases h
      · rename_i h0
        simp only[Option.some.injEq,Prod.mk.injEq]at h;obtain⟨rfl,rfl⟩:=h;refine⟨c.toNat,by rw[show c.toNat%128=c.toNat by omega],by rw[nR (by omega),p3];rfl,λ_=>by omega,?_⟩;have:2^7≤2^ (7* (9-k)):=Nat.pow_le_pow_right (by decide) (by omega);omega
theorem fj{bs r:List UInt8}{n:Int}(h:nC bs=some (n,r)):0≤n∧n<9223372036854775808∧bs=jQ n++r:=by
 simp only[nC]at h;split at h
 · cases h
 · rename_i m r' hm
   simp only[Option.some.injEq,Prod.mk.injEq]at h;obtain⟨rfl,rfl⟩:=h;obtain⟨p,h1,h2,_,h4⟩:=zh bs 0 0 m r' (by omega) hm;simp at h1;subst h1;refine⟨by omega,by simp at h4;omega,?_⟩;rw[h2,jQ];congr 2;simp at h4;omega
def zP(n:Int):Prop:=0≤n∧n<1099511627777
structure TameC(c:CellT):Prop where
 inn:zP c.inn
 out:zP c.out
 given: ∀(j:Nat) (h:j<5),zP c.given[j]
structure TameR(x:RowT):Prop where
 version:0≤x.version∧x.version<9223372036854775808
 cells: ∀(k:Nat) (h:k<4),TameC x.cells[k]
 heir: ∀(i:Nat) (h:i<5),0≤x.heir[i]∧x.heir[i]<9223372036854775808
 left: ∀(i k:Nat) (h:i<5) (hk:k<4),TameC x.left[i][k]
 none: ∀(i:Nat) (h:i<5),x.heir[i]=(0:Int)→x.left[i]=RowT.zero.left[0]
def Io(c:CellT):CellT:=⟨JV c.inn,JV c.out,c.given.map JV⟩
theorem Im(c:CellT):TameC (Io c):=by
 have h:=λn=>MB n
 refine⟨⟨(h _).1,by have:=(h c.inn).2;show JV c.inn<_;omega⟩,⟨(h _).1,by have:=(h c.out).2;show JV c.out<_;omega⟩,λj hj=>?_⟩;show zP ((c.given.map JV)[j]);rw[Vector.getElem_map];exact⟨(h _).1,by have:=(h c.given[j]).2;omega⟩
theorem Ee:Io CellT.zero=CellT.zero:=by
 simp only[Io,CellT.zero,CellT.mk.injEq];exact⟨by decide,by decide,by simp[JV]⟩
theorem sq{n:Int}(h:0≤n∧n<9223372036854775808):(Lit.int .i64 n).wf=true:=by
 have m1:IntKind.i64.min= -9223372036854775808:=by decide
 have m2:IntKind.i64.max=9223372036854775807:=by decide
 simp only[Lit.wf,m1,m2,au,decide_eq_true_eq];omega
theorem TameC.wf{c:CellT}(h:TameC c):WF c.flat:=λn hn=>by
 simp only[CellT.flat,bV]at hn;have s: ∀n,zP n→(Lit.int .i64 n).wf=true:=λn h=>sq ⟨h.1,by have:=h.2;omega⟩
 rcases hn with rfl|rfl|hn
 · exact s _ h.inn
 · exact s _ h.out
 · obtain⟨j,hj,rfl⟩:=fB hn
   rw[aA]at hj;have:=s _ (h.given j hj)
   simpa using this
theorem Bt{v:Vector CellT 4}(h: ∀(k:Nat) (hk:k<4),TameC v[k]):WF (bT v.toList):=λn hn=>by
 obtain⟨c,hc,hn⟩:=kp.1 hn;obtain⟨j,hj,rfl⟩:=fB hc;rw[aA]at hj;have:=(h j hj).wf n;simp only[Vector.getElem_toList]at hn;exact this hn
theorem TameR.wf{x:RowT}(h:TameR x):WF x.flat:=λn hn=>by
 simp only[RowT.flat,bV,bA]at hn;rcases hn with rfl|hn|hn|hn
 · exact sq h.version
 · exact Bt h.cells n hn
 · obtain⟨j,hj,rfl⟩:=fB hn
   rw[aA]at hj
   simpa using sq (h.heir j hj)
 · obtain⟨v,hv,hn⟩:=kp.1 hn
   obtain⟨j,hj,rfl⟩:=fB hv;rw[aA]at hj;simp only[Vector.getElem_toList]at hn;exact Bt (λk hk=>h.left j k hj hk) n hn
theorem gh{P:Program}{t:TypeId}{l:List Int}{c:Nat}(hu:(match P.underlying t with|some (.struct _)|some (.array _ _)=>true|_=>false)=true)(hc:P.cellsOf t=c)(hl:l.length=c):(agI l).formed P t=true:=by
 have e:((ints l).toArray.size==P.cellsOf t)=true:=by simp[ints,hl,hc]
 unfold agI Value.formed;split at hu
 · rename_i h;simp only[h];exact e
 · rename_i h;simp only[h];exact e
 · cases hu
theorem ba{α β:Type}{p:Ps α}{q:α→Ps β}{bs r:List UInt8}{b:β}(h:pb p q bs=some (b,r)): ∃a r',p bs=some (a,r')∧q a r'=some (b,r):=by
 cases e:p bs with
 |none=>rw[bY e]at h;cases h
 |some x=>obtain⟨a,r'⟩:=x;rw[aF e]at h;exact⟨a,r',rfl,h⟩
theorem fO{α:Type}{a b:α}{bs r:List UInt8}(h:pr a bs=some (b,r)):a=b∧bs=r:=by
 simp only[pr,Option.some.injEq,Prod.mk.injEq]at h;exact h
theorem cR{lim n:Int}{bs r:List UInt8}(h:fF lim bs=some (n,r)):(0≤n∧n<lim∧n<9223372036854775808)∧bs=jQ n++r:=by
 obtain⟨a,r',h1,h2⟩:=ba h;obtain⟨k1,k2,k3⟩:=fj h1;split at h2
 · cases h2
 · obtain⟨rfl,rfl⟩:=fO h2
   exact⟨⟨k1,by omega,k2⟩,k3⟩
theorem zM{c:CellT}{bs r:List UInt8}(h:mA bs=some (c,r)):TameC c∧bs=bb c.flat++r:=by
 obtain⟨i,_,h1,h⟩:=ba h;obtain⟨o,_,h2,h⟩:=ba h;obtain⟨a,_,h3,h⟩:=ba h;obtain⟨b,_,h4,h⟩:=ba h;obtain⟨d,_,h5,h⟩:=ba h;obtain⟨e,_,h6,h⟩:=ba h;obtain⟨f,_,h7,h⟩:=ba h;obtain⟨rfl,rfl⟩:=fO h;obtain⟨k1,rfl⟩:=cR h1;obtain⟨k2,rfl⟩:=cR h2;obtain⟨k3,rfl⟩:=cR h3;obtain⟨k4,rfl⟩:=cR h4;obtain⟨k5,rfl⟩:=cR h5;obtain⟨k6,rfl⟩:=cR h6;obtain⟨k7,rfl⟩:=cR h7;have s: ∀{n:Int},(0≤n∧n<1099511627777∧n<9223372036854775808)→zP n:=λh=>⟨h.1,h.2.1⟩
 refine⟨⟨s k1,s k2,λj hj=>?_⟩,by simp[CellT.flat,bb]⟩
 match j,hj with
 |0,_=>exact s k3
 |1,_=>exact s k4
 |2,_=>exact s k5
 |3,_=>exact s k6
 |4,_=>exact s k7
theorem oi{v:ViewT}{bs r:List UInt8}(h:m4 bs=some (v,r)):((0≤v.epoch∧v.epoch<9223372036854775808)∧(0≤v.members∧v.members<32)∧∀(i:Nat) (hi:i<5),0≤v.heirs[i]∧v.heirs[i]<6)∧bs=bb v.flat++r:=by
 obtain⟨i,_,h1,h⟩:=ba h;obtain⟨o,_,h2,h⟩:=ba h;obtain⟨a,_,h3,h⟩:=ba h;obtain⟨b,_,h4,h⟩:=ba h;obtain⟨d,_,h5,h⟩:=ba h;obtain⟨e,_,h6,h⟩:=ba h;obtain⟨f,_,h7,h⟩:=ba h;obtain⟨rfl,rfl⟩:=fO h;obtain⟨k1,k1',rfl⟩:=fj h1;obtain⟨k2,rfl⟩:=cR h2;obtain⟨k3,rfl⟩:=cR h3;obtain⟨k4,rfl⟩:=cR h4;obtain⟨k5,rfl⟩:=cR h5;obtain⟨k6,rfl⟩:=cR h6;obtain⟨k7,rfl⟩:=cR h7;refine⟨⟨⟨k1,k1'⟩,⟨k2.1,k2.2.1⟩,λj hj=>?_⟩,by simp[ViewT.flat,bb]⟩
 match j,hj with
 |0,_=>exact⟨k3.1,k3.2.1⟩
 |1,_=>exact⟨k4.1,k4.2.1⟩
 |2,_=>exact⟨k5.1,k5.2.1⟩
 |3,_=>exact⟨k6.1,k6.2.1⟩
 |4,_=>exact⟨k7.1,k7.2.1⟩
theorem nT{c:ChangeT}{bs r:List UInt8}(h:lL bs=some (c,r)):((0≤c.kind∧c.kind<2)∧(0≤c.who∧c.who<5)∧(0≤c.heir∧c.heir<5))∧bs=bb c.flat++r:=by
 obtain⟨a,_,h1,h⟩:=ba h;obtain⟨b,_,h2,h⟩:=ba h;obtain⟨d,_,h3,h⟩:=ba h;obtain⟨rfl,rfl⟩:=fO h;obtain⟨k1,rfl⟩:=cR h1;obtain⟨k2,rfl⟩:=cR h2;obtain⟨k3,rfl⟩:=cR h3;exact⟨⟨⟨k1.1,k1.2.1⟩,⟨k2.1,k2.2.1⟩,⟨k3.1,k3.2.1⟩⟩,by simp[ChangeT.flat,bb]⟩
theorem jH{b:BallotT}{bs r:List UInt8}(h:kA bs=some (b,r)):((0≤b.round∧b.round<9223372036854775808)∧(0≤b.who∧b.who<5))∧bs=bb b.flat++r:=by
 obtain⟨a,_,h1,h⟩:=ba h;obtain⟨d,_,h2,h⟩:=ba h;obtain⟨rfl,rfl⟩:=fO h;obtain⟨k1,k1',rfl⟩:=fj h1;obtain⟨k2,rfl⟩:=cR h2;exact⟨⟨⟨k1,k1'⟩,⟨k2.1,k2.2.1⟩⟩,by simp[BallotT.flat,bb]⟩
theorem xA: ∀(m k:Nat) (x y:RowT) (bs r:List UInt8),m=4-k→k≤4→nq m k x bs=some (y,r)→
 (y.version=x.version∧y.heir=x.heir∧y.left=x.left)∧(∀j (h:j<4),j<k→y.cells[j]=x.cells[j])∧(∀j (h:j<4),k≤j→TameC y.cells[j])∧bs=bb (bT (y.cells.toList.drop k))++r
 |0,k,x,y,bs,r,hm,hk,h=>by
  obtain⟨rfl,rfl⟩:=fO h;obtain rfl:k=4:=by omega
  exact⟨⟨rfl,rfl,rfl⟩,λ_ _ _=>rfl,λj h h'=>by omega,by rw[fw (by simp)];rfl⟩
 |m+1,k,x,y,bs,r,hm,hk,h=>by
  have hk4:k<4:=by omega
  obtain⟨c,r',h1,h2⟩:=ba h;obtain⟨k1,rfl⟩:=zM h1;rw[dif_pos hk4]at h2;obtain⟨i1,i2,i3,rfl⟩:=xA m (k+1) _ y r' r (by omega) (by omega) h2;have e:y.cells[k]=c:=by rw[i2 k hk4 (by omega)];simp
  refine⟨i1,λj h hj=>by rw[i2 j h (by omega)];simp[Vector.getElem_set,show k≠j by omega],λj h hj=>?_,?_⟩
  · by_cases q:j=k
    · subst q;rw[e];exact k1
    · exact i3 j h (by omega)
  · rw[pg (l:=y.cells.toList) (k:=k) (by simpa using hk4),Vector.getElem_toList,e,aV]
theorem zp{i:Nat}(hi:i<5): ∀(m k:Nat) (x y:RowT) (bs r:List UInt8),m=4-k→k≤4→qk m i k x bs=some (y,r)→
 (y.version=x.version∧y.heir=x.heir∧y.cells=x.cells)∧(∀j (h:j<5),j≠i→y.left[j]=x.left[j])∧(∀j (h:j<4),j<k→y.left[i][j]=x.left[i][j])∧(∀j (h:j<4),k≤j→TameC y.left[i][j])∧bs=bb (bT (y.left[i].toList.drop k))++r
 |0,k,x,y,bs,r,hm,hk,h=>by
  obtain⟨rfl,rfl⟩:=fO h;obtain rfl:k=4:=by omega
  exact⟨⟨rfl,rfl,rfl⟩,λ_ _ _=>rfl,λ_ _ _=>rfl,λj h h'=>by omega,by rw[fw (by simp)];rfl⟩
 |m+1,k,x,y,bs,r,hm,hk,h=>by
  have hk4:k<4:=by omega
  obtain⟨c,r',h1,h2⟩:=ba h;obtain⟨k1,rfl⟩:=zM h1;rw[dif_pos ⟨hi,hk4⟩]at h2;obtain⟨i1,i2,i3,i4,rfl⟩:=zp hi m (k+1) _ y r' r (by omega) (by omega) h2;have e:y.left[i][k]=c:=by rw[i3 k hk4 (by omega)];simp
  refine⟨i1,λj h hj=>by rw[i2 j h hj];simp[Vector.getElem_set,Ne.symm hj],λj h hj=>by rw[i3 j h (by omega)];simp[Vector.getElem_set,show k≠j by omega],λj h hj=>?_,?_⟩
  · by_cases q:j=k
    · subst q;rw[e];exact k1
    · exact i4 j h (by omega)
  · rw[pg (l:=y.left[i].toList) (k:=k) (by simpa using hk4),Vector.getElem_toList,e,aV]
theorem tS:TameC CellT.zero:=by rw[←Ee];exact Im _
theorem rP: ∀(m i:Nat) (x y:RowT) (bs r:List UInt8),m=5-i→i≤5→(∀j (h:j<5),i≤j→x.left[j]=RowT.zero.left[0])→jC m i x bs=some (y,r)→
 (y.version=x.version∧y.cells=x.cells)∧(∀j (h:j<5),j<i→y.heir[j]=x.heir[j]∧y.left[j]=x.left[j])∧
 (∀j (h:j<5),i≤j→(0≤y.heir[j]∧y.heir[j]<9223372036854775808)∧(∀k (hk:k<4),TameC y.left[j][k])∧(y.heir[j]=(0:Int)→y.left[j]=RowT.zero.left[0]))∧bs=gT y m i++r
 |0,i,x,y,bs,r,hm,hi,hz,h=>by
  obtain⟨rfl,rfl⟩:=fO h;obtain rfl:i=5:=by omega
  exact⟨⟨rfl,rfl⟩,λ_ _ _=>⟨rfl,rfl⟩,λj h h'=>by omega,rfl⟩
 |m+1,i,x,y,bs,r,hm,hi,hz,h=>by
  have hi5:i<5:=by omega
  have zt: ∀k (hk:k<4),TameC (RowT.zero.left[0])[k]:=λk hk=>by
   match k,hk with
   |0,_|1,_|2,_|3,_=>exact tS
  obtain⟨n,r',h1,h2⟩:=ba h;obtain⟨k1,k2,rfl⟩:=fj h1;simp only[dif_pos hi5]at h2;split at h2
  · rename_i hn
    obtain⟨z,r2,h3,h4⟩:=ba h2;obtain⟨⟨i1,i2,i3⟩,i4,_,i5,rfl⟩:=zp hi5 4 0 _ z r' r2 rfl (by omega) h3;obtain⟨⟨j1,j2⟩,j3,j4,rfl⟩:=rP m (i+1) z y r2 r (by omega) (by omega) (λj h hj=>by rw[i4 j h (by omega)];exact hz j h (by omega)) h4;have e1:y.heir[i]=n:=by rw[(j3 i hi5 (by omega)).1,show z.heir[i]=(x.heir.set i n)[i]from by rw[i2]];simp
    have e2:y.left[i]=z.left[i]:=(j3 i hi5 (by omega)).2;refine⟨⟨by rw[j1,i1],by rw[j2,i3]⟩,λj h hj=>⟨?_,?_⟩,λj h hj=>?_,?_⟩
    · rw[(j3 j h (by omega)).1,show z.heir[j]=(x.heir.set i n)[j]from by rw[i2]];simp[Vector.getElem_set,show i≠j by omega]
    · rw[(j3 j h (by omega)).2,i4 j h (by omega)]
    · by_cases q:j=i
      · subst q
        rw[e1,e2];exact⟨⟨k1,k2⟩,λk hk=>i5 k hk (by omega),λe=>by omega⟩
      · exact j4 j h (by omega)
    · simp only[gT,dif_pos hi5,e1,if_pos hn,e2,aV,bq]
  · rename_i hn
    obtain⟨⟨j1,j2⟩,j3,j4,rfl⟩:=rP m (i+1) {x with heir:=x.heir.set i n} y r' r (by omega) (by omega) (λj h hj=>hz j h (by omega)) h2;have e1:y.heir[i]=n:=by rw[(j3 i hi5 (by omega)).1];simp
    have e2:y.left[i]=x.left[i]:=(j3 i hi5 (by omega)).2;refine⟨⟨j1,j2⟩,λj h hj=>⟨?_,?_⟩,λj h hj=>?_,?_⟩
    · rw[(j3 j h (by omega)).1];simp[Vector.getElem_set,show i≠j by omega]
    · rw[(j3 j h (by omega)).2]
    · by_cases q:j=i
      · subst q
        rw[e1,e2,hz j hi5 (aM _)];exact⟨⟨k1,k2⟩,zt,λ_=>rfl⟩
      · exact j4 j h (by omega)
    · simp only[gT,dif_pos hi5,e1,if_neg hn,bu,aU,aV]
theorem sN{x:RowT}{bs r:List UInt8}(h:vj bs=some (x,r)):TameR x∧bs=iS x++r:=by
 obtain⟨n,r1,h1,h'⟩:=ba h;clear h;obtain⟨k1,k2,rfl⟩:=fj h1;replace h':pb (nq 4 0 {RowT.zero with version:=n}) (jC 5 0) r1=some (x,r):=h';obtain⟨y,r2,h2,h3⟩:=ba h';clear h';obtain⟨⟨i1,i2,i3⟩,_,i4,rfl⟩:=xA 4 0 _ y r1 r2 rfl (by omega) h2
 obtain⟨⟨j1,j2⟩,_,j3,rfl⟩:=rP 5 0 y x r2 r rfl (by omega) (λj h _=>by
  rw[show y.left[j]=RowT.zero.left[j]from by rw[i3]]
  match j,h with
  |0,_|1,_|2,_|3,_|4,_=>rfl) h3
 have ev:x.version=n:=by rw[j1,i1]
 refine⟨⟨by rw[ev];exact⟨k1,k2⟩,λk hk=>by rw[show x.cells[k]=y.cells[k]from by rw[j2]];exact i4 k hk (by omega),λi hi=>(j3 i hi (by omega)).1,λi k hi hk=>(j3 i hi (by omega)).2.1 k hk,λi hi=>(j3 i hi (by omega)).2.2⟩,?_⟩;rw[iS,ev,j2,bq];simp only[aV]
end Codec
end

section
namespace Api
open Go Leg Codec
def IL(n:Int):Bool:=decide (0≤n∧n≤1099511627776)
def uA:List Int→Int→Int×Int
 | [],s=>(s,0)
 |n::l,s=>if IL n then(if n>1099511627776-s then(0,6)else uA l (s+n))else(0,5)
def MW(c:CellT):Bool:=IL c.inn&&IL c.out&&decide ((uA c.given.toList 0).2=0)
def ED(v:Vector CellT 4):Bool:=decide (∀k (h:k<4),MW v[k]=true)
def EX(h:Int)(l:Vector CellT 4):Bool:=decide (0≤h)&&ED l&&decide (h=0→bT l.toList=bT RowT.zero.left[0].toList)
def io(x:RowT):Bool:=decide (0≤x.version)&&ED x.cells&&decide (∀j (h:j<5),EX x.heir[j] x.left[j]=true)
def cw(w:Int):Bool:=decide (0≤w∧w<5)
def j7(m w:Int):Bool:=decide ((m.fdiv (2^min w.toNat IntKind.i64.bits))%2=1)
def gA(v:ViewT)(w:Int):Bool:=cw w&&j7 v.members w
def IM(v:ViewT)(h:Int)(i:Nat):Bool:=decide (h=0)||(gA v (h-1)&& !gA v (i:Int))
def jv(v:ViewT):Bool:=decide (1≤v.epoch∧1≤v.members∧v.members<32)&& @decide (∀(j:Nat) (h:j<5),IM v (v.heirs[j]'h) j=true) (Nat.decidableBallLT 5 λj h=>IM v (v.heirs[j]'h) j=true)
def firstV:ViewT:=⟨1,7, #v[0,0,0,0,0]⟩
def lx(v:ViewT)(w:Int):Option Int:=if h:0≤w∧w<5 then(if v.heirs[w.toNat]<1 then none else some (v.heirs[w.toNat]-1))else none
def nj(c:ChangeT)(i:Nat)(h:Int):Int:=if(i:Int)=c.who∨h=c.who+1 then c.heir+1 else h
def Rng(v:ViewT):Prop:=∀(i:Nat) (h:i<5),0≤v.heirs[i]∧v.heirs[i]≤5
def lE(v:ViewT)(c:ChangeT):Vector Int 5:=v.heirs.mapIdx (nj c)
def cm(v:ViewT)(c:ChangeT):ViewT×Int:=
 if !cw c.who|| !cw c.heir then(ViewT.zero,5)
 else if c.kind=0 then
  if(lx v c.who).isSome||gA v c.who then(ViewT.zero,5)
  else(⟨IntKind.i64.wrap (v.epoch+1),gH .i64 v.members (2^c.who.toNat),v.heirs⟩,0)
 else if c.kind=1 then
  if !gA v c.who|| !gA v c.heir||decide (c.heir=c.who)then(ViewT.zero,5)
  else(⟨IntKind.i64.wrap (v.epoch+1),jk .i64 v.members (2^c.who.toNat),lE v c⟩,0)
 else(ViewT.zero,5)
theorem xK{l:List Int}{k:Nat}{s:Int}(h:k<l.length):uA (l.drop k) s=if IL (l.getD k 0)then(if l.getD k 0>1099511627776-s then(0,6)else uA (l.drop (k+1)) (s+l.getD k 0))else(0,5):=by
 rw[dA h,uA];simp[List.getD_eq_getElem?_getD,h]
theorem K7(x:Int):qU .i64 x 1=x%2:=mask (k:=1) (by decide) x
theorem Al{w:Int}(h:0≤w∧w<5):IntKind.i64.wrap (1*2^min w.toNat IntKind.i64.bits)=2^w.toNat:=by
 obtain⟨m,rfl⟩:=Int.eq_ofNat_of_zero_le h.1;have:m<5:=by omega
 match m,this with
 |0,_|1,_|2,_|3,_|4,_=>rfl
end Api
namespace Leg
section
open Go
variable {P:Program} {n:Nat} {D:List Deferred} {L:List (Nat×Value)} {S:World→Prop} {o:Oper}
theorem du{l:List Int}{n:Nat}(h:(Api.ints l).length=n):l.length=n:=by rwa [Api.ints_length]at h
theorem PV.neqAgg{t t':TypeId}{x y:Operand}{a b:List Int}{m c:Nat}(hg:P.eqGuardType P.depth t=false)(hk:P.keyTypeAt m t=true)(hm:Nat.ble m 10000=true)(hF:oA P m t=some c)(ha:a.length=c)(hb:b.length=c)
 (hf:(Api.agI a).formed P t=true∧(Api.agI b).formed P t=true) (wa:WF a) (wb:WF b)
 (ho:o.op= .binOp .neq t x y t') (hx:cI L x=some (Api.agI a)) (hy:cI L y=some (Api.agI b)):PV P n D L S o (.bool (decide (a≠b))):=
 gY ho hx hy λw=>by
  have hm':m≤10000:=e7 hm;obtain⟨r,hr,hi⟩:=run_equalIn_deep (10000-m) m t hk w m m (Api.agI a) (Api.agI b) (nD a) (nD b) hf.1 hf.2 (by simpa [Api.agI,Value.cells]using lc m t c hF a ha wa) (by simpa [Api.agI,Value.cells]using lc m t c hF b hb wb);rw[show 10000-m+m=10000 by omega]at hr
  have e:r=decide (a=b):=by
   rw[zR,hi,decide_eq_true_iff];constructor
   · intro h
     have hj:Function.Injective (Lit.int IntKind.i64):=λu v h=>by injection h
     exact(HX λu v h=>hj h).1 h
   · rintro rfl;rfl
  subst e;simp only[Api.agI]at hr ⊢;rw[Sem.run_bind,run_eqGuard_agg w .neq t x y _ _ hg,Result.andThen_ok,run_neq_struct,hr];simp
abbrev DV:= @PV.neqAgg
theorem TE.retCT{w0:World}{F:Hl}{H H':List HP}{fn:Func}{post:Ending→List HP→Prop}{t t' ty e m b:Nat}{cs:List Value}{z:Nat×Nat}{dt:TypeDesc}{v':Value}(hr:fn.results=#[.cell t ty, .tmp t'])(he:lk L t=some (.pointer (some ⟨b,0,none⟩)))(e':lk L t'=some v')
 (hu:P.underlying ty=some dt) (hp:eG dt=false) (hm:(P.info? ty).map (·.size)=some m) (hR:Rd (Sat H F) b (.cells cs.toArray e z)) (hl:cs.length=m) (hk: ∀h,bN H h→bN H' h)
 (h:post (.returned (.tuple #[.agg cs.toArray,v'])) H'):TE w0 F n (bodyPost P fn (j5 post w0 F)) .ret [] L H:=λa w f s q=>by
 have h1:a.tmps.getD t undef= .pointer (some ⟨b,0,none⟩):=f.eval (x:= .tmp t) he;have h2:a.tmps.getD t' undef=v':=f.eval (x:= .tmp t') e'
 have h3:(results fn a.tmps).run P w= .ok (.tuple #[.agg cs.toArray,v']) w:=by
  have h1':a.tmps[t]?.getD undef= .pointer (some ⟨b,0,none⟩):=by simpa using h1
  have h2':a.tmps[t']?.getD undef=v':=by simpa using h2
  simp[results,hr,h1',h2',asAddr,run_loadVar_row w b e ty cs.toArray z dt (hR w q) hu (by cases dt<;>simp[eG]at hp ⊢) (by simp[hm,hl])]
 exact bodyPost_ret h3 f.2.1 ⟨s,H',q.mono hk,h⟩
abbrev l5:= @TE.retCT
theorem PV.andNot{t t':TypeId}{x y:Operand}{k:IntKind}{a b r:Int}(ho:o.op= .binOp .andNot t x y t')(hx:cI L x=some (.int k a))(hy:cI L y=some (.int k b))(hr:jk k a b=r):PV P n D L S o (.int k r):=
 gY ho hx hy (λw=>by rw[fX];subst hr;simp[binOp,Op.intBits,jk])
end
open Go
variable {P:Program} {w0:World} {F:Hl} {n:Nat} {ops:Array Oper} {Q:QQ} {D:List Deferred} {L:List (Nat×Value)} {H:List HP} {d:Nat} {o:Oper} {l:List Oper}
theorem RT{fn:Func}{post:Ending→List HP→Prop}{t t' ty e m b:Nat}{cs:List Value}{dt:TypeDesc}{v':Value}(k:Nat)(is:List Nat)(hu:P.underlying ty=some dt)(hm:(P.info? ty).map (·.size)=some m)(hl:cs.length=m)(h:post (.returned (.tuple #[.agg cs.toArray,v'])) ((Ca H is).take is.length))(hr:fn.results=#[.cell t ty, .tmp t']:=by exact rfl)(he:lk L t=some (.pointer (some ⟨b,0,none⟩)):=by exact rfl)(e':lk L t'=some v':=by exact rfl)(hp:eG dt=false:=by exact rfl)(hk:Nat.blt k H.length=true:=by exact rfl)(hH:H.getD k (λ_=>True)=an b cs e:=by exact rfl)(hs:Kw H.length is=true:=by exact rfl):TE w0 F n (bodyPost P fn (j5 post w0 F)) .ret [] L H:=l5 hr he e' hu hp hm (fu k hk hH) hl (λ_ s=>ao is hs s) h
end Leg
end

section
namespace Go.Proofs.YtmcjhkbcmmddgaaGreat
open Go Leg Codec Api
theorem bo:Tryz.prog.follows .mixedOrders=true:=by kernel_rfl
abbrev iQ:List PanicEntry:=[{v:= .iface 199 (.agg #[]),recovered:=false}]
theorem Hd(rb b off cap:Nat)(bs:List UInt8)(cs:List Value)(T:TypeId)(z:Nat×Nat)(hcap:bs.length≤cap)(hm:cap≤9223372036854775807)(hb: ∀j,j<bs.length→cs[off+j]?=some (.int .u8 ((bs.getD j 0).toNat:Nat))):
 DT 120 #[(.pointer (some ⟨rb,0,none⟩))] (λF=>F b=some (.cells cs.toArray T z)) [an rb [(.slice (some ⟨b,off,none⟩) (bs.length) (cap))] 197] (vv (λx H=>∃n r v',x= .int .i64 ((n:Nat):Int)∧H=[an rb [v'] 197]∧kL 0 0 bs=some (n,r)∧Tail (.slice (some ⟨b,off,none⟩) bs.length cap) bs v' r) (λc H=>c=iQ∧H=[an rb [(.slice (some ⟨b,off,none⟩) bs.length cap)] 197]∧kL 0 0 bs=none)):=by
 refine BD 48 Tryz.func120 rfl rfl rfl λw0 F hF=>sr λ_ J1=>PS ?_
 refine nx J1 (sr λ_ J2=>PS ?_);refine nx J2 (aa λ_ J3=>sr λ_ J4=>P2 ?_);refine FA 0 Bj n4 ?_;refine LA 0 ia ?_;refine tp (tE rfl ia rfl) ?_;refine PS ?_;refine nx J4 (av ?_)
 refine bG (α:=(Nat)×(Nat)) (λ⟨k,a⟩=>k≤bs.length∧k≤9∧a<2^ (7*k)∧kL 0 0 bs=kL k a (bs.drop k)) (λ⟨k,a⟩=>[(0,(.pointer (some ⟨rb,0,none⟩))),(3,(.int .i64 ((a:Nat)))),(9,(.slice (some ⟨b,off,none⟩) (bs.length) (cap))),(10,(.int .i64 (((bs.length:Nat):Int)))),(11,(.int .i64 ((k:Nat))))]) (λ⟨k,a⟩=>[an rb [(.slice (some ⟨b,off,none⟩) (bs.length) (cap))] 197]) (λ⟨k,a⟩=>bs.length-k) (0,0)
  ⟨by omega,by omega,by omega,rfl⟩ SB
  (λ_ s=>s) (λ⟨k,a⟩ hinv=>?_)
 obtain⟨hk,hk9,ha,hp⟩:=hinv;have hc:(bs.getD k 0).toNat<256:=(bs.getD k 0).toNat_lt;refine sr λ_ J5=>PS ?_
 refine aq ?_ ?_<;>intro h12;refine nx J5 (aa λ_ J6=>CY (qx J6 (aa λ_ J7=>av (sr λ_ J8=>PS ?_))));refine tp (jW (r:=off+k) rfl ia lO rfl rfl (by first|omega|decide) (by first|omega|decide) (by omega)) ?_;refine tp (fY (v:=(.int .u8 (((bs.getD k 0).toNat:Nat)))) rfl Y5 rfl rfl (Rd.ro hF) (hb k (by omega))) ?_;refine P2 ?_;refine nx J8 (aa λ_ J9=>sr λ_ J10=>P2 ?_);refine aq ?_ ?_<;>intro h17;refine nx J10 (CY (bg (aC (TE.miss (by decide) (aC (aC (bD (af J3 (ag (BV #[] ?_))))))))));refine tp (pJ rfl HU rfl rfl) ?_;refine HV (ab rfl) rfl rfl (aS ?_);exact⟨rfl,rfl,by rw[hp,oD bs k (by omega)];simp only[kL];rw[if_pos (by omega)]⟩;refine nx J10 (CN (qx J9 (sr λ_ J11=>P2 ?_)));refine tp (vA (r:=(((bs.getD k 0).toNat%128:Nat):Int)) rfl rfl rfl (MN _ hc)) ?_;refine tp (eN rfl Y5 Y3 rfl (bO (by omega) (by omega))) ?_;refine PS ?_;refine tp (Lh rfl rfl rfl (bO (by omega) (by omega))) ?_;refine tp (yz (r:=(((bs.getD k 0).toNat%128*2^ (7*k):Nat):Int)) rfl rfl rfl (by omega) (O6 _ k (by omega) (by omega))) ?_;refine tp (JM (r:=((a+(bs.getD k 0).toNat%128*2^ (7*k):Nat):Int)) rfl rfl rfl (Mi a _ k ha (by omega) (by omega))) ?_;refine PS ?_;refine nx J11 (aa λ_ J12=>sr λ_ J13=>P2 ?_);refine aq ?_ ?_<;>intro h27;refine nx J13 (CY (bg (aC (bD (af J7 (ag (AD ?_)))))));refine PS ?_;refine ax ?_
 exact aN ((k+1,a+(bs.getD k 0).toNat%128*2^ (7*k)):(Nat)×(Nat)) ⟨by omega,by omega,Ob a _ k ha (by omega),by rw[hp,oD bs k (by omega)];simp only[kL];rw[if_neg (by omega),if_pos (by omega)]⟩ (by show _-_<_-_;omega)
  SB
  (λ_ s=>s)
 refine nx J13 (CN (qx J12 (aa λ_ J14=>sr λ_ J15=>P2 ?_)));refine aq ?_ ?_<;>intro h29;refine P3 ?_;refine aq ?_ ?_<;>intro h32;refine PS ?_;refine nx J15 (CY (bg (aC (TE.miss (by decide) (aC (aC (bD (af J3 (ag (BV #[] ?_))))))))));refine tp (pJ rfl HU rfl rfl) ?_;refine HV (ab rfl) rfl rfl (aS ?_);exact⟨rfl,rfl,by rw[hp,oD bs k (by omega)];simp only[kL];rw[if_neg (by omega),if_neg (by omega),if_pos (by omega)]⟩;refine PS ?_;refine nx J15 (CN (qx J14 (sr λ_ J16=>P3 ?_)));refine FA 0 Bj n4 ?_;refine LA 0 ia ?_;refine PS ?_;refine AD ?_;refine tp (PV.sliceLo (k:=k+1) rfl ia lO rfl rfl (by omega) (by omega) rfl) ?_;refine PS ?_;refine FA 0 Bj n4 ?_;refine S0 0 n4 ?_;refine nx J16 (sr λ_ J17=>P2 ?_);refine nx J17 (ak (aI (ae (ae (aI (ae (aw rfl rfl ?_)))))));exact⟨_,_,_,rfl,rfl,by rw[hp,oD bs k (by omega)];simp only[kL];rw[if_neg (by omega),if_neg (by omega),if_neg (by omega)],Tail.cut _ (by omega)⟩;refine PS ?_;refine UF ?_;refine UF ?_;refine PS ?_;refine nx J15 (CN (qx J14 (sr λ_ J18=>P3 ?_)));refine FA 0 Bj n4 ?_;refine LA 0 ia ?_;refine PS ?_;refine AD ?_;refine tp (PV.sliceLo (k:=k+1) rfl ia lO rfl rfl (by omega) (by omega) rfl) ?_;refine PS ?_;refine FA 0 Bj n4 ?_;refine S0 0 n4 ?_;refine nx J18 (sr λ_ J19=>P2 ?_);refine nx J19 (ak (aI (ae (ae (aI (ae (aw rfl rfl ?_)))))))
 exact⟨_,_,_,rfl,rfl,by rw[hp,oD bs k (by omega)];simp only[kL];rw[if_neg (by omega),if_neg (by omega),if_neg (by omega)],Tail.cut _ (by omega)⟩;refine nx J5 (aa λ_ J20=>CN (bg (aC (aC (bD (af J3 (ag (BV #[] ?_))))))));refine tp (pJ rfl HU rfl rfl) ?_;refine HV (ab rfl) rfl rfl (aS ?_);exact⟨rfl,rfl,by rw[hp,fw (by omega)];rfl⟩
theorem Ky(rb:Nat):
 DT 120 #[(.pointer (some ⟨rb,0,none⟩))] T0 [an rb [(.slice none 0 0)] 197] (vv (λx H=>∃n r v',x= .int .i64 ((n:Nat):Int)∧H=[an rb [v'] 197]∧kL 0 0 []=some (n,r)∧Tail (.slice none 0 0) [] v' r) (λc H=>c=iQ∧H=[an rb [(.slice none 0 0)] 197]∧kL 0 0 []=none)):=by
 refine BD 48 Tryz.func120 rfl rfl rfl λw0 F hF=>sr λ_ J1=>PS ?_
 refine nx J1 (sr λ_ J2=>PS ?_);refine nx J2 (aa λ_ J3=>sr λ_ J4=>P2 ?_);refine FA 0 Bj n4 ?_;refine LA 0 ia ?_;refine tp (tE rfl ia rfl) ?_;refine PS ?_;refine nx J4 (av ?_)
 refine bG (α:=Unit) (λ_u=>True) (λ_u=>[(0,(.pointer (some ⟨rb,0,none⟩))),(3,(.int .i64 0)),(9,(.slice none 0 0)),(10,(.int .i64 0)),(11,(.int .i64 0))]) (λ_u=>[an rb [(.slice none 0 0)] 197]) (λ_u=>0) ()
  trivial SB
  (λ_ s=>s) (λ_u hinv=>?_)
 obtain _:=hinv;refine sr λ_ J5=>PS ?_
 refine nx J5 (aa λ_ J6=>CN (bg (aC (aC (bD (af J3 (ag (BV #[] ?_))))))));refine tp (pJ rfl HU rfl rfl) ?_;exact HV (ab rfl) rfl rfl (aS ⟨rfl,rfl,rfl⟩)
theorem jy(rb:Nat)(v:Value)(bs:List UInt8):DT 120 #[(.pointer (some ⟨rb,0,none⟩))] (IsB v bs) [an rb [v] 197] (n8 197 iQ (λn=> .int .i64 n) nC v bs rb):=by
 have fin: ∀e H,(vv (λx H=>∃n r v',x= .int .i64 ((n:Nat):Int)∧H=[an rb [v'] 197]∧kL 0 0 bs=some (n,r)∧Tail v bs v' r) (λc H=>c=iQ∧H=[an rb [v] 197]∧kL 0 0 bs=none)) e H→n8 197 iQ (λn=> .int .i64 n) nC v bs rb e H:=by
  intro e H h;cases e with
  |returned x=>obtain⟨n,r,v',h1,h2,h3,h4⟩:=h;exact⟨_,r,v',h1,h2,He h3,h4⟩
  |panicked c=>obtain⟨h1,h2,h3⟩:=h;exact⟨_,h1,h2,Hg h3⟩
  |outgrown=>exact h
 refine Leg.Does.of λF hF=>?_
 rcases id hF with⟨rfl,rfl⟩| ⟨b,off,cap,cs,T,z,rfl,h1,h2,h3,h4⟩
 · exact⟨_,trivial,(Ky rb).mono fin⟩
 · exact⟨_,h3,(Hd rb b off cap bs cs T z h1 h2 h4).mono fin⟩
theorem cS(rb:Nat)(v:Value)(bs:List UInt8)(lim:Int):
 DT 117 #[(.pointer (some ⟨rb,0,none⟩)),(.int .i64 (lim))] (IsB v bs) [an rb [v] 197] (n8 197 iQ (λn=> .int .i64 n) (fF lim) v bs rb):=by
 refine BD 14 Tryz.func117 rfl rfl rfl λw0 F hF=>sr λ_ J1=>PS ?_
 refine nx J1 (sr λ_ J2=>PS ?_);refine CP qi (jy rb v bs) ID (λ_ d _=>(hF).more d) (λcP HP hP=>?_) (λvR HR hR=>?_);obtain⟨vP,rfl,rfl,hpP⟩:=hP;refine ay (WK [0] (aS ?_));exact⟨_,rfl,rfl,by simp[fF,bY hpP]⟩;obtain⟨a1,r1,v1,rfl,rfl,hp1,ht1⟩:=hR;have hf1:=ht1 _ hF;refine PS ?_;refine nx J2 (aa λ_ J3=>sr λ_ J4=>P3 ?_);refine aq ?_ ?_<;>intro h10;refine nx J4 (CY (ag (BV #[] ?_)));refine tp (pJ rfl HU rfl rfl) ?_;refine HV (ab rfl) rfl rfl (ay (WK [0] (aS ?_)));exact⟨_,rfl,rfl,by simp[fF,aF hp1,h10,pf]⟩;refine nx J4 (CN (qx J3 (sr λ_ J5=>P2 ?_)));refine nx J5 (ak (WK [0] (aw rfl rfl ?_)));exact⟨_,_,_,rfl,rfl,by rw[fF,aF hp1,if_neg h10];rfl,ht1⟩
theorem wP(rb:Nat)(v:Value)(bs:List UInt8):
 DT 142 #[(.pointer (some ⟨rb,0,none⟩))] (IsB v bs) [an rb [v] 197] (n8 197 iQ CellT.val mA v bs rb):=by
 refine BD 21 Tryz.func142 rfl rfl rfl λw0 F hF=>sr λ_ J1=>XA JT λb2=>?_
 refine nx J1 (sr λ_ J2=>XA JT λb3=>?_);refine nx J2 (sr λ_ J3=>PS ?_);refine CP jz (cS rb v bs (1099511627777)) (SM [2]) (λ_ d _=>(hF).more d) (λcP HP hP=>?_) (λvR HR hR=>?_);obtain⟨vP,rfl,rfl,hpP⟩:=hP;refine ay (WK [0] (aS ?_));exact⟨_,rfl,rfl,by simp[mA,pr,bY hpP]⟩;obtain⟨a1,r1,v1,rfl,rfl,hp1,ht1⟩:=hR;have hf1:=ht1 _ hF;refine FA 0 nV aQ ?_;refine S0 1 aQ ?_;refine nx J3 (sr λ_ J4=>PS ?_);refine CP jz (cS rb v1 r1 (1099511627777)) ID (λ_ d _=>(hf1).more d) (λcP HP hP=>?_) (λvR HR hR=>?_);obtain⟨vP,rfl,rfl,hpP⟩:=hP;refine ay (WK [0] (aS ?_));exact⟨_,rfl,rfl,by simp[mA,pr,aF hp1,bY hpP]⟩;obtain⟨a2,r2,v2,rfl,rfl,hp2,ht2⟩:=hR;have hf2:=ht2 _ hf1;refine FA 1 nV aQ ?_;refine S0 1 aQ ?_;refine nx J4 (aa λ_ J5=>sr λ_ J6=>PS ?_);refine nx J6 (av (sh 5 (sr λ_ J7=>PS ?_)));refine nx J7 (aa λ_ J8=>CY (qx J8 (aa λ_ J9=>av (sr λ_ J10=>P2 ?_))));refine nx J10 (ag (P2 ?_));refine CP jz (cS rb v2 r2 (1099511627777)) ID (λ_ d _=>(hf2).more d) (λcP HP hP=>?_) (λvR HR hR=>?_);obtain⟨vP,rfl,rfl,hpP⟩:=hP;refine aO (ay (ay (aO (ay (WK [0] (aS ?_))))));exact⟨_,rfl,rfl,by simp[mA,pr,aF hp1,aF hp2,bY hpP]⟩;obtain⟨a3,r3,v3,rfl,rfl,hp3,ht3⟩:=hR;have hf3:=ht3 _ hf2;refine FA 2 nV gK ?_;refine IX 2 mX aQ ?_;refine S0 1 aQ ?_;refine ax (ah (af J9 (ag (tp (cG (r:=1) rfl rfl rfl (by decide)) ?_))));refine PS ?_
 refine ax (eM (sr λ_ J11=>PS ?_));refine nx J11 (aa λ_ J12=>CY (qx J12 (aa λ_ J13=>av (sr λ_ J14=>P2 ?_))));refine nx J14 (ag (P2 ?_));refine CP jz (cS rb v3 r3 (1099511627777)) ID (λ_ d _=>(hf3).more d) (λcP HP hP=>?_) (λvR HR hR=>?_);obtain⟨vP,rfl,rfl,hpP⟩:=hP;refine aO (ay (ay (aO (ay (WK [0] (aS ?_))))));exact⟨_,rfl,rfl,by simp[mA,pr,aF hp1,aF hp2,aF hp3,bY hpP]⟩;obtain⟨a4,r4,v4,rfl,rfl,hp4,ht4⟩:=hR;have hf4:=ht4 _ hf3;refine FA 2 nV gK ?_;refine IX 3 mX aQ ?_;refine S0 1 aQ ?_;refine ax (ah (af J13 (ag (tp (cG (r:=2) rfl rfl rfl (by decide)) ?_))));refine PS ?_;refine ax (eM (sr λ_ J15=>PS ?_));refine nx J15 (aa λ_ J16=>CY (qx J16 (aa λ_ J17=>av (sr λ_ J18=>P2 ?_))));refine nx J18 (ag (P2 ?_));refine CP jz (cS rb v4 r4 (1099511627777)) ID (λ_ d _=>(hf4).more d) (λcP HP hP=>?_) (λvR HR hR=>?_);obtain⟨vP,rfl,rfl,hpP⟩:=hP;refine aO (ay (ay (aO (ay (WK [0] (aS ?_))))));exact⟨_,rfl,rfl,by simp[mA,pr,aF hp1,aF hp2,aF hp3,aF hp4,bY hpP]⟩;obtain⟨a5,r5,v5,rfl,rfl,hp5,ht5⟩:=hR;have hf5:=ht5 _ hf4;refine FA 2 nV gK ?_;refine IX 4 mX aQ ?_;refine S0 1 aQ ?_;refine ax (ah (af J17 (ag (tp (cG (r:=3) rfl rfl rfl (by decide)) ?_))));refine PS ?_;refine ax (eM (sr λ_ J19=>PS ?_));refine nx J19 (aa λ_ J20=>CY (qx J20 (aa λ_ J21=>av (sr λ_ J22=>P2 ?_))));refine nx J22 (ag (P2 ?_))
 refine CP jz (cS rb v5 r5 (1099511627777)) ID (λ_ d _=>(hf5).more d) (λcP HP hP=>?_) (λvR HR hR=>?_);obtain⟨vP,rfl,rfl,hpP⟩:=hP;refine aO (ay (ay (aO (ay (WK [0] (aS ?_))))));exact⟨_,rfl,rfl,by simp[mA,pr,aF hp1,aF hp2,aF hp3,aF hp4,aF hp5,bY hpP]⟩;obtain⟨a6,r6,v6,rfl,rfl,hp6,ht6⟩:=hR;have hf6:=ht6 _ hf5;refine FA 2 nV gK ?_;refine IX 5 mX aQ ?_;refine S0 1 aQ ?_;refine ax (ah (af J21 (ag (tp (cG (r:=4) rfl rfl rfl (by decide)) ?_))));refine PS ?_;refine ax (eM (sr λ_ J23=>PS ?_));refine nx J23 (aa λ_ J24=>CY (qx J24 (aa λ_ J25=>av (sr λ_ J26=>P2 ?_))));refine nx J26 (ag (P2 ?_));refine CP jz (cS rb v6 r6 (1099511627777)) ID (λ_ d _=>(hf6).more d) (λcP HP hP=>?_) (λvR HR hR=>?_);obtain⟨vP,rfl,rfl,hpP⟩:=hP;refine aO (ay (ay (aO (ay (WK [0] (aS ?_))))));exact⟨_,rfl,rfl,by simp[mA,pr,aF hp1,aF hp2,aF hp3,aF hp4,aF hp5,aF hp6,bY hpP]⟩;obtain⟨a7,r7,v7,rfl,rfl,hp7,ht7⟩:=hR;have hf7:=ht7 _ hf6;refine FA 2 nV gK ?_;refine IX 6 mX aQ ?_;refine S0 1 aQ ?_;refine ax (ah (af J25 (ag (tp (cG (r:=5) rfl rfl rfl (by decide)) ?_))));refine PS ?_;refine ax (eM (sr λ_ J27=>PS ?_));refine nx J27 (aa λ_ J28=>CN (bg (aC (aC (bD (af J5 (sr λ_ J29=>tp (aL (vs:=[(.int .i64 (a1)),(.int .i64 (a2)),(.int .i64 (a3)),(.int .i64 (a4)),(.int .i64 (a5)),(.int .i64 (a6)),(.int .i64 (a7))]) rfl nV rfl gF rfl (RO 1) rfl rfl) ?_)))))))
 refine bR (vs:=[(.int .i64 (a1)),(.int .i64 (a2)),(.int .i64 (a3)),(.int .i64 (a4)),(.int .i64 (a5)),(.int .i64 (a6)),(.int .i64 (a7))]) (i:=2) (ab rfl) rfl rfl rfl rfl rfl gF (by simp[Value.oneCell']) rfl rfl (KJ rfl) rfl rfl (nx J29 (ak (RC 2 [0] nV gF rfl ?_)));exact⟨⟨a1,a2, #v[a3,a4,a5,a6,a7]⟩,_,_,rfl,rfl,by simp[mA,pr,aF hp1,aF hp2,aF hp3,aF hp4,aF hp5,aF hp6,aF hp7],(ht1.trans (ht2.trans (ht3.trans (ht4.trans (ht5.trans (ht6.trans ht7))))))⟩
theorem rE(rb:Nat)(v:Value)(bs:List UInt8):
 DT 123 #[(.pointer (some ⟨rb,0,none⟩))] (IsB v bs) [an rb [v] 197] (n8 197 iQ ViewT.val m4 v bs rb):=by
 refine BD 21 Tryz.func123 rfl rfl rfl λw0 F hF=>sr λ_ J1=>XA pM λb2=>?_
 refine nx J1 (sr λ_ J2=>XA pM λb3=>?_);refine nx J2 (sr λ_ J3=>PS ?_);refine CP qi (jy rb v bs) (SM [2]) (λ_ d _=>(hF).more d) (λcP HP hP=>?_) (λvR HR hR=>?_);obtain⟨vP,rfl,rfl,hpP⟩:=hP;refine ay (WK [0] (aS ?_));exact⟨_,rfl,rfl,by simp[m4,pr,bY hpP]⟩;obtain⟨a1,r1,v1,rfl,rfl,hp1,ht1⟩:=hR;have hf1:=ht1 _ hF;refine FA 0 eL aQ ?_;refine S0 1 aQ ?_;refine nx J3 (sr λ_ J4=>PS ?_);refine CP jz (cS rb v1 r1 (32)) ID (λ_ d _=>(hf1).more d) (λcP HP hP=>?_) (λvR HR hR=>?_);obtain⟨vP,rfl,rfl,hpP⟩:=hP;refine ay (WK [0] (aS ?_));exact⟨_,rfl,rfl,by simp[m4,pr,aF hp1,bY hpP]⟩;obtain⟨a2,r2,v2,rfl,rfl,hp2,ht2⟩:=hR;have hf2:=ht2 _ hf1;refine FA 1 eL aQ ?_;refine S0 1 aQ ?_;refine nx J4 (aa λ_ J5=>sr λ_ J6=>PS ?_);refine nx J6 (av (sh 5 (sr λ_ J7=>PS ?_)));refine nx J7 (aa λ_ J8=>CY (qx J8 (aa λ_ J9=>av (sr λ_ J10=>P2 ?_))));refine nx J10 (ag (P2 ?_));refine CP jz (cS rb v2 r2 (6)) ID (λ_ d _=>(hf2).more d) (λcP HP hP=>?_) (λvR HR hR=>?_);obtain⟨vP,rfl,rfl,hpP⟩:=hP;refine aO (ay (ay (aO (ay (WK [0] (aS ?_))))));exact⟨_,rfl,rfl,by simp[m4,pr,aF hp1,aF hp2,bY hpP]⟩;obtain⟨a3,r3,v3,rfl,rfl,hp3,ht3⟩:=hR;have hf3:=ht3 _ hf2;refine FA 2 eL gK ?_;refine IX 2 mX aQ ?_;refine S0 1 aQ ?_;refine ax (ah (af J9 (ag (tp (cG (r:=1) rfl rfl rfl (by decide)) ?_))));refine PS ?_;refine ax (eM (sr λ_ J11=>PS ?_))
 refine nx J11 (aa λ_ J12=>CY (qx J12 (aa λ_ J13=>av (sr λ_ J14=>P2 ?_))));refine nx J14 (ag (P2 ?_));refine CP jz (cS rb v3 r3 (6)) ID (λ_ d _=>(hf3).more d) (λcP HP hP=>?_) (λvR HR hR=>?_);obtain⟨vP,rfl,rfl,hpP⟩:=hP;refine aO (ay (ay (aO (ay (WK [0] (aS ?_))))));exact⟨_,rfl,rfl,by simp[m4,pr,aF hp1,aF hp2,aF hp3,bY hpP]⟩;obtain⟨a4,r4,v4,rfl,rfl,hp4,ht4⟩:=hR;have hf4:=ht4 _ hf3;refine FA 2 eL gK ?_;refine IX 3 mX aQ ?_;refine S0 1 aQ ?_;refine ax (ah (af J13 (ag (tp (cG (r:=2) rfl rfl rfl (by decide)) ?_))));refine PS ?_;refine ax (eM (sr λ_ J15=>PS ?_));refine nx J15 (aa λ_ J16=>CY (qx J16 (aa λ_ J17=>av (sr λ_ J18=>P2 ?_))));refine nx J18 (ag (P2 ?_));refine CP jz (cS rb v4 r4 (6)) ID (λ_ d _=>(hf4).more d) (λcP HP hP=>?_) (λvR HR hR=>?_);obtain⟨vP,rfl,rfl,hpP⟩:=hP;refine aO (ay (ay (aO (ay (WK [0] (aS ?_))))));exact⟨_,rfl,rfl,by simp[m4,pr,aF hp1,aF hp2,aF hp3,aF hp4,bY hpP]⟩;obtain⟨a5,r5,v5,rfl,rfl,hp5,ht5⟩:=hR;have hf5:=ht5 _ hf4;refine FA 2 eL gK ?_;refine IX 4 mX aQ ?_;refine S0 1 aQ ?_;refine ax (ah (af J17 (ag (tp (cG (r:=3) rfl rfl rfl (by decide)) ?_))));refine PS ?_;refine ax (eM (sr λ_ J19=>PS ?_));refine nx J19 (aa λ_ J20=>CY (qx J20 (aa λ_ J21=>av (sr λ_ J22=>P2 ?_))));refine nx J22 (ag (P2 ?_));refine CP jz (cS rb v5 r5 (6)) ID (λ_ d _=>(hf5).more d) (λcP HP hP=>?_) (λvR HR hR=>?_)
 obtain⟨vP,rfl,rfl,hpP⟩:=hP;refine aO (ay (ay (aO (ay (WK [0] (aS ?_))))));exact⟨_,rfl,rfl,by simp[m4,pr,aF hp1,aF hp2,aF hp3,aF hp4,aF hp5,bY hpP]⟩;obtain⟨a6,r6,v6,rfl,rfl,hp6,ht6⟩:=hR;have hf6:=ht6 _ hf5;refine FA 2 eL gK ?_;refine IX 5 mX aQ ?_;refine S0 1 aQ ?_;refine ax (ah (af J21 (ag (tp (cG (r:=4) rfl rfl rfl (by decide)) ?_))));refine PS ?_;refine ax (eM (sr λ_ J23=>PS ?_));refine nx J23 (aa λ_ J24=>CY (qx J24 (aa λ_ J25=>av (sr λ_ J26=>P2 ?_))));refine nx J26 (ag (P2 ?_));refine CP jz (cS rb v6 r6 (6)) ID (λ_ d _=>(hf6).more d) (λcP HP hP=>?_) (λvR HR hR=>?_);obtain⟨vP,rfl,rfl,hpP⟩:=hP;refine aO (ay (ay (aO (ay (WK [0] (aS ?_))))));exact⟨_,rfl,rfl,by simp[m4,pr,aF hp1,aF hp2,aF hp3,aF hp4,aF hp5,aF hp6,bY hpP]⟩;obtain⟨a7,r7,v7,rfl,rfl,hp7,ht7⟩:=hR;have hf7:=ht7 _ hf6;refine FA 2 eL gK ?_;refine IX 6 mX aQ ?_;refine S0 1 aQ ?_;refine ax (ah (af J25 (ag (tp (cG (r:=5) rfl rfl rfl (by decide)) ?_))));refine PS ?_;refine ax (eM (sr λ_ J27=>PS ?_));refine nx J27 (aa λ_ J28=>CN (bg (aC (aC (bD (af J5 (sr λ_ J29=>tp (aL (vs:=[(.int .i64 (a1)),(.int .i64 (a2)),(.int .i64 (a3)),(.int .i64 (a4)),(.int .i64 (a5)),(.int .i64 (a6)),(.int .i64 (a7))]) rfl eL rfl be rfl (RO 1) rfl rfl) ?_)))))))
 refine bR (vs:=[(.int .i64 (a1)),(.int .i64 (a2)),(.int .i64 (a3)),(.int .i64 (a4)),(.int .i64 (a5)),(.int .i64 (a6)),(.int .i64 (a7))]) (i:=2) (ab rfl) rfl rfl rfl rfl rfl be (by simp[Value.oneCell']) rfl rfl (KJ rfl) rfl rfl (nx J29 (ak (RC 2 [0] eL be rfl ?_)));exact⟨⟨a1,a2, #v[a3,a4,a5,a6,a7]⟩,_,_,rfl,rfl,by simp[m4,pr,aF hp1,aF hp2,aF hp3,aF hp4,aF hp5,aF hp6,aF hp7],(ht1.trans (ht2.trans (ht3.trans (ht4.trans (ht5.trans (ht6.trans ht7))))))⟩
theorem oZ(rb:Nat)(v:Value)(bs:List UInt8):
 DT 122 #[(.pointer (some ⟨rb,0,none⟩))] (IsB v bs) [an rb [v] 197] (n8 197 iQ ChangeT.val lL v bs rb):=by
 refine BD 14 Tryz.func122 rfl rfl rfl λw0 F hF=>sr λ_ J1=>XA OO λb2=>?_
 refine nx J1 (sr λ_ J2=>XA OO λb3=>?_);refine nx J2 (sr λ_ J3=>PS ?_);refine CP jz (cS rb v bs (2)) (SM [2]) (λ_ d _=>(hF).more d) (λcP HP hP=>?_) (λvR HR hR=>?_);obtain⟨vP,rfl,rfl,hpP⟩:=hP;refine ay (WK [0] (aS ?_));exact⟨_,rfl,rfl,by simp[lL,pr,bY hpP]⟩;obtain⟨a1,r1,v1,rfl,rfl,hp1,ht1⟩:=hR;have hf1:=ht1 _ hF;refine FA 0 nt aQ ?_;refine S0 1 aQ ?_;refine nx J3 (sr λ_ J4=>PS ?_);refine CP jz (cS rb v1 r1 (5)) ID (λ_ d _=>(hf1).more d) (λcP HP hP=>?_) (λvR HR hR=>?_);obtain⟨vP,rfl,rfl,hpP⟩:=hP;refine ay (WK [0] (aS ?_));exact⟨_,rfl,rfl,by simp[lL,pr,aF hp1,bY hpP]⟩;obtain⟨a2,r2,v2,rfl,rfl,hp2,ht2⟩:=hR;have hf2:=ht2 _ hf1;refine FA 1 nt aQ ?_;refine S0 1 aQ ?_;refine nx J4 (sr λ_ J5=>PS ?_);refine CP jz (cS rb v2 r2 (5)) ID (λ_ d _=>(hf2).more d) (λcP HP hP=>?_) (λvR HR hR=>?_);obtain⟨vP,rfl,rfl,hpP⟩:=hP;refine ay (WK [0] (aS ?_));exact⟨_,rfl,rfl,by simp[lL,pr,aF hp1,aF hp2,bY hpP]⟩;obtain⟨a3,r3,v3,rfl,rfl,hp3,ht3⟩:=hR;have hf3:=ht3 _ hf2;refine FA 2 nt aQ ?_;refine S0 1 aQ ?_;refine nx J5 (sr λ_ J6=>tp (aL (vs:=[(.int .i64 (a1)),(.int .i64 (a2)),(.int .i64 (a3))]) rfl nt rfl fR rfl (RO 1) rfl rfl) ?_);refine bR (vs:=[(.int .i64 (a1)),(.int .i64 (a2)),(.int .i64 (a3))]) (i:=2) (ab rfl) rfl rfl rfl rfl rfl fR (by simp[Value.oneCell']) rfl rfl (KJ rfl) rfl rfl (nx J6 (ak (RC 2 [0] nt fR rfl ?_)))
 exact⟨⟨a1,a2,a3⟩,_,_,rfl,rfl,by simp[lL,pr,aF hp1,aF hp2,aF hp3],(ht1.trans (ht2.trans ht3))⟩
theorem jO(rb:Nat)(v:Value)(bs:List UInt8):
 DT 121 #[(.pointer (some ⟨rb,0,none⟩))] (IsB v bs) [an rb [v] 197] (n8 197 iQ BallotT.val kA v bs rb):=by
 refine BD 11 Tryz.func121 rfl rfl rfl λw0 F hF=>sr λ_ J1=>XA ON λb2=>?_
 refine nx J1 (sr λ_ J2=>XA ON λb3=>?_);refine nx J2 (sr λ_ J3=>PS ?_);refine CP qi (jy rb v bs) (SM [2]) (λ_ d _=>(hF).more d) (λcP HP hP=>?_) (λvR HR hR=>?_);obtain⟨vP,rfl,rfl,hpP⟩:=hP;refine ay (WK [0] (aS ?_));exact⟨_,rfl,rfl,by simp[kA,pr,bY hpP]⟩;obtain⟨a1,r1,v1,rfl,rfl,hp1,ht1⟩:=hR;have hf1:=ht1 _ hF;refine FA 0 kB aQ ?_;refine S0 1 aQ ?_;refine nx J3 (sr λ_ J4=>PS ?_);refine CP jz (cS rb v1 r1 (5)) ID (λ_ d _=>(hf1).more d) (λcP HP hP=>?_) (λvR HR hR=>?_);obtain⟨vP,rfl,rfl,hpP⟩:=hP;refine ay (WK [0] (aS ?_));exact⟨_,rfl,rfl,by simp[kA,pr,aF hp1,bY hpP]⟩;obtain⟨a2,r2,v2,rfl,rfl,hp2,ht2⟩:=hR;have hf2:=ht2 _ hf1;refine FA 1 kB aQ ?_;refine S0 1 aQ ?_;refine nx J4 (sr λ_ J5=>tp (aL (vs:=[(.int .i64 (a1)),(.int .i64 (a2))]) rfl kB rfl cA rfl (RO 1) rfl rfl) ?_);refine bR (vs:=[(.int .i64 (a1)),(.int .i64 (a2))]) (i:=2) (ab rfl) rfl rfl rfl rfl rfl cA (by simp[Value.oneCell']) rfl rfl (KJ rfl) rfl rfl (nx J5 (ak (RC 2 [0] kB cA rfl ?_)));exact⟨⟨a1,a2⟩,_,_,rfl,rfl,by simp[kA,pr,aF hp1,aF hp2],(ht1.trans ht2)⟩
theorem tZ(rb:Nat)(v:Value)(bs:List UInt8):
 DT 118 #[(.pointer (some ⟨rb,0,none⟩))] (IsB v bs) [an rb [v] 197] (n8 197 iQ RowT.val vj v bs rb):=by
 refine BD 45 Tryz.func118 rfl rfl rfl λw0 F hF=>sr λ_ J1=>XZ vS (Api.ints Api.RowT.zero.flat) λb2=>?_
 refine nx J1 (sr λ_ J2=>XZ vS (Api.ints Api.RowT.zero.flat) λb3=>?_);refine nx J2 (sr λ_ J3=>PS ?_);refine CP qi (jy rb v bs) (SM [2]) (λ_ d _=>(hF).more d) (λcP HP hP=>?_) (λvR HR hR=>?_);obtain⟨vP,rfl,rfl,hpP⟩:=hP;refine ay (WK [0] (aS ?_));exact⟨_,rfl,rfl,by rw[vj,bY hpP]⟩;obtain⟨a1,r1,v1,rfl,rfl,hp1,ht1⟩:=hR;have hf1:=ht1 _ hF;refine FA 0 ez aQ ?_;refine bR (vs:=[.int .i64 a1]) (i:=1) (ab rfl) rfl rfl rfl rfl rfl aQ (bB [a1]) rfl rfl (by rw[am];show _+1≤174;omega) (RowT.wr_version _ _) rfl (nx J3 (aa λ_ J4=>sr λ_ J5=>PS ?_));refine nx J5 (av ?_)
 refine bG (α:=(Nat)×(RowT)×(Value)×(List UInt8)) (λ⟨k,x,u,r⟩=>k≤4∧IsB u r F∧Tail v bs u r∧vj bs=pb (nq (4-k) k x) (jC 5 0) r) (λ⟨k,x,u,r⟩=>[(0,(.pointer (some ⟨rb,0,none⟩))),(2,(.pointer (some ⟨b2,0,none⟩))),(3,(.pointer (some ⟨b3,0,none⟩))),(10,(.int .i64 ((k:Nat))))]) (λ⟨k,x,u,r⟩=>[an b3 (ints (x).flat) 51,an b2 (Api.ints Api.RowT.zero.flat) 51,an rb [u] 197]) (λ⟨k,x,u,r⟩=>4-k) (0,({Api.RowT.zero with version:=a1}:RowT),v1,r1)
  ⟨by omega,hf1,ht1,by rw[vj,aF hp1]⟩ SB
  (λ_ s=>ao [1,1,0] rfl s) (λ⟨k,x,u,r⟩ hinv=>?_)
 obtain⟨hk,hf,htl,hp⟩:=hinv;refine sr λ_ J6=>PS ?_
 refine aq ?_ ?_<;>intro h11;refine nx J6 (aa λ_ J7=>CY (qx J7 (aa λ_ J8=>av (sr λ_ J9=>P2 ?_))));refine nx J9 (ag (P2 ?_));refine CP Lr (wP rb u r) (SM [2]) (λ_ d _=>(hf).more d) (λcP HP hP=>?_) (λvR HR hR=>?_);obtain⟨vP,rfl,rfl,hpP⟩:=hP;refine aO (ay (ay (aO (ay (WK [0] (aS ?_))))));exact⟨_,rfl,rfl,by rw[hp,Dt (by omega) hpP]⟩;obtain⟨a2,r2,v2,rfl,rfl,hp2,ht2⟩:=hR;have hf2:=ht2 _ hf;refine FA 1 ez lP ?_;refine IX (1+k*7) Bm gF ?_;refine bR (vs:=ints a2.flat) (i:=1) (ab rfl) rfl rfl rfl rfl rfl (by rw[bH];exact gF) (bB _) rfl rfl (by rw[am,bH];omega) (RowT.wr_cell _ k (by omega) _) rfl (ax (ah (af J8 (ag (AD ?_)))));refine PS ?_;refine ax ?_
 exact aN ((k+1,({x with cells:=(x).cells.set k a2 (by omega)}:RowT),v2,r2):(Nat)×(RowT)×(Value)×(List UInt8)) ⟨by omega,hf2,(htl.trans ht2),by rw[hp,Du (by omega) hp2]⟩ (by show _-_<_-_;omega)
  SB
  (λ_ s=>ao [1,1,0] rfl s)
 refine nx J6 (aa λ_ J10=>CN (bg (aC (aC (bD (af J4 (aa λ_ J11=>sr λ_ J12=>PS ?_)))))));refine nx J12 (av ?_)
 refine bG (α:=(Nat)×(RowT)×(Value)×(List UInt8)) (λ⟨i,x,u,r⟩=>i≤5∧IsB u r F∧Tail v bs u r∧vj bs=jC (5-i) i x r) (λ⟨i,x,u,r⟩=>[(0,(.pointer (some ⟨rb,0,none⟩))),(2,(.pointer (some ⟨b2,0,none⟩))),(3,(.pointer (some ⟨b3,0,none⟩))),(19,(.int .i64 ((i:Nat))))]) (λ⟨i,x,u,r⟩=>[an b3 (ints (x).flat) 51,an b2 (Api.ints Api.RowT.zero.flat) 51,an rb [u] 197]) (λ⟨i,x,u,r⟩=>5-i) (0,x,u,r)
  ⟨by omega,hf,htl,by rw[hp,Fs (by omega)]⟩ SB
  (λ_ s=>ao [0,0,0] rfl s) (λ⟨i,x,u,r⟩ hinv=>?_)
 obtain⟨hi,hf,htl,hp⟩:=hinv;refine sr λ_ J13=>PS ?_
 refine aq ?_ ?_<;>intro h20;refine nx J13 (aa λ_ J14=>CY (qx J14 (aa λ_ J15=>av (sr λ_ J16=>P2 ?_))));refine nx J16 (sr λ_ J17=>P2 ?_);refine CP qi (jy rb u r) (SM [2]) (λ_ d _=>(hf).more d) (λcP HP hP=>?_) (λvR HR hR=>?_);obtain⟨vP,rfl,rfl,hpP⟩:=hP;refine ay (aO (ay (ay (aO (ay (WK [0] (aS ?_)))))));exact⟨_,rfl,rfl,by rw[hp,CU (by omega) hpP]⟩;obtain⟨a2,r2,v2,rfl,rfl,hp2,ht2⟩:=hR;have hf2:=ht2 _ hf;refine FA 29 ez gK ?_;refine IX (29+i) mX aQ ?_;refine bR (vs:=[.int .i64 a2]) (i:=1) (ab rfl) rfl rfl rfl rfl rfl aQ (bB [a2]) rfl rfl (by rw[am];show _+1≤174;omega) (RowT.wr_heir _ i (by omega) _) rfl (nx J17 (sr λ_ J18=>PS ?_));refine FA 29 ez gK ?_;refine IX (29+i) mX aQ ?_;refine LT 1 Y3 (.int .i64 (a2)) ?_ (hc:=by exact by rw[RowT.get_heir _ i (by omega)];simp);refine PS ?_;refine aq ?_ ?_<;>intro h31;refine nx J18 (CY (sr λ_ J19=>PS ?_));refine nx J19 (av ?_)
 refine bG (α:=(Nat)×(RowT)×(Value)×(List UInt8)) (λ⟨k,y,uL,rL⟩=>k≤4∧IsB uL rL F∧Tail v bs uL rL∧vj bs=pb (qk (4-k) i k y) (jC (5- (i+1)) (i+1)) rL) (λ⟨k,y,uL,rL⟩=>[(0,(.pointer (some ⟨rb,0,none⟩))),(2,(.pointer (some ⟨b2,0,none⟩))),(3,(.pointer (some ⟨b3,0,none⟩))),(5,(.int .i64 ((i:Nat)))),(19,(.int .i64 ((i:Nat)))),(32,(.int .i64 ((k:Nat))))]) (λ⟨k,y,uL,rL⟩=>[an b3 (ints (y).flat) 51,an b2 (Api.ints Api.RowT.zero.flat) 51,an rb [uL] 197]) (λ⟨k,y,uL,rL⟩=>4-k) (0,({x with heir:=(x).heir.set i a2}:RowT),v2,r2)
  ⟨by omega,hf2,(htl.trans ht2),by rw[hp,EY (by omega) hp2 h31]⟩ SB
  (λ_ s=>ao [1,1,0] rfl s) (λ⟨k,y,uL,rL⟩ hinv=>?_)
 obtain⟨hk,hfL,htlL,hpL⟩:=hinv;refine sr λ_ J20=>PS ?_
 refine aq ?_ ?_<;>intro h33;refine nx J20 (aa λ_ J21=>CY (qx J21 (aa λ_ J22=>av (sr λ_ J23=>P2 ?_))));refine nx J23 (D0 bo ?_);refine PD 0 ?_;refine PD 1 ?_;refine PD 2 ?_;refine FD 4 34 ez BK ?_;refine IY 5 (34+i*28) L1 lP ?_;refine AL 3 ?_;refine CP Lr (wP rb uL rL) (SM [2]) (λ_ d _=>(hfL).more d) (λcP HP hP=>?_) (λvR HR hR=>?_);obtain⟨vP,rfl,rfl,hpP⟩:=hP;refine ay (aO (ay (ay (aO (aO (ay (ay (aO (ay (WK [0] (aS ?_)))))))))));exact⟨_,rfl,rfl,by rw[hpL,ER (by omega) hpP]⟩;obtain⟨a3,r3,v3,rfl,rfl,hp3,ht3⟩:=hR;have hf3:=ht3 _ hfL;refine EN (IY 6 (34+i*28+k*7) Bm gF ?_);refine AL 7 ?_;refine bR (vs:=ints a3.flat) (i:=1) (ab rfl) rfl rfl rfl rfl rfl (by rw[bH];exact gF) (bB _) rfl rfl (by rw[am,bH];omega) (RowT.wr_left _ i k (by omega) (by omega) _) rfl (EN (DN (ah (af J22 (ag (AD ?_))))));refine PS ?_;refine ax ?_
 exact aN ((k+1,({y with left:=(y).left.set i (((y).left[i]'(by omega)).set k a3 (by omega)) (by omega)}:RowT),v3,r3):(Nat)×(RowT)×(Value)×(List UInt8)) ⟨by omega,hf3,(htlL.trans ht3),by rw[hpL,ES (by omega) (by omega) hp3]⟩ (by show _-_<_-_;omega)
  SB
  (λ_ s=>ao [1,1,0] rfl s)
 refine nx J20 (aa λ_ J24=>CN (bg (aC (aC (bD (ah (af J15 (ag (AD ?_)))))))));refine PS ?_;refine ax ?_
 exact aN ((i+1,y,uL,rL):(Nat)×(RowT)×(Value)×(List UInt8)) ⟨by omega,hfL,htlL,by rw[hpL,Ho (by omega)]⟩ (by show _-_<_-_;omega)
  SB
  (λ_ s=>ao [0,0,0] rfl s)
 refine nx J18 (CN (aT (ah (af J15 (ag (AD ?_))))));refine PS ?_;refine ax ?_
 exact aN ((i+1,({x with heir:=(x).heir.set i a2}:RowT),v2,r2):(Nat)×(RowT)×(Value)×(List UInt8)) ⟨by omega,hf2,(htl.trans ht2),by rw[hp,Hu (by omega) hp2 h31]⟩ (by show _-_<_-_;omega)
  SB
  (λ_ s=>ao [1,1,0] rfl s)
 refine nx J13 (aa λ_ J25=>CN (bg (aC (aC (bD (af J11 (sr λ_ J26=>tp (aL (vs:=ints (x).flat) rfl ez rfl bj rfl (RO 0) (am _) (by rw[bq,aD (by rw[am];decide)])) ?_)))))));refine bR (vs:=ints (x).flat) (i:=1) (ab rfl) rfl rfl rfl rfl rfl (by rw[am];exact bj) (bB _) rfl rfl (by rw[am,bm,am];decide) (jq (by rw[am,am])) rfl (nx J26 (ak (RC 1 [2] ez bj (am _) ?_)));exact⟨x,_,_,rfl,rfl,by rw[hp,EZ (by omega)],htl⟩
theorem lJ(n:Int):
 DT 144 #[(.int .i64 (n))] T0 [] (RI (.bool (IL n)) []):=by
 refine BD 9 Tryz.func144 rfl rfl rfl λw0 F hF=>sr λ_ J1=>PS ?_
 refine nx J1 (sr λ_ J2=>P2 ?_);refine aq ?_ ?_<;>intro h4
 iterate 5 refine PS ?_
 refine nx J2 (ak (aw rfl rfl ?_));exact⟨congrArg Value.bool (by unfold IL;first| (rw[decide_eq_decide];omega)| (symm;rw[decide_eq_false_iff_not];omega)| (symm;rw[decide_eq_true_iff];omega)),rfl⟩;refine PS ?_;refine UF ?_;refine UF ?_;refine P2 ?_;refine nx J2 (ak (aw rfl rfl ?_));exact⟨congrArg Value.bool (by unfold IL;first| (rw[decide_eq_decide];omega)| (symm;rw[decide_eq_false_iff_not];omega)| (symm;rw[decide_eq_true_iff];omega)),rfl⟩
theorem j9(w:Int):
 DT 37 #[(.int .i64 (w))] T0 [] (RI (.bool (cw w)) []):=by
 refine BD 9 Tryz.func37 rfl rfl rfl λw0 F hF=>sr λ_ J1=>PS ?_
 refine nx J1 (sr λ_ J2=>P2 ?_);refine aq ?_ ?_<;>intro h4
 iterate 5 refine PS ?_
 refine nx J2 (ak (aw rfl rfl ?_));exact⟨congrArg Value.bool (by unfold cw;first| (rw[decide_eq_decide];omega)| (symm;rw[decide_eq_false_iff_not];omega)| (symm;rw[decide_eq_true_iff];omega)),rfl⟩;refine PS ?_;refine UF ?_;refine UF ?_;refine P2 ?_;refine nx J2 (ak (aw rfl rfl ?_));exact⟨congrArg Value.bool (by unfold cw;first| (rw[decide_eq_decide];omega)| (symm;rw[decide_eq_false_iff_not];omega)| (symm;rw[decide_eq_true_iff];omega)),rfl⟩
theorem dH(v:ViewT)(w:Int):
 DT 17 #[(.agg (ints v.flat).toArray),(.int .i64 (w))] T0 [] (RI (.bool (gA v w)) []):=by
 refine BD 15 Tryz.func17 rfl rfl rfl λw0 F hF=>sr λ_ J1=>XY (ints v.flat) λb2=>?_
 refine PS ?_;refine nx J1 (sr λ_ J2=>PS ?_);refine CE IP (j9 w) ID ?_;refine bh ?_ ?_<;>intro h6;have hm:0≤w∧w<5:=of_decide_eq_true h6;refine PS ?_;refine FA 1 eL aQ ?_;refine LU 0 Y3 (ml v rfl) ?_;refine PS ?_;refine tq (l7 (r:=(v.members.fdiv (2^min w.toNat IntKind.i64.bits))) rfl rfl rfl (by omega) rfl) ?_;refine tq (vA (r:=((v.members.fdiv (2^min w.toNat IntKind.i64.bits))%2)) rfl rfl rfl (K7 _)) ?_;refine P3 ?_;refine nx J2 (ak (WK [] (aw rfl rfl ?_)));exact⟨congrArg Value.bool (by rw[gA,h6];rfl),rfl⟩;refine PS ?_
 iterate 6 refine UF ?_
 refine P2 ?_;refine nx J2 (ak (WK [] (aw rfl rfl ?_)));exact⟨congrArg Value.bool (by rw[gA,h6];rfl),rfl⟩
theorem AI(b off cap:Nat)(l:List Int)(hl:l.length≤1000)(cs:List Value)(T:TypeId)(z:Nat×Nat)(hb: ∀j,j<l.length→cs[off+j]?=some (.int .i64 (l.getD j 0))):
 DT 158 #[(.slice (some ⟨b,off,none⟩) (l.length) (cap))] (λF=>F b=some (.cells cs.toArray T z)) [] (RI (.tuple #[.int .i64 (uA l 0).1, .int .i64 (uA l 0).2]) []):=by
 refine BD 25 Tryz.func158 rfl rfl rfl λw0 F hF=>sr λ_ J1=>P2 ?_
 refine nx J1 (sr λ_ J2=>PS ?_);refine nx J2 (aa λ_ J3=>sr λ_ J4=>PS ?_);refine tp (tE rfl kE rfl) ?_;refine PS ?_;refine nx J4 (av ?_)
 refine bG (α:=(Nat)×(Int)) (λ⟨k,s⟩=>k≤l.length∧0≤s∧s≤1099511627776∧uA l 0=uA (l.drop k) s) (λ⟨k,s⟩=>[(4,(.int .i64 (s))),(7,(.slice (some ⟨b,off,none⟩) (l.length) (cap))),(8,(.int .i64 (((l.length:Nat):Int)))),(9,(.int .i64 (((k:Nat):Int))))]) (λ⟨k,s⟩=>[]) (λ⟨k,s⟩=>l.length-k) (0,0)
  ⟨aP _,by omega,by omega,rfl⟩ SB
  (λ_ s=>s) (λ⟨k,s⟩ hinv=>?_)
 obtain⟨hk,hs0,hs1,he⟩:=hinv;refine sr λ_ J5=>PS ?_
 refine aq ?_ ?_<;>intro h10;refine nx J5 (aa λ_ J6=>CY (qx J6 (aa λ_ J7=>av (sr λ_ J8=>tp (jW (r:=off+k) rfl kE aQ rfl rfl (by first|omega|decide) (by first|omega|decide) (by omega)) ?_))));refine tp (fY (v:=(.int .i64 ((l.getD k 0)))) rfl Y3 rfl rfl (Rd.ro hF) (hb k (by omega))) ?_;refine PS ?_;refine nx J8 (aa λ_ J9=>sr λ_ J10=>PS ?_);refine CE FU (lJ (l.getD k 0)) ID ?_;refine bh ?_ ?_<;>intro h14;have hn:0≤l.getD k 0∧l.getD k 0≤1099511627776:=of_decide_eq_true h14;refine PS ?_;refine nx J10 (CN (qx J9 (aa λ_ J11=>sr λ_ J12=>P2 ?_)));refine tp (jV rfl rfl rfl (bO (by omega) (by omega))) ?_;refine PS ?_;refine aq ?_ ?_<;>intro h19;refine nx J12 (CY (sr λ_ J13=>P2 ?_));refine nx J13 (ak (ae (aI (ae (ae (aI (ae (WK [] (jg rfl rfl rfl ?_)))))))));exact⟨by rw[he,xK (show k<l.length by omega),if_pos h14,if_pos (by omega)],rfl⟩;refine nx J12 (CN (qx J11 (ag (P2 ?_))));refine AD ?_;refine PS ?_;refine ax (ah (af J7 (ag (AD ?_))));refine PS ?_;refine ax ?_
 exact aN ((k+1,s+l.getD k 0):(Nat)×(Int)) ⟨by omega,by omega,by omega,by rw[he,xK (show k<l.length by omega),if_pos h14,if_neg (by omega)]⟩ (by show l.length- (k+1)<l.length-k;omega)
  SB
  (λ_ s=>s)
 refine PS ?_;refine nx J10 (CY (sr λ_ J14=>P2 ?_));refine nx J14 (ak (ae (aI (ae (ae (aI (ae (WK [] (jg rfl rfl rfl ?_)))))))));exact⟨by rw[he,xK (show k<l.length by omega),if_neg (by rw[h14];decide)],rfl⟩;refine nx J5 (aa λ_ J15=>CN (bg (aC (aC (bD (af J3 (sr λ_ J16=>P3 ?_)))))));refine nx J16 (ak (WK [] (jg rfl rfl rfl ?_)));exact⟨by rw[he,fw (by omega)];rfl,rfl⟩
theorem EE:
 DT 158 #[(.slice none 0 0)] T0 [] (RI (.tuple #[.int .i64 (uA [] 0).1, .int .i64 (uA [] 0).2]) []):=by
 refine BD 25 Tryz.func158 rfl rfl rfl λw0 F hF=>sr λ_ J1=>P2 ?_
 refine nx J1 (sr λ_ J2=>PS ?_);refine nx J2 (aa λ_ J3=>sr λ_ J4=>PS ?_);refine tp (tE rfl kE rfl) ?_;refine PS ?_;refine nx J4 (av ?_)
 refine bG (α:=Unit) (λ_u=>True) (λ_u=>[(4,(.int .i64 0)),(7,(.slice none 0 0)),(8,(.int .i64 0)),(9,(.int .i64 0))]) (λ_u=>[]) (λ_u=>0) ()
  trivial SB
  (λ_ s=>s) (λ_u hinv=>?_)
 obtain _:=hinv;refine sr λ_ J5=>PS ?_
 refine nx J5 (aa λ_ J6=>CN (bg (aC (aC (bD (af J3 (sr λ_ J7=>P3 ?_)))))));exact nx J7 (ak (WK [] (jg rfl rfl rfl ⟨rfl,rfl⟩)))
theorem Cv(x:Value)(l:List Int)(hl:l.length≤1000):DT 158 #[x] (P9 x l) [] (RI (.tuple #[.int .i64 (uA l 0).1, .int .i64 (uA l 0).2]) []):=by
 refine Leg.Does.of λF hF=>?_
 rcases id hF with⟨rfl,rfl⟩| ⟨b,off,cap,cs,T,z,rfl,h3,h4⟩
 · exact⟨_,trivial,EE⟩
 · exact⟨_,h3,AI b off cap l hl cs T z h4⟩
theorem py(x:Vector CellT 4):
    DT 143 #[(.agg (ints (bT x.toList)).toArray)] T0 [] (RI (.bool (ED x)) []):=by
 refine BD 30 Tryz.func143 rfl rfl rfl λw0 F hF=>sr λ_ J1=>XY (ints (bT x.toList)) λb1=>?_
 refine PS ?_;refine nx J1 (aa λ_ J2=>sr λ_ J3=>tp (aL (vs:=ints (bT x.toList)) rfl Bm rfl lP rfl (RO 0) (eD x) (bn (eD x))) ?_);refine PS ?_;refine nx J3 (av ?_)
 refine bG (α:=(Nat)) (λk=>k≤4∧∀(j:Nat) (h:j<4),j<k→MW x[j]=true) (λk=>[(7,(.agg (ints (bT x.toList)).toArray)),(8,(.int .i64 (((k:Nat):Int))))]) (λk=>[an b1 (ints (bT x.toList)) 48]) (λk=>4-k) 0
     ⟨aP _,λj h hj=>absurd hj (by omega)⟩ SB
     (λ_ s=>s) (λk hinv=>?_)
 obtain⟨hk,ho⟩:=hinv;refine sr λ_ J4=>PS ?_
 refine aq ?_ ?_<;>intro h9;refine nx J4 (aa λ_ J5=>CY (qx J5 (aa λ_ J6=>av (sr λ_ J7=>tp (Qg (cs:=ints (bT x.toList)) (vs:=ints (x[k]'(by omega)).flat) (r:=k*7) rfl Bm nV rfl gF rfl rfl (by omega) (by omega) (by omega) (kT bQ x (i:=k) 0 (by omega) (by omega) (by decide) (bn (bH (x[k]'(by omega)))))) ?_))));refine XZ JT (ints CellT.zero.flat) λb4=>?_
 refine SW 0 gF bH ?_;refine nx J7 (aa λ_ J8=>sr λ_ J9=>FA 0 nV aQ ?_);refine LT 0 Y3 (.int .i64 ((x[k]'(by omega)).inn)) ?_ (hc:=by exact yI _ rfl);refine CE FU (lJ ((x[k]'(by omega)).inn)) ID ?_;refine bh ?_ ?_<;>intro h13;refine PS ?_;refine PS ?_;refine FA 1 nV aQ ?_;refine LT 0 Y3 (.int .i64 ((x[k]'(by omega)).out)) ?_ (hc:=by exact yH _ rfl);refine CE FU (lJ ((x[k]'(by omega)).out)) ID ?_;refine bh ?_ ?_<;>intro h18;refine PS ?_;refine PS ?_;refine nx J9 (CN (qx J8 (sr λ_ J10=>FA 2 nV gK ?_)));refine tp (qE rfl mX aQ rfl) ?_;refine CF NP (Cv (.slice (some ⟨b4,2,none⟩) (5) (5)) ((x[k]'(by omega)).given).toList (by simp)) ID (dI 0 rfl rfl (by simp) (by rw[aA];exact(CellT.sub_given (x[k]'(by omega)) 0 rfl (by decide) (bn (jL ((x[k]'(by omega)).given)))))) ?_;refine P4 ?_;refine PS ?_;refine nx J10 (sr λ_ J11=>P2 ?_);refine aq ?_ ?_<;>intro h28;refine nx J11 (CY (sr λ_ J12=>PS ?_));refine nx J12 (ak (aI (ae (ae (aI (ae (WK [] (aw rfl rfl ⟨congrArg Value.bool ?_,rfl⟩))))))));symm;rw[ED,decide_eq_false_iff_not];intro h;have h:=h k (by omega);unfold MW at h;simp at h;exact absurd h.2 h28;refine nx J11 (CN (aT (ah (af J6 (ag (AD ?_))))));refine PS ?_;refine ax ?_
 exact aN ((k+1):(Nat)) ⟨by omega,λj h hj=>by
        by_cases q:j=k
        · subst q;unfold MW;simp_all
        · exact ho j h (by omega)⟩ (by show 4- (k+1)<4-k;omega)
   SB
   (λ_ s=>ao [1] rfl s)
 refine PS ?_;refine PS ?_;refine nx J9 (CY (sr λ_ J13=>PS ?_));refine nx J13 (ak (ae (aI (ae (ae (aI (ae (WK [] (aw rfl rfl ⟨congrArg Value.bool ?_,rfl⟩)))))))));symm;rw[ED,decide_eq_false_iff_not];intro h;have h:=h k (by omega);unfold MW at h;simp[h18]at h;refine PS ?_;refine PS ?_
 iterate 4 refine UT ?_
 refine PS ?_;refine nx J9 (CY (sr λ_ J14=>PS ?_));refine nx J14 (ak (ae (aI (ae (ae (aI (ae (WK [] (aw rfl rfl ⟨congrArg Value.bool ?_,rfl⟩)))))))));symm;rw[ED,decide_eq_false_iff_not];intro h;have h:=h k (by omega);unfold MW at h;simp[h13]at h;refine nx J4 (aa λ_ J15=>CN (bg (aC (aC (bD (af J2 (sr λ_ J16=>PS ?_)))))));refine nx J16 (ak (WK [] (aw rfl rfl ?_)));exact⟨congrArg Value.bool (by symm;rw[ED,decide_eq_true_iff];exact λj h=>ho j h (by omega)),rfl⟩
theorem O9:Tryz.prog.eqGuardType Tryz.prog.depth 48=false:=by kernel_rfl
theorem O4:Tryz.prog.keyTypeAt 6 48=true:=by kernel_rfl
theorem PP:oA Tryz.prog 6 48=some 28:=by kernel_rfl
theorem Of:(match Tryz.prog.underlying 48 with|some (.struct _)|some (.array _ _)=>true|_=>false)=true:=by kernel_rfl
theorem Oj:Tryz.prog.cellsOf 48=28:=by kernel_rfl
theorem J0{x:RowT}(h:WF x.flat)(i:Nat)(hi:i<5):WF (bT x.left[i].toList):=λn hn=>h n (by
 simp only[RowT.flat,bV,bA,kp]
 exact .inr (.inr (.inr ⟨x.left[i],by simp[Vector.getElem_mem],hn⟩)))
theorem M5:WF (bT RowT.zero.left[0].toList):=λn hn=>by
 have:n∈List.replicate 28 (0:Int):=hn;obtain rfl:=List.eq_of_mem_replicate this;decide
theorem kd(x:RowT)(hw:WF x.flat):
    DT 119 #[(.agg (ints x.flat).toArray)] T0 [] (RI (.bool (io x)) []):=by
 refine BD 41 Tryz.func119 rfl rfl rfl λw0 F hF=>sr λ_ J1=>XY (ints x.flat) λb1=>?_
 refine PS ?_;refine nx J1 (aa λ_ J2=>sr λ_ J3=>FA 0 ez aQ ?_);refine LU 0 Y3 (cJ x rfl) ?_;refine PS ?_;refine aq ?_ ?_<;>intro h7;refine PS ?_
 iterate 4 refine UT ?_
 refine PS ?_;refine nx J3 (CY (sr λ_ J4=>PS ?_));refine nx J4 (ak (ae (WK [] (aw rfl rfl ⟨congrArg Value.bool ?_,rfl⟩))));symm;rw[io,fE];intro h;rw[au,au,decide_eq_true_iff,decide_eq_true_iff]at h;omega;refine PS ?_;refine FA 1 ez lP ?_;refine tq (aL (vs:=ints (bT x.cells.toList)) rfl Bm rfl lP rfl (RO 0) (eD x.cells) (DK x 0 rfl (by decide) (bn (eD x.cells)))) ?_;refine CE Lq (py x.cells) ID ?_;refine bh ?_ ?_<;>intro h11;refine PS ?_;refine PS ?_;refine nx J3 (CN (qx J2 (aa λ_ J5=>sr λ_ J6=>FA 29 ez gK ?_)));refine tp (aL (vs:=ints x.heir.toList) rfl mX rfl gK rfl (RO 0) (jL x.heir) (PT x 0 rfl (by decide) (bn (jL x.heir)))) ?_;refine PS ?_;refine nx J6 (av ?_)
 refine bG (α:=(Nat)) (λi=>i≤5∧∀(j:Nat) (h:j<5),j<i→EX x.heir[j] x.left[j]=true) (λi=>[(1,(.pointer (some ⟨b1,0,none⟩))),(15,(.agg (ints x.heir.toList).toArray)),(16,(.int .i64 (((i:Nat):Int))))]) (λi=>[an b1 (ints x.flat) 51]) (λi=>5-i) 0
     ⟨aP _,λj h hj=>absurd hj (by omega)⟩ SB
     (λ_ s=>s) (λi hinv=>?_)
 obtain⟨hi,ho⟩:=hinv;refine sr λ_ J7=>PS ?_
 refine aq ?_ ?_<;>intro h17;refine nx J7 (aa λ_ J8=>CY (qx J8 (aa λ_ J9=>av (sr λ_ J10=>PS ?_))));refine tp (sj (cs:=ints x.heir.toList) (v:=Value.int .i64 (x.heir[i]'(by omega))) (r:=i) rfl mX Y3 rfl aQ rfl rfl (by omega) (by omega) (by omega) (kG x.heir (by omega))) ?_;refine P2 ?_;refine nx J10 (aa λ_ J11=>sr λ_ J12=>P2 ?_);refine aq ?_ ?_<;>intro h21;refine PS ?_
 iterate 6 refine UT ?_
 refine PS ?_;refine nx J12 (CY (sr λ_ J13=>PS ?_));refine nx J13 (ak (ae (aI (ae (ae (aI (ae (WK [] (aw rfl rfl ⟨congrArg Value.bool ?_,rfl⟩)))))))));symm;rw[io,fE];intro h;rw[au,au,decide_eq_true_iff,decide_eq_true_iff]at h;have h:=h.2 i (by omega);unfold EX at h;rw[au,au,decide_eq_true_iff,decide_eq_true_iff]at h;omega;refine P2 ?_;refine FA 34 ez BK ?_;refine IX (34+i*28) L1 lP ?_;refine tq (aL (vs:=ints (bT (x.left[i]'(by omega)).toList)) rfl Bm rfl lP rfl (RO 0) (eD (x.left[i]'(by omega))) (Gl x (i*28) (by omega) (by omega) (kT tP x.left (i:=i) 0 (by omega) (by omega) (by decide) (bn (eD (x.left[i]'(by omega))))))) ?_;refine CE Lq (py (x.left[i]'(by omega))) ID ?_;refine bh ?_ ?_<;>intro h27;refine PS ?_;refine PS ?_;refine nx J12 (CN (qx J11 (sr λ_ J14=>P2 ?_)));refine aq ?_ ?_<;>intro h31;refine P2 ?_;refine FA 34 ez BK ?_;refine IX (34+i*28) L1 lP ?_;refine tq (aL (vs:=ints (bT (x.left[i]'(by omega)).toList)) rfl Bm rfl lP rfl (RO 0) (eD (x.left[i]'(by omega))) (Gl x (i*28) (by omega) (by omega) (kT tP x.left (i:=i) 0 (by omega) (by omega) (by decide) (bn (eD (x.left[i]'(by omega))))))) ?_;refine BV ((ints (bT RowT.zero.cells.toList)).toArray) ?_
 refine tq (DV (a:=bT (x.left[i]'(by omega)).toList) (b:=bT RowT.zero.cells.toList) (m:=6) (c:=28) O9 O4 rfl PP (du (eD (x.left[i]'(by omega)))) (du (eD RowT.zero.cells)) ⟨gh Of Oj (du (eD (x.left[i]'(by omega)))),gh Of Oj (du (eD RowT.zero.cells))⟩ (J0 hw i (by omega)) M5 rfl rfl rfl) ?_;refine aq ?_ ?_<;>intro h38;refine PS ?_;refine nx J14 (CY (sr λ_ J15=>PS ?_));refine nx J15 (ak (aI (ae (ae (aI (ae (WK [] (aw rfl rfl ⟨congrArg Value.bool ?_,rfl⟩))))))));symm;rw[io,fE];intro h;rw[au,au,decide_eq_true_iff,decide_eq_true_iff]at h;have h:=h.2 i (by omega);unfold EX at h;rw[au,au,decide_eq_true_iff,decide_eq_true_iff]at h;exact h38 (h.2 h31);refine PS ?_;refine nx J14 (CN (aT (ah (af J9 (ag (AD ?_))))));refine PS ?_;refine ax ?_
 exact aN ((i+1):(Nat)) ⟨by omega,λj h hj=>by
        by_cases q:j=i
        · subst q;unfold EX;rw[au,au,decide_eq_true_iff,decide_eq_true_iff];exact⟨⟨by omega,h27⟩,λe=>by first|exact absurd e h31|exact Classical.not_not.1 h38⟩
        · exact ho j h (by omega)⟩ (by show 5- (i+1)<5-i;omega)
   SB
   (λ_ s=>s)
 refine PS ?_
 iterate 6 refine UF ?_
 refine PS ?_;refine nx J14 (CN (aT (ah (af J9 (ag (AD ?_))))));refine PS ?_;refine ax ?_
 exact aN ((i+1):(Nat)) ⟨by omega,λj h hj=>by
        by_cases q:j=i
        · subst q;unfold EX;rw[au,au,decide_eq_true_iff,decide_eq_true_iff];exact⟨⟨by omega,h27⟩,λe=>by first|exact absurd e h31|exact Classical.not_not.1 h38⟩
        · exact ho j h (by omega)⟩ (by show 5- (i+1)<5-i;omega)
   SB
   (λ_ s=>s)
 refine PS ?_;refine PS ?_;refine nx J12 (CY (sr λ_ J16=>PS ?_));refine nx J16 (ak (ae (aI (ae (ae (aI (ae (WK [] (aw rfl rfl ⟨congrArg Value.bool ?_,rfl⟩)))))))));symm;rw[io,fE];intro h;rw[au,au,decide_eq_true_iff,decide_eq_true_iff]at h;have h:=h.2 i (by omega);unfold EX at h;rw[au,au,decide_eq_true_iff,decide_eq_true_iff]at h;rw[h27]at h;exact absurd h.1.2 (by decide);refine nx J7 (aa λ_ J17=>CN (bg (aC (aC (bD (af J5 (sr λ_ J18=>PS ?_)))))));refine nx J18 (ak (WK [] (aw rfl rfl ?_)));exact⟨congrArg Value.bool (by symm;rw[io,au,au,decide_eq_true_iff,decide_eq_true_iff];exact⟨⟨by omega,h11⟩,λj h=>ho j h (by omega)⟩),rfl⟩;refine PS ?_;refine PS ?_;refine nx J3 (CY (sr λ_ J19=>PS ?_));refine nx J19 (ak (ae (WK [] (aw rfl rfl ⟨congrArg Value.bool ?_,rfl⟩))));symm;rw[io,fE];intro h;rw[au,au,decide_eq_true_iff,decide_eq_true_iff]at h;rw[h11]at h;exact absurd h.1.2 (by decide)
theorem rR:
 DT 8 #[] T0 [] (RI (.agg (ints firstV.flat).toArray) []):=by
 refine BD 2 Tryz.func8 rfl rfl rfl λw0 F hF=>sr λ_ J1=>XZ pM (ints ViewT.zero.flat) λb0=>?_
 refine nx J1 (sr λ_ J2=>tp (yC (cs:=ints (ViewT.mk 1 7 (#v[0,0,0,0,0])).flat) (segs:=[[Value.int .i64 0],[Value.int .i64 0],ints (#v[0,0,0,0,0]).toList]) (res:=[[Value.int .i64 1],[Value.int .i64 7],ints (#v[0,0,0,0,0]).toList]) (parts:=[(0,[Value.int .i64 1]),(1,[Value.int .i64 7])]) rfl rfl eL (by kernel_rfl) (by kernel_rfl) rfl (fA rfl rfl (fA rfl rfl lS)) (nu (ViewT.mk 1 7 (#v[0,0,0,0,0]))).symm) ?_);refine SW 0 be ai ?_;refine nx J2 (ak (RC 0 [] eL be (ai _) ?_));exact⟨rfl,rfl⟩
theorem iD(v:ViewT)(hh:Rng v):
    DT 12 #[(.agg (ints v.flat).toArray)] T0 [] (RI (.bool (jv v)) []):=by
 refine BD 39 Tryz.func12 rfl rfl rfl λw0 F hF=>sr λ_ J1=>XY (ints v.flat) λb1=>?_
 refine PS ?_;refine nx J1 (aa λ_ J2=>sr λ_ J3=>FA 0 eL aQ ?_);refine LU 0 Y3 (bf v rfl) ?_;refine PS ?_;refine aq ?_ ?_<;>intro h7;refine PS ?_
 iterate 3 refine UT ?_
 refine P2 ?_
 iterate 3 refine UT ?_
 refine PS ?_;refine nx J3 (CY (sr λ_ J4=>PS ?_));refine nx J4 (ak (ae (WK [] (aw rfl rfl ⟨congrArg Value.bool ?_,rfl⟩))));symm;rw[jv,fE];intro h;rw[au,decide_eq_true_iff,decide_eq_true_iff]at h;omega;refine PS ?_;refine FA 1 eL aQ ?_;refine LU 0 Y3 (ml v rfl) ?_;refine PS ?_;refine aq ?_ ?_<;>intro h11;refine P2 ?_
 iterate 3 refine UT ?_
 refine PS ?_;refine nx J3 (CY (sr λ_ J5=>PS ?_));refine nx J5 (ak (ae (WK [] (aw rfl rfl ⟨congrArg Value.bool ?_,rfl⟩))));symm;rw[jv,fE];intro h;rw[au,decide_eq_true_iff,decide_eq_true_iff]at h;omega;refine P2 ?_;refine FA 1 eL aQ ?_;refine LU 0 Y3 (ml v rfl) ?_;refine PS ?_;refine aq ?_ ?_<;>intro h16;refine PS ?_;refine nx J3 (CY (sr λ_ J6=>PS ?_));refine nx J6 (ak (ae (WK [] (aw rfl rfl ⟨congrArg Value.bool ?_,rfl⟩))));symm;rw[jv,fE];intro h;rw[au,decide_eq_true_iff,decide_eq_true_iff]at h;omega;refine PS ?_;refine nx J3 (CN (qx J2 (aa λ_ J7=>sr λ_ J8=>FA 2 eL gK ?_)));refine tp (aL (vs:=ints v.heirs.toList) rfl mX rfl gK rfl (RO 0) (jL v.heirs) (ViewT.sub_heirs v 0 rfl (by decide) (bn (jL v.heirs)))) ?_;refine PS ?_;refine nx J8 (av ?_)
 refine bG (α:=(Nat)) (λi=>i≤5∧∀(j:Nat) (h:j<5),j<i→IM v v.heirs[j] j=true) (λi=>[(1,(.pointer (some ⟨b1,0,none⟩))),(19,(.agg (ints v.heirs.toList).toArray)),(20,(.int .i64 (((i:Nat):Int))))]) (λi=>[an b1 (ints v.flat) 29]) (λi=>5-i) 0
     ⟨aP _,λj h hj=>absurd hj (by omega)⟩ SB
     (λ_ s=>s) (λi hinv=>?_)
 obtain⟨hi,ho⟩:=hinv;have hhi:=λh:i<5=>hh i h
 refine sr λ_ J9=>PS ?_
 refine aq ?_ ?_<;>intro h21;replace hhi:=hhi (by omega);refine nx J9 (aa λ_ J10=>CY (qx J10 (aa λ_ J11=>av (sr λ_ J12=>PS ?_))));refine tp (sj (cs:=ints v.heirs.toList) (v:=Value.int .i64 (v.heirs[i]'(by omega))) (r:=i) rfl mX Y3 rfl aQ rfl rfl (by omega) (by omega) (by omega) (kG v.heirs (by omega))) ?_;refine P2 ?_;refine nx J12 (sr λ_ J13=>P2 ?_);refine aq ?_ ?_<;>intro h25;refine PS ?_;refine LW 0 eL be ai ?_;refine PS ?_;refine tq (jV rfl rfl rfl (bO (by omega) (by omega))) ?_;refine CE qh (dH v ((v.heirs[i]'(by omega))-1)) ID ?_;refine bh ?_ ?_<;>intro h30;refine PS ?_;refine PS ?_;refine LW 0 eL be ai ?_;refine PS ?_;refine CE qh (dH v ((i:Nat):Int)) ID ?_;refine bh ?_ ?_<;>intro h35;refine P2 ?_;refine nx J13 (CY (sr λ_ J14=>PS ?_));refine nx J14 (ak (aI (ae (ae (aI (ae (WK [] (aw rfl rfl ⟨congrArg Value.bool ?_,rfl⟩))))))));symm;rw[jv,fE];intro h;rw[au,decide_eq_true_iff,decide_eq_true_iff]at h;have h:=h.2 i (by omega);unfold IM at h;rw[di,decide_eq_true_iff,au]at h;rw[h35]at h;exact h.elim h25 λq=>absurd q.2 (by decide)
 refine P2 ?_;refine nx J13 (CN (aT (ah (af J11 (ag (AD ?_))))));refine PS ?_;refine ax ?_
 exact aN ((i+1):(Nat)) ⟨by omega,λj h hj=>by
        by_cases q:j=i
        · subst q;unfold IM;simp_all
        · exact ho j h (by omega)⟩ (by show 5- (i+1)<5-i;omega)
   SB
   (λ_ s=>s)
 refine PS ?_;refine PS ?_
 iterate 3 refine UT ?_
 refine P2 ?_;refine nx J13 (CY (sr λ_ J15=>PS ?_));refine nx J15 (ak (aI (ae (ae (aI (ae (WK [] (aw rfl rfl ⟨congrArg Value.bool ?_,rfl⟩))))))));symm;rw[jv,fE];intro h;rw[au,decide_eq_true_iff,decide_eq_true_iff]at h;have h:=h.2 i (by omega);unfold IM at h;rw[di,decide_eq_true_iff,au]at h;rw[h30]at h;exact h.elim h25 λq=>absurd q.1 (by decide)
 refine PS ?_
 iterate 6 refine UF ?_
 refine TL.unmetU rfl rfl rfl rfl (lb rfl) (TL.unmetU rfl rfl rfl rfl (lb rfl) (TL.unmetU rfl rfl rfl rfl (lb rfl) (UF ?_)));refine PS ?_;refine nx J13 (CN (aT (ah (af J11 (ag (AD ?_))))));refine PS ?_;refine ax ?_
 exact aN ((i+1):(Nat)) ⟨by omega,λj h hj=>by
        by_cases q:j=i
        · subst q;unfold IM;simp_all
        · exact ho j h (by omega)⟩ (by show 5- (i+1)<5-i;omega)
   SB
   (λ_ s=>s)
 refine nx J9 (aa λ_ J16=>CN (bg (aC (aC (bD (af J7 (sr λ_ J17=>PS ?_)))))));refine nx J17 (ak (WK [] (aw rfl rfl ?_)));exact⟨congrArg Value.bool (by symm;rw[jv,au,decide_eq_true_iff,decide_eq_true_iff];exact⟨by omega,λj h=>ho j h (by omega)⟩),rfl⟩
theorem uq(v:ViewT)(w:Int)(hh:Rng v):
 DT 74 #[(.agg (ints v.flat).toArray),(.int .i64 (w))] T0 [] (RI (.tuple #[.int .i64 ((lx v w).getD 0), .bool (lx v w).isSome]) []):=by
 refine BD 21 Tryz.func74 rfl rfl rfl λw0 F hF=>sr λ_ J1=>XY (ints v.flat) λb2=>?_
 refine P2 ?_;refine nx J1 (aa λ_ J2=>sr λ_ J3=>PS ?_);refine CE IP (j9 w) ID ?_;refine bh ?_ ?_<;>intro h7;have hm:0≤w∧w<5:=of_decide_eq_true h7;have hb:=hh w.toNat (by omega);refine PS ?_;refine P2 ?_;refine FA 2 eL gK ?_;refine IX (2+w.toNat) mX aQ ?_;refine LT 0 Y3 (.int .i64 ((v.heirs[w.toNat]'(by omega)))) ?_ (hc:=by exact ViewT.pt_heirs v (w.toNat) (by omega) (by omega) (kG v.heirs (by omega)));refine PS ?_;refine aq ?_ ?_<;>intro h14;refine PS ?_;refine nx J3 (CY (sr λ_ J4=>P2 ?_));refine nx J4 (ak (ae (WK [] (jg rfl rfl rfl ?_))));exact⟨by rw[lx,dif_pos hm,if_pos h14];rfl,rfl⟩;refine PS ?_;refine nx J3 (CN (qx J2 (sr λ_ J5=>PS ?_)));refine FA 2 eL gK ?_;refine IX (2+w.toNat) mX aQ ?_;refine LT 0 Y3 (.int .i64 ((v.heirs[w.toNat]'(by omega)))) ?_ (hc:=by exact ViewT.pt_heirs v (w.toNat) (by omega) (by omega) (kG v.heirs (by omega)));refine tp (jV rfl rfl rfl (bO (by omega) (by omega))) ?_;refine P2 ?_;refine nx J5 (ak (WK [] (jg rfl rfl rfl ?_)));exact⟨by rw[lx,dif_pos hm,if_neg h14];rfl,rfl⟩;refine PS ?_;refine PS ?_
 iterate 5 refine UT ?_
 refine PS ?_;refine nx J3 (CY (sr λ_ J6=>P2 ?_));refine nx J6 (ak (ae (WK [] (jg rfl rfl rfl ?_))));exact⟨by rw[lx,dif_neg (of_decide_eq_false h7)];rfl,rfl⟩
theorem dq(v:ViewT)(c:ChangeT)(hh:Rng v):
    DT 34 #[(.agg (ints v.flat).toArray),(.agg (ints c.flat).toArray)] T0 [] (RI (.tuple #[.agg (ints (cm v c).1.flat).toArray, .int .i64 (cm v c).2]) []):=by
 refine BD 106 Tryz.func34 rfl rfl rfl λw0 F hF=>sr λ_ J1=>XY (ints v.flat) λb2=>?_
 refine XY (ints c.flat) λb3=>?_
 refine XZ pM (ints ViewT.zero.flat) λb4=>?_
 refine PS ?_;refine nx J1 (aa λ_ J2=>sr λ_ J3=>FA 1 nt aQ ?_);refine LU 1 Y3 (jc c rfl) ?_;refine CE IP (j9 c.who) ID ?_;refine bh ?_ ?_<;>intro h12;have hm1:0≤c.who∧c.who<5:=of_decide_eq_true h12;refine PS ?_;refine PS ?_;refine FA 2 nt aQ ?_;refine LU 1 Y3 (qX c rfl) ?_;refine CE IP (j9 c.heir) ID ?_;refine bh ?_ ?_<;>intro h17;have hm2:0≤c.heir∧c.heir<5:=of_decide_eq_true h17;refine PS ?_;refine PS ?_;refine nx J3 (CN (qx J2 (aa λ_ J4=>sr λ_ J5=>FA 0 nt aQ ?_)));refine LU 1 Y3 (ChangeT.at_kind c rfl) ?_;refine nx J5 (av (sr λ_ J6=>PS ?_));refine aq ?_ ?_<;>intro h25;refine PS ?_;refine nx J6 (CY (aa λ_ J7=>sr λ_ J8=>LW 2 eL be ai ?_));refine FA 1 nt aQ ?_;refine LU 1 Y3 (jc c rfl) ?_;refine CE Mn (uq v c.who hh) ID ?_;refine P3 ?_;refine bh ?_ ?_<;>intro h32;refine P2 ?_;refine nx J8 (sr λ_ J9=>P2 ?_)
 iterate 4 refine UT ?_
 refine PS ?_;refine nx J9 (CY (sr λ_ J10=>BV ((ints ViewT.zero.flat).toArray) ?_));refine SW 0 be ai ?_;refine PS ?_;refine nx J10 (ak (ae (aI (ae (RT 0 [] eL be (ai _) ?_)))));exact⟨by simp_all [cm],rfl⟩;refine P2 ?_;refine nx J8 (sr λ_ J11=>P2 ?_);refine LW 2 eL be ai ?_;refine FA 1 nt aQ ?_;refine LU 1 Y3 (jc c rfl) ?_;refine CE qh (dH v c.who) ID ?_;refine bh ?_ ?_<;>intro h38;refine PS ?_;refine nx J11 (CY (sr λ_ J12=>BV ((ints ViewT.zero.flat).toArray) ?_));refine SW 0 be ai ?_;refine PS ?_;refine nx J12 (ak (ae (aI (ae (RT 0 [] eL be (ai _) ?_)))));exact⟨by simp_all [cm],rfl⟩;refine PS ?_;refine nx J11 (CN (qx J7 (D1 1 bo ?_)));refine FD 0 1 eL aQ ?_;refine FD 2 1 nt aQ ?_;refine LR 3 Y3 (jc c rfl) ?_;refine ta 4 rfl (yz (r:=(2^c.who.toNat)) rfl rfl rfl (by omega) (Al hm1)) ?_;refine AL 1 ?_;refine LU 2 Y3 (ml v rfl) ?_;refine EN (ta 5 rfl (JM (r:=(gH .i64 v.members (2^c.who.toNat))) rfl rfl rfl rfl) ?_);refine FD 6 1 eL aQ ?_;refine AL 7 ?_;refine cd (i:=2) (ab rfl) rfl rfl rfl rfl rfl aQ rfl rfl (LB (ai _)) (ViewT.set_members v rfl _) rfl (EN (DN (ah (af J4 (sr λ_ J13=>FA 0 eL aQ ?_)))));refine LT 2 Y3 (.int .i64 (v.epoch)) ?_ (hc:=by exact bf _ rfl);refine tp (cG (r:=(IntKind.i64.wrap (v.epoch+1))) rfl rfl rfl rfl) ?_;refine FA 0 eL aQ ?_;refine cd (i:=2) (ab rfl) rfl rfl rfl rfl rfl aQ rfl rfl (LB (ai _)) (ViewT.set_epoch _ rfl _) rfl (nx J13 (sr λ_ J14=>LW 2 eL be ai ?_));refine SW 0 be ai ?_;refine PS ?_
 refine nx J14 (ak (RT 0 [] eL be (ai _) ?_));exact⟨by simp_all [cm],rfl⟩;refine PS ?_;refine nx J6 (CN (sr λ_ J15=>PS ?_));refine aq ?_ ?_<;>intro h49;refine PS ?_;refine nx J15 (CY (aa λ_ J16=>sr λ_ J17=>LW 2 eL be ai ?_));refine FA 1 nt aQ ?_;refine LU 1 Y3 (jc c rfl) ?_;refine CE qh (dH v c.who) ID ?_;refine bh ?_ ?_<;>intro h53;refine PS ?_;refine PS ?_;refine LW 2 eL be ai ?_;refine FA 2 nt aQ ?_;refine LU 1 Y3 (qX c rfl) ?_;refine CE qh (dH v c.heir) ID ?_;refine bh ?_ ?_<;>intro h59;refine PS ?_;refine P2 ?_;refine FA 2 nt aQ ?_;refine LU 1 Y3 (qX c rfl) ?_;refine FA 1 nt aQ ?_;refine LU 1 Y3 (jc c rfl) ?_;refine PS ?_;refine aq ?_ ?_<;>intro h67;refine PS ?_;refine nx J17 (CY (sr λ_ J18=>BV ((ints ViewT.zero.flat).toArray) ?_));refine SW 0 be ai ?_;refine PS ?_;refine nx J18 (ak (ae (aI (ae (RT 0 [] eL be (ai _) ?_)))));exact⟨by simp_all [cm],rfl⟩;refine PS ?_;refine nx J17 (CN (qx J16 (aa λ_ J19=>D1 1 bo ?_)));refine FD 0 1 eL aQ ?_;refine FD 2 1 nt aQ ?_;refine LR 3 Y3 (jc c rfl) ?_;refine ta 4 rfl (yz (r:=(2^c.who.toNat)) rfl rfl rfl (by omega) (Al hm1)) ?_;refine AL 1 ?_;refine LU 2 Y3 (ml v rfl) ?_;refine EN (ta 5 rfl (PV.andNot (r:=(jk .i64 v.members (2^c.who.toNat))) rfl rfl rfl rfl) ?_);refine FD 6 1 eL aQ ?_;refine AL 7 ?_;refine cd (i:=2) (ab rfl) rfl rfl rfl rfl rfl aQ rfl rfl (LB (ai _)) (ViewT.set_members v rfl _) rfl (EN (DN (af J19 (sr λ_ J20=>FA 2 eL gK ?_))))
 refine tp (aL (vs:=ints v.heirs.toList) rfl mX rfl gK rfl (RO 2) (jL v.heirs) (ViewT.sub_heirs (ViewT.mk v.epoch (jk .i64 v.members (2^c.who.toNat)) v.heirs) 0 rfl (by decide) (bn (jL v.heirs)))) ?_;refine PS ?_;refine nx J20 (av ?_)
 refine bG (α:=(Nat)×(Vector Int 5)) (λ⟨i,hs⟩=>i≤5∧∀(j:Nat) (h:j<5),hs[j]=if j<i then nj c j v.heirs[j]else v.heirs[j]) (λ⟨i,hs⟩=>[(2,(.pointer (some ⟨b2,0,none⟩))),(3,(.pointer (some ⟨b3,0,none⟩))),(4,(.pointer (some ⟨b4,0,none⟩))),(5,(.int .i64 0)),(78,(.agg (ints v.heirs.toList).toArray)),(79,(.int .i64 (((i:Nat):Int))))]) (λ⟨i,hs⟩=>[an b4 (ints ViewT.zero.flat) 29,an b3 (ints c.flat) 33,an b2 (ints (ViewT.mk v.epoch (jk .i64 v.members (2^c.who.toNat)) hs).flat) 29]) (λ⟨i,hs⟩=>5-i) (0,v.heirs)
     ⟨aP _,λj h=>by rw[if_neg (by omega)]⟩ SB
     (λ_ s=>s) (λ⟨i,hs⟩ hinv=>?_)
 obtain⟨hi,ho⟩:=hinv;refine sr λ_ J21=>PS ?_
 refine aq ?_ ?_<;>intro h80;refine nx J21 (aa λ_ J22=>CY (qx J22 (aa λ_ J23=>av (sr λ_ J24=>PS ?_))));refine tp (sj (cs:=ints v.heirs.toList) (v:=Value.int .i64 (v.heirs[i]'(by omega))) (r:=i) rfl mX Y3 rfl aQ rfl rfl (by omega) (by omega) (by omega) (kG v.heirs (by omega))) ?_;refine P2 ?_;refine nx J24 (sr λ_ J25=>PS ?_);refine FA 1 nt aQ ?_;refine LU 1 Y3 (jc c rfl) ?_;refine PS ?_;refine aq ?_ ?_<;>intro h86;refine PS ?_
 iterate 5 refine UT ?_
 refine PS ?_;refine nx J25 (CY (ag (PS ?_)));refine FA 2 nt aQ ?_;refine LU 1 Y3 (qX c rfl) ?_;refine AD ?_;refine FA 2 eL gK ?_;refine IX (2+i) mX aQ ?_;refine cd (i:=2) (ab rfl) rfl rfl rfl rfl rfl aQ rfl rfl (LB (ai _)) (ViewT.st_heirs (ViewT.mk v.epoch (jk .i64 v.members (2^c.who.toNat)) hs) i (by omega) (by omega) (yO hs (by omega) _)) rfl (ax (ah (af J23 (ag (AD ?_)))));refine PS ?_;refine ax ?_
 exact aN ((i+1,hs.set i (c.heir+1) (by omega)):(Nat)×(Vector Int 5)) ⟨by omega,λj h=>by
        rw[Vector.getElem_set]
        by_cases q:j=i
        · subst q;rw[if_pos rfl,if_pos (by omega),nj,if_pos (by omega)]
        · rw[if_neg (by omega),ho j h]
          by_cases q2:j<i
          · rw[if_pos q2,if_pos (by omega)]
          · rw[if_neg q2,if_neg (by omega)]⟩ (by show 5- (i+1)<5-i;omega)
   SB
   (λ_ s=>s)
 refine P2 ?_;refine FA 1 nt aQ ?_;refine LU 1 Y3 (jc c rfl) ?_;refine tq (cG rfl rfl rfl (bO (by omega) (by omega))) ?_;refine PS ?_;refine aq ?_ ?_<;>intro h92;refine PS ?_;refine nx J25 (CY (ag (PS ?_)));refine FA 2 nt aQ ?_;refine LU 1 Y3 (qX c rfl) ?_;refine AD ?_;refine FA 2 eL gK ?_;refine IX (2+i) mX aQ ?_;refine cd (i:=2) (ab rfl) rfl rfl rfl rfl rfl aQ rfl rfl (LB (ai _)) (ViewT.st_heirs (ViewT.mk v.epoch (jk .i64 v.members (2^c.who.toNat)) hs) i (by omega) (by omega) (yO hs (by omega) _)) rfl (ax (ah (af J23 (ag (AD ?_)))));refine PS ?_;refine ax ?_
 exact aN ((i+1,hs.set i (c.heir+1) (by omega)):(Nat)×(Vector Int 5)) ⟨by omega,λj h=>by
        rw[Vector.getElem_set]
        by_cases q:j=i
        · subst q;rw[if_pos rfl,if_pos (by omega),nj,if_pos (by omega)]
        · rw[if_neg (by omega),ho j h]
          by_cases q2:j<i
          · rw[if_pos q2,if_pos (by omega)]
          · rw[if_neg q2,if_neg (by omega)]⟩ (by show 5- (i+1)<5-i;omega)
   SB
   (λ_ s=>s)
 refine PS ?_;refine nx J25 (CN (aT (ah (af J23 (ag (AD ?_))))));refine PS ?_;refine ax ?_
 exact aN ((i+1,hs):(Nat)×(Vector Int 5)) ⟨by omega,λj h=>by
        rw[ho j h]
        by_cases q:j=i
        · subst q;rw[if_neg (by omega),if_pos (by omega),nj,if_neg (by omega)]
        · by_cases q2:j<i
          · rw[if_pos q2,if_pos (by omega)]
          · rw[if_neg q2,if_neg (by omega)]⟩ (by show 5- (i+1)<5-i;omega)
   SB
   (λ_ s=>s)
 refine nx J21 (aa λ_ J26=>CN (bg (aC (aC (bD (ah (af J4 (sr λ_ J27=>FA 0 eL aQ ?_))))))));refine LT 2 Y3 (.int .i64 (v.epoch)) ?_ (hc:=by exact bf _ rfl);refine tp (cG (r:=(IntKind.i64.wrap (v.epoch+1))) rfl rfl rfl rfl) ?_;refine FA 0 eL aQ ?_;refine cd (i:=2) (ab rfl) rfl rfl rfl rfl rfl aQ rfl rfl (LB (ai _)) (ViewT.set_epoch _ rfl _) rfl (nx J27 (sr λ_ J28=>LW 2 eL be ai ?_));refine SW 0 be ai ?_;refine PS ?_;refine nx J28 (ak (RT 0 [] eL be (ai _) ?_))
 have e:hs=lE v c:=by
   apply Vector.ext;intro j hj;rw[ho j hj,if_pos (by omega)];simp[lE]
 subst e;exact⟨by simp_all [cm],rfl⟩;refine PS ?_;refine P2 ?_
 iterate 5 refine UT ?_
 refine PS ?_;refine nx J17 (CY (sr λ_ J29=>BV ((ints ViewT.zero.flat).toArray) ?_));refine SW 0 be ai ?_;refine PS ?_;refine nx J29 (ak (ae (aI (ae (RT 0 [] eL be (ai _) ?_)))));exact⟨by simp_all [cm],rfl⟩;refine PS ?_;refine PS ?_
 iterate 5 refine UT ?_
 refine P2 ?_
 iterate 5 refine UT ?_
 refine PS ?_;refine nx J17 (CY (sr λ_ J30=>BV ((ints ViewT.zero.flat).toArray) ?_));refine SW 0 be ai ?_;refine PS ?_;refine nx J30 (ak (ae (aI (ae (RT 0 [] eL be (ai _) ?_)))));exact⟨by simp_all [cm],rfl⟩;refine PS ?_;refine nx J15 (CN (sr λ_ J31=>BV ((ints ViewT.zero.flat).toArray) ?_));refine SW 0 be ai ?_;refine PS ?_;refine nx J31 (ak (aI (ae (RT 0 [] eL be (ai _) ?_))));exact⟨by simp_all [cm],rfl⟩;refine PS ?_;refine PS ?_;refine nx J3 (CY (sr λ_ J32=>BV ((ints ViewT.zero.flat).toArray) ?_));refine SW 0 be ai ?_;refine PS ?_;refine nx J32 (ak (ae (RT 0 [] eL be (ai _) ?_)));exact⟨by simp_all [cm],rfl⟩;refine PS ?_;refine PS ?_
 iterate 4 refine UT ?_
 refine PS ?_;refine nx J3 (CY (sr λ_ J33=>BV ((ints ViewT.zero.flat).toArray) ?_));refine SW 0 be ai ?_;refine PS ?_;refine nx J33 (ak (ae (RT 0 [] eL be (ai _) ?_)));exact⟨by simp_all [cm],rfl⟩
end Go.Proofs.YtmcjhkbcmmddgaaGreat
end

section
namespace Leg
open Go Codec Api
section
variable {P:Program} {w0:World} {F:Hl} {n:Nat} {ops:Array Oper} {Q:QQ} {D:List Deferred} {L:List (Nat×Value)} {H:List HP} {o:Oper} {l:List Oper} {d:Nat}
def ey(c cap:Nat)(vs:List Value)(s r:Nat):HP:=obj c (.chan cap vs.toArray false s r false)
theorem TL.makeChan{t e:TypeId}{dir:ChanDir}{x:Operand}{k bytes:Nat}(hw:Want n D ops o L)(ho:o.op= .makeChan t x)(hd:o.dst=some d)(hn:Nat.blt d n=true)(ht:P.underlying t=some (.chan dir e))(hi:(P.info? e).map (·.bytes)=some bytes)
 (hx:cI L x=some (.int .i64 ((k:Nat):Int))) (hb:bytes*k≤281474976710544) (hk:k≤9223372036854775807)
 (h: ∀c,TL P w0 F n ops Q l D ((d, .chan (some c))::L) (ey c k [] 0 0::H)):TL P w0 F n ops Q (o::l) D L H:=
 kO hw λa w f s m=>by
  unfold Oper.wp;cases hi':P.info? e with
  |none=>rw[hi']at hi;cases hi
  |some i=>
   rw[hi']at hi;have hbb:i.bytes=bytes:=by simpa using hi
   have a1: ¬(((k:Nat):Int)<0):=by omega
   have a2: ¬(9223372036854775807< ((k:Nat):Int)):=by omega
   have a3: ¬(281474976710544< (i.bytes:Int)* ((k:Nat):Int)):=by
    have:(i.bytes:Int)* ((k:Nat):Int)≤281474976710544:=by rw[hbb,←Int.natCast_mul];exact Int.ofNat_le.2 hb
    omega
   have hc:(Instr.makeChan t (.int .i64 ((k:Nat):Int))).run P w= .ok (.chan (some w.heap.size)) (w.alloc (.chan k #[] false 0 0 false)):=by
    simp[Instr.makeChan,run_underlying ht,typeInfo,hi',asInt,asIntOf,IntKind.max,IntKind.signed,IntKind.bits,a1,a2,a3]
   have r:(execOp a.eval o).run P w= .ok (.value (.chan (some w.heap.size))) (w.alloc (.chan k #[] false 0 0 false)):=by
    simp[execOp,ho,f.eval hx,Sem.run_bind,hc]
   rw[r,Oper.upon_value,hd];exact h _ _ _ (f.put (lb hn) _) (s.trans ⟨rfl,rfl,rfl,by simp⟩) ((m.alloc _).mono λh s=>cE s (λ_ x=>x) λ_ x=>x)
end
def EF{α:Type}(f:α→List Int)(us:List Value)(x:α)(_:Hl):Prop:=us=ints (f x)
theorem EF.more{α:Type}{f:α→List Int}(us:List Value)(x:α)(F g:Hl)(h:EF f us x F)(_:Dj g F):EF f us x (jn g F):=h
section
variable {α:Type} {f:α→List Int} {m:Nat}
theorem C1(hf: ∀x,(f x).length=m)(l:List α):(ints (l.flatMap f)).length=l.length*m:=by
 rw[ints_length]
 induction l with
 |nil=>simp
 |cons x l ih=>rw[dh,aj,ih,hf,az,gd];omega
end
section
variable {P:Program} {w0:World} {F:Hl} {n:Nat} {ops:Array Oper} {Q:QQ} {D:List Deferred} {L:List (Nat×Value)} {H:List HP} {o:Oper} {l:List Oper} {S:World→Prop}
end
def Arnd{α:Type}(cs c:α→List Value)(off:Nat):Prop:=∃A B,A.length=off∧∀x,cs x=A++(c x++B)
section
variable {α:Type} {cs c:α→List Value} {off o j k:Nat} {x x':α}
theorem Arnd.le(h:Arnd cs c off)(x:α):off+(c x).length≤(cs x).length:=by
 obtain⟨A,B,h1,h2⟩:=h;rw[h2,aj,aj];omega
theorem Arnd.at(h:Arnd cs c off)(ho:o=off+j)(hj:j< (c x).length){r:Option Value}(hr:(c x)[j]?=r):(cs x)[o]?=r:=by
 obtain⟨A,B,h1,h2⟩:=h;subst ho;subst h1;rw[h2,List.getElem?_append_right (by omega),cv,List.getElem?_append_left hj,hr]
theorem Arnd.sub(h:Arnd cs c off)(ho:o=off+j)(hj:j+k≤(c x).length){r:List Value}(hr:((c x).drop j).take k=r):((cs x).drop o).take k=r:=by
 obtain⟨A,B,h1,h2⟩:=h;subst ho;subst h1;rw[h2,←jb,DM,ij (by omega),cf (by rw[ef];omega),hr]
abbrev OK:= @Arnd.sub
theorem Arnd.wr(h:Arnd cs c off){vs:List Value}(ho:o=off+j)(hj:j+vs.length≤(c x).length)(hw:Leg.wr (c x) j vs=c x'):Leg.wr (cs x) o vs=cs x':=by
 obtain⟨A,B,h1,h2⟩:=h;subst ho;subst h1;rw[h2,h2,eO (by omega),cv,iC hj,hw]
theorem Arnd.set(h:Arnd cs c off){v:Value}(ho:o=off+j)(hj:j< (c x).length)(hw:(c x).set j v=c x'):(cs x).set o v=cs x':=by
 obtain⟨A,B,h1,h2⟩:=h;subst ho;subst h1;rw[h2,h2,gV _ _ (by omega),cv,qG _ _ hj,hw]
end
end Leg
namespace Api
open Go Leg Codec
def oG(l:List Bool):List Value:=l.map .bool
theorem Lk{n:Nat}(v:Vector Bool n){i:Nat}(h:i<n):(oG v.toList)[i]?=some (.bool v[i]):=by simp[oG,h]
theorem M8{n:Nat}(v:Vector Bool n){i:Nat}(h:i<n)(x:Bool):(oG v.toList).set i (.bool x)=oG (v.set i x h).toList:=by rw[rm];simp[oG,JO]
theorem Aa(v:Vector RowT 5):(ints (v.toList.flatMap RowT.flat)).length=870:=by rw[C1 dD];simp
theorem Kb(v:Vector CellT 5):(ints (v.toList.flatMap CellT.flat)).length=35:=by rw[C1 bQ];simp
structure AccT where
 epoch:Int
 vow:BallotT
 had:BallotT
 change:ChangeT
def AccT.zero:AccT:=⟨0, .zero, .zero, .zero⟩
def AccT.flat(m:AccT):List Int:=([m.epoch])++(m.vow.flat)++(m.had.flat)++(m.change.flat)
structure SaidT where
 to':Int
 msg:MsgT
structure BookT where
 rows:Vector RowT 5
def BookT.zero:BookT:=⟨#v[RowT.zero,RowT.zero,RowT.zero,RowT.zero,RowT.zero]⟩
def BookT.flat(m:BookT):List Int:=(m.rows.toList.flatMap RowT.flat)
structure MirT where
 rows:Vector RowT 5
 sealed:Vector Bool 5
def MirT.zero:MirT:=⟨#v[RowT.zero,RowT.zero,RowT.zero,RowT.zero,RowT.zero], #v[false,false,false,false,false]⟩
def MirT.cells(m:MirT):List Value:=[ints (m.rows.toList.flatMap RowT.flat),oG m.sealed.toList].flatten
structure VoteT where
 view:ViewT
 ballot:BallotT
 change:ChangeT
 best:BallotT
 vowed:Int
 took:Int
 putting:Bool
def VoteT.zero:VoteT:=⟨.zero, .zero, .zero, .zero,0,0,false⟩
def VoteT.cells(m:VoteT):List Value:=[ints m.view.flat,ints m.ballot.flat,ints m.change.flat,ints m.best.flat,[Value.int .i64 m.vowed],[Value.int .i64 m.took],[Value.bool m.putting]].flatten
structure RepT where
 id:Int
 log:Value
 view:ViewT
 own:RowT
 mirror:MirT
 acc:AccT
 round:Int
 vote:Value
 book:BookT
 busy:Bool
 kept:Int
 waits:Int
 ops:Int
 replies:Value
 told:Vector Int 5
 last:Vector RowT 5
def RepT.cells(m:RepT):List Value:=[[Value.int .i64 m.id],[m.log],ints m.view.flat,ints m.own.flat,MirT.cells m.mirror,ints m.acc.flat,[Value.int .i64 m.round],[m.vote],ints m.book.flat,[Value.bool m.busy],[Value.int .i64 m.kept],[Value.int .i64 m.waits],[Value.int .i64 m.ops],[m.replies],ints m.told.toList,ints (m.last.toList.flatMap RowT.flat)].flatten
theorem AccT.sl(m:AccT):SL [[Value.int .i64 m.epoch],ints m.vow.flat,ints m.had.flat,ints m.change.flat] [1,2,2,3]:=(.cons rfl (.cons (ap _) (.cons (ap _) (.cons (aK _) .nil))))
abbrev DY:= @AccT.sl
abbrev AccT.sg(m:AccT):List (List Value):=[[Value.int .i64 m.epoch],ints m.vow.flat,ints m.had.flat,ints m.change.flat]
theorem AccT.eq(m:AccT):ints m.flat=[[Value.int .i64 m.epoch],ints m.vow.flat,ints m.had.flat,ints m.change.flat].flatten:=by simp[AccT.flat,ints]
abbrev oL:= @AccT.eq
theorem AccT.len(m:AccT):(ints m.flat).length=8:=by rw[oL,(DY m).len];rfl
abbrev bd:= @AccT.len
theorem AccT.at_epoch(m:AccT){o:Nat}(ho:o=0):(ints m.flat)[o]?=some (Value.int .i64 m.epoch):=by subst ho;rw[oL];exact(DY m).at (off:=0) 0 0 rfl rfl (by simp) (by decide)
theorem AccT.sub_vow(m:AccT){o k:Nat}(j:Nat)(ho:o=1+j)(h:j+k≤2){r:List Value}(hr:((ints m.vow.flat).drop j).take k=r):((ints m.flat).drop o).take k=r:=by subst ho;rw[←hr,oL];exact(DY m).sub (off:=1) 1 j k rfl rfl (by simp) h
abbrev QC:= @AccT.sub_vow
theorem AccT.wr_vow_(m:AccT){o:Nat}(j:Nat){vs:List Value}{u':BallotT}(ho:o=1+j)(h:j+vs.length≤2)(hw:wr (ints m.vow.flat) j vs=ints u'.flat):wr (ints m.flat) o vs=ints ({m with vow:=u'}:AccT).flat:=by subst ho;rw[oL,oL];exact(DY m).putIn (off:=1) 1 j vs rfl rfl (by simp) h hw
abbrev QB:= @AccT.wr_vow_
theorem AccT.sp_vow(m:AccT):((ints m.flat).drop 1).take 2=ints m.vow.flat:=QC m 0 rfl (by decide) (bn ((ap _):(ints m.vow.flat).length=2))
theorem AccT.wp_vow(m:AccT)(u:BallotT):wr (ints m.flat) 1 (ints u.flat)=ints ({m with vow:=u}:AccT).flat:=QB m 0 rfl (by rw[bm];exact dv ((ap _):(ints u.flat).length=2)) (cr (Eq.trans ((ap _):(ints m.vow.flat).length=2) (Eq.symm ((ap _):(ints u.flat).length=2))))
theorem AccT.sub_had(m:AccT){o k:Nat}(j:Nat)(ho:o=3+j)(h:j+k≤2){r:List Value}(hr:((ints m.had.flat).drop j).take k=r):((ints m.flat).drop o).take k=r:=by subst ho;rw[←hr,oL];exact(DY m).sub (off:=3) 2 j k rfl rfl (by simp) h
theorem AccT.wr_had_(m:AccT){o:Nat}(j:Nat){vs:List Value}{u':BallotT}(ho:o=3+j)(h:j+vs.length≤2)(hw:wr (ints m.had.flat) j vs=ints u'.flat):wr (ints m.flat) o vs=ints ({m with had:=u'}:AccT).flat:=by subst ho;rw[oL,oL];exact(DY m).putIn (off:=3) 2 j vs rfl rfl (by simp) h hw
theorem AccT.sp_had(m:AccT):((ints m.flat).drop 3).take 2=ints m.had.flat:=AccT.sub_had m 0 rfl (by decide) (bn ((ap _):(ints m.had.flat).length=2))
theorem AccT.wp_had(m:AccT)(u:BallotT):wr (ints m.flat) 3 (ints u.flat)=ints ({m with had:=u}:AccT).flat:=AccT.wr_had_ m 0 rfl (by rw[bm];exact dv ((ap _):(ints u.flat).length=2)) (cr (Eq.trans ((ap _):(ints m.had.flat).length=2) (Eq.symm ((ap _):(ints u.flat).length=2))))
theorem AccT.sub_change(m:AccT){o k:Nat}(j:Nat)(ho:o=5+j)(h:j+k≤3){r:List Value}(hr:((ints m.change.flat).drop j).take k=r):((ints m.flat).drop o).take k=r:=by subst ho;rw[←hr,oL];exact(DY m).sub (off:=5) 3 j k rfl rfl (by simp) h
theorem AccT.wr_change_(m:AccT){o:Nat}(j:Nat){vs:List Value}{u':ChangeT}(ho:o=5+j)(h:j+vs.length≤3)(hw:wr (ints m.change.flat) j vs=ints u'.flat):wr (ints m.flat) o vs=ints ({m with change:=u'}:AccT).flat:=by subst ho;rw[oL,oL];exact(DY m).putIn (off:=5) 3 j vs rfl rfl (by simp) h hw
theorem AccT.sp_change(m:AccT):((ints m.flat).drop 5).take 3=ints m.change.flat:=AccT.sub_change m 0 rfl (by decide) (bn ((aK _):(ints m.change.flat).length=3))
theorem AccT.wp_change(m:AccT)(u:ChangeT):wr (ints m.flat) 5 (ints u.flat)=ints ({m with change:=u}:AccT).flat:=AccT.wr_change_ m 0 rfl (by rw[bm];exact dv ((aK _):(ints u.flat).length=3)) (cr (Eq.trans ((aK _):(ints m.change.flat).length=3) (Eq.symm ((aK _):(ints u.flat).length=3))))
abbrev SaidT.sg(m:SaidT):List (List Value):=[[Value.int .i64 m.to'],ints m.msg.flat]
theorem BookT.sl(m:BookT):SL [ints (m.rows.toList.flatMap RowT.flat)] [870]:=(.cons (Aa _) .nil)
abbrev BookT.sg(m:BookT):List (List Value):=[ints (m.rows.toList.flatMap RowT.flat)]
theorem BookT.eq(m:BookT):ints m.flat=[ints (m.rows.toList.flatMap RowT.flat)].flatten:=by simp[BookT.flat,ints]
abbrev OI:= @BookT.eq
theorem BookT.len(m:BookT):(ints m.flat).length=870:=by rw[OI,(BookT.sl m).len];rfl
abbrev xR:= @BookT.len
theorem BookT.pt_rows(m:BookT){o:Nat}(j:Nat)(ho:o=0+j)(h:j<870){r:Option Value}(hr:(ints (m.rows.toList.flatMap RowT.flat))[j]?=r):(ints m.flat)[o]?=r:=by subst ho;rw[←hr,OI];exact(BookT.sl m).at (off:=0) 0 j rfl rfl (by simp) h
theorem BookT.sub_rows(m:BookT){o k:Nat}(j:Nat)(ho:o=0+j)(h:j+k≤870){r:List Value}(hr:((ints (m.rows.toList.flatMap RowT.flat)).drop j).take k=r):((ints m.flat).drop o).take k=r:=by subst ho;rw[←hr,OI];exact(BookT.sl m).sub (off:=0) 0 j k rfl rfl (by simp) h
abbrev OH:= @BookT.sub_rows
theorem BookT.wr_rows_(m:BookT){o:Nat}(j:Nat){vs:List Value}{u':Vector RowT 5}(ho:o=0+j)(h:j+vs.length≤870)(hw:wr (ints (m.rows.toList.flatMap RowT.flat)) j vs=ints (u'.toList.flatMap RowT.flat)):wr (ints m.flat) o vs=ints ({m with rows:=u'}:BookT).flat:=by subst ho;rw[OI,OI];exact(BookT.sl m).putIn (off:=0) 0 j vs rfl rfl (by simp) h hw
theorem MirT.sl(m:MirT):SL [ints (m.rows.toList.flatMap RowT.flat),oG m.sealed.toList] [870,5]:=(.cons (Aa _) (.cons (by simp[oG]) .nil))
abbrev M3:= @MirT.sl
abbrev MirT.sg(m:MirT):List (List Value):=[ints (m.rows.toList.flatMap RowT.flat),oG m.sealed.toList]
theorem MirT.eq(m:MirT):MirT.cells m=[ints (m.rows.toList.flatMap RowT.flat),oG m.sealed.toList].flatten:=rfl
abbrev DW:= @MirT.eq
theorem MirT.len(m:MirT):(MirT.cells m).length=875:=by rw[DW,(M3 m).len];rfl
abbrev qF:= @MirT.len
theorem MirT.pt_rows(m:MirT){o:Nat}(j:Nat)(ho:o=0+j)(h:j<870){r:Option Value}(hr:(ints (m.rows.toList.flatMap RowT.flat))[j]?=r):(MirT.cells m)[o]?=r:=by subst ho;rw[←hr,DW];exact(M3 m).at (off:=0) 0 j rfl rfl (by simp) h
theorem MirT.sub_rows(m:MirT){o k:Nat}(j:Nat)(ho:o=0+j)(h:j+k≤870){r:List Value}(hr:((ints (m.rows.toList.flatMap RowT.flat)).drop j).take k=r):((MirT.cells m).drop o).take k=r:=by subst ho;rw[←hr,DW];exact(M3 m).sub (off:=0) 0 j k rfl rfl (by simp) h
theorem MirT.wr_rows_(m:MirT){o:Nat}(j:Nat){vs:List Value}{u':Vector RowT 5}(ho:o=0+j)(h:j+vs.length≤870)(hw:wr (ints (m.rows.toList.flatMap RowT.flat)) j vs=ints (u'.toList.flatMap RowT.flat)):wr (MirT.cells m) o vs=MirT.cells ({m with rows:=u'}:MirT):=by subst ho;rw[DW,DW];exact(M3 m).putIn (off:=0) 0 j vs rfl rfl (by simp) h hw
theorem MirT.pt_sealed(m:MirT){o:Nat}(j:Nat)(ho:o=870+j)(h:j<5){r:Option Value}(hr:(oG m.sealed.toList)[j]?=r):(MirT.cells m)[o]?=r:=by subst ho;rw[←hr,DW];exact(M3 m).at (off:=870) 1 j rfl rfl (by simp) h
theorem MirT.st_sealed(m:MirT){o:Nat}(j:Nat){v:Value}{u':Vector Bool 5}(ho:o=870+j)(h:j<5)(hw:(oG m.sealed.toList).set j v=oG u'.toList):(MirT.cells m).set o v=MirT.cells ({m with sealed:=u'}:MirT):=by subst ho;rw[DW,DW];exact((M3 m).set (off:=870) 1 j v rfl rfl (by simp) h).trans (by rw[hw];rfl)
theorem VoteT.sl(m:VoteT):SL [ints m.view.flat,ints m.ballot.flat,ints m.change.flat,ints m.best.flat,[Value.int .i64 m.vowed],[Value.int .i64 m.took],[Value.bool m.putting]] [7,2,3,2,1,1,1]:=(.cons (ai _) (.cons (ap _) (.cons (aK _) (.cons (ap _) (.cons rfl (.cons rfl (.cons rfl .nil)))))))
abbrev ki:= @VoteT.sl
abbrev VoteT.sg(m:VoteT):List (List Value):=[ints m.view.flat,ints m.ballot.flat,ints m.change.flat,ints m.best.flat,[Value.int .i64 m.vowed],[Value.int .i64 m.took],[Value.bool m.putting]]
theorem VoteT.eq(m:VoteT):VoteT.cells m=[ints m.view.flat,ints m.ballot.flat,ints m.change.flat,ints m.best.flat,[Value.int .i64 m.vowed],[Value.int .i64 m.took],[Value.bool m.putting]].flatten:=rfl
abbrev fN:= @VoteT.eq
theorem VoteT.len(m:VoteT):(VoteT.cells m).length=17:=by rw[fN,(ki m).len];rfl
abbrev nW:= @VoteT.len
theorem VoteT.sub_view(m:VoteT){o k:Nat}(j:Nat)(ho:o=0+j)(h:j+k≤7){r:List Value}(hr:((ints m.view.flat).drop j).take k=r):((VoteT.cells m).drop o).take k=r:=by subst ho;rw[←hr,fN];exact(ki m).sub (off:=0) 0 j k rfl rfl (by simp) h
abbrev DI:= @VoteT.sub_view
theorem VoteT.wr_view_(m:VoteT){o:Nat}(j:Nat){vs:List Value}{u':ViewT}(ho:o=0+j)(h:j+vs.length≤7)(hw:wr (ints m.view.flat) j vs=ints u'.flat):wr (VoteT.cells m) o vs=VoteT.cells ({m with view:=u'}:VoteT):=by subst ho;rw[fN,fN];exact(ki m).putIn (off:=0) 0 j vs rfl rfl (by simp) h hw
theorem VoteT.sp_view(m:VoteT):((VoteT.cells m).drop 0).take 7=ints m.view.flat:=DI m 0 rfl (by decide) (bn ((ai _):(ints m.view.flat).length=7))
abbrev pQ:= @VoteT.sp_view
theorem VoteT.wp_view(m:VoteT)(u:ViewT):wr (VoteT.cells m) 0 (ints u.flat)=VoteT.cells ({m with view:=u}:VoteT):=VoteT.wr_view_ m 0 rfl (by rw[bm];exact dv ((ai _):(ints u.flat).length=7)) (cr (Eq.trans ((ai _):(ints m.view.flat).length=7) (Eq.symm ((ai _):(ints u.flat).length=7))))
theorem VoteT.sub_ballot(m:VoteT){o k:Nat}(j:Nat)(ho:o=7+j)(h:j+k≤2){r:List Value}(hr:((ints m.ballot.flat).drop j).take k=r):((VoteT.cells m).drop o).take k=r:=by subst ho;rw[←hr,fN];exact(ki m).sub (off:=7) 1 j k rfl rfl (by simp) h
abbrev Ld:= @VoteT.sub_ballot
theorem VoteT.wr_ballot_(m:VoteT){o:Nat}(j:Nat){vs:List Value}{u':BallotT}(ho:o=7+j)(h:j+vs.length≤2)(hw:wr (ints m.ballot.flat) j vs=ints u'.flat):wr (VoteT.cells m) o vs=VoteT.cells ({m with ballot:=u'}:VoteT):=by subst ho;rw[fN,fN];exact(ki m).putIn (off:=7) 1 j vs rfl rfl (by simp) h hw
theorem VoteT.sp_ballot(m:VoteT):((VoteT.cells m).drop 7).take 2=ints m.ballot.flat:=Ld m 0 rfl (by decide) (bn ((ap _):(ints m.ballot.flat).length=2))
theorem VoteT.wp_ballot(m:VoteT)(u:BallotT):wr (VoteT.cells m) 7 (ints u.flat)=VoteT.cells ({m with ballot:=u}:VoteT):=VoteT.wr_ballot_ m 0 rfl (by rw[bm];exact dv ((ap _):(ints u.flat).length=2)) (cr (Eq.trans ((ap _):(ints m.ballot.flat).length=2) (Eq.symm ((ap _):(ints u.flat).length=2))))
theorem VoteT.sub_change(m:VoteT){o k:Nat}(j:Nat)(ho:o=9+j)(h:j+k≤3){r:List Value}(hr:((ints m.change.flat).drop j).take k=r):((VoteT.cells m).drop o).take k=r:=by subst ho;rw[←hr,fN];exact(ki m).sub (off:=9) 2 j k rfl rfl (by simp) h
theorem VoteT.wr_change_(m:VoteT){o:Nat}(j:Nat){vs:List Value}{u':ChangeT}(ho:o=9+j)(h:j+vs.length≤3)(hw:wr (ints m.change.flat) j vs=ints u'.flat):wr (VoteT.cells m) o vs=VoteT.cells ({m with change:=u'}:VoteT):=by subst ho;rw[fN,fN];exact(ki m).putIn (off:=9) 2 j vs rfl rfl (by simp) h hw
theorem VoteT.sp_change(m:VoteT):((VoteT.cells m).drop 9).take 3=ints m.change.flat:=VoteT.sub_change m 0 rfl (by decide) (bn ((aK _):(ints m.change.flat).length=3))
theorem VoteT.wp_change(m:VoteT)(u:ChangeT):wr (VoteT.cells m) 9 (ints u.flat)=VoteT.cells ({m with change:=u}:VoteT):=VoteT.wr_change_ m 0 rfl (by rw[bm];exact dv ((aK _):(ints u.flat).length=3)) (cr (Eq.trans ((aK _):(ints m.change.flat).length=3) (Eq.symm ((aK _):(ints u.flat).length=3))))
theorem VoteT.sub_best(m:VoteT){o k:Nat}(j:Nat)(ho:o=12+j)(h:j+k≤2){r:List Value}(hr:((ints m.best.flat).drop j).take k=r):((VoteT.cells m).drop o).take k=r:=by subst ho;rw[←hr,fN];exact(ki m).sub (off:=12) 3 j k rfl rfl (by simp) h
theorem VoteT.wr_best_(m:VoteT){o:Nat}(j:Nat){vs:List Value}{u':BallotT}(ho:o=12+j)(h:j+vs.length≤2)(hw:wr (ints m.best.flat) j vs=ints u'.flat):wr (VoteT.cells m) o vs=VoteT.cells ({m with best:=u'}:VoteT):=by subst ho;rw[fN,fN];exact(ki m).putIn (off:=12) 3 j vs rfl rfl (by simp) h hw
theorem VoteT.sp_best(m:VoteT):((VoteT.cells m).drop 12).take 2=ints m.best.flat:=VoteT.sub_best m 0 rfl (by decide) (bn ((ap _):(ints m.best.flat).length=2))
theorem VoteT.wp_best(m:VoteT)(u:BallotT):wr (VoteT.cells m) 12 (ints u.flat)=VoteT.cells ({m with best:=u}:VoteT):=VoteT.wr_best_ m 0 rfl (by rw[bm];exact dv ((ap _):(ints u.flat).length=2)) (cr (Eq.trans ((ap _):(ints m.best.flat).length=2) (Eq.symm ((ap _):(ints u.flat).length=2))))
theorem VoteT.at_vowed(m:VoteT){o:Nat}(ho:o=14):(VoteT.cells m)[o]?=some (Value.int .i64 m.vowed):=by subst ho;rw[fN];exact(ki m).at (off:=14) 4 0 rfl rfl (by simp) (by decide)
abbrev l4:= @VoteT.at_vowed
theorem VoteT.set_vowed(m:VoteT){o:Nat}(ho:o=14)(x:Int):(VoteT.cells m).set o (Value.int .i64 x)=VoteT.cells ({m with vowed:=x}:VoteT):=by subst ho;rw[fN,fN];exact(ki m).set (off:=14) 4 0 _ rfl rfl (by simp) (by decide)
theorem VoteT.at_took(m:VoteT){o:Nat}(ho:o=15):(VoteT.cells m)[o]?=some (Value.int .i64 m.took):=by subst ho;rw[fN];exact(ki m).at (off:=15) 5 0 rfl rfl (by simp) (by decide)
theorem VoteT.set_took(m:VoteT){o:Nat}(ho:o=15)(x:Int):(VoteT.cells m).set o (Value.int .i64 x)=VoteT.cells ({m with took:=x}:VoteT):=by subst ho;rw[fN,fN];exact(ki m).set (off:=15) 5 0 _ rfl rfl (by simp) (by decide)
theorem VoteT.at_putting(m:VoteT){o:Nat}(ho:o=16):(VoteT.cells m)[o]?=some (Value.bool m.putting):=by subst ho;rw[fN];exact(ki m).at (off:=16) 6 0 rfl rfl (by simp) (by decide)
abbrev mj:= @VoteT.at_putting
theorem VoteT.set_putting(m:VoteT){o:Nat}(ho:o=16)(x:Bool):(VoteT.cells m).set o (Value.bool x)=VoteT.cells ({m with putting:=x}:VoteT):=by subst ho;rw[fN,fN];exact(ki m).set (off:=16) 6 0 _ rfl rfl (by simp) (by decide)
abbrev ly:= @VoteT.set_putting
theorem RepT.sl(m:RepT):SL [[Value.int .i64 m.id],[m.log],ints m.view.flat,ints m.own.flat,MirT.cells m.mirror,ints m.acc.flat,[Value.int .i64 m.round],[m.vote],ints m.book.flat,[Value.bool m.busy],[Value.int .i64 m.kept],[Value.int .i64 m.waits],[Value.int .i64 m.ops],[m.replies],ints m.told.toList,ints (m.last.toList.flatMap RowT.flat)] [1,1,7,174,875,8,1,1,870,1,1,1,1,1,5,870]:=(.cons rfl (.cons rfl (.cons (ai _) (.cons (am _) (.cons (qF _) (.cons (bd _) (.cons rfl (.cons rfl (.cons (xR _) (.cons rfl (.cons rfl (.cons rfl (.cons rfl (.cons rfl (.cons (by simp[ints]) (.cons (Aa _) .nil))))))))))))))))
abbrev eW:= @RepT.sl
abbrev RepT.sg(m:RepT):List (List Value):=[[Value.int .i64 m.id],[m.log],ints m.view.flat,ints m.own.flat,MirT.cells m.mirror,ints m.acc.flat,[Value.int .i64 m.round],[m.vote],ints m.book.flat,[Value.bool m.busy],[Value.int .i64 m.kept],[Value.int .i64 m.waits],[Value.int .i64 m.ops],[m.replies],ints m.told.toList,ints (m.last.toList.flatMap RowT.flat)]
theorem RepT.eq(m:RepT):RepT.cells m=[[Value.int .i64 m.id],[m.log],ints m.view.flat,ints m.own.flat,MirT.cells m.mirror,ints m.acc.flat,[Value.int .i64 m.round],[m.vote],ints m.book.flat,[Value.bool m.busy],[Value.int .i64 m.kept],[Value.int .i64 m.waits],[Value.int .i64 m.ops],[m.replies],ints m.told.toList,ints (m.last.toList.flatMap RowT.flat)].flatten:=rfl
abbrev eQ:= @RepT.eq
theorem RepT.len(m:RepT):(RepT.cells m).length=2818:=by rw[eQ,(eW m).len];rfl
abbrev cU:= @RepT.len
theorem RepT.at_id(m:RepT){o:Nat}(ho:o=0):(RepT.cells m)[o]?=some (Value.int .i64 m.id):=by subst ho;rw[eQ];exact(eW m).at (off:=0) 0 0 rfl rfl (by simp) (by decide)
abbrev cF:= @RepT.at_id
theorem RepT.at_log(m:RepT){o:Nat}(ho:o=1):(RepT.cells m)[o]?=some (m.log):=by subst ho;rw[eQ];exact(eW m).at (off:=1) 1 0 rfl rfl (by simp) (by decide)
theorem RepT.pt_view(m:RepT){o:Nat}(j:Nat)(ho:o=2+j)(h:j<7){r:Option Value}(hr:(ints m.view.flat)[j]?=r):(RepT.cells m)[o]?=r:=by subst ho;rw[←hr,eQ];exact(eW m).at (off:=2) 2 j rfl rfl (by simp) h
abbrev cp:= @RepT.pt_view
theorem RepT.sub_view(m:RepT){o k:Nat}(j:Nat)(ho:o=2+j)(h:j+k≤7){r:List Value}(hr:((ints m.view.flat).drop j).take k=r):((RepT.cells m).drop o).take k=r:=by subst ho;rw[←hr,eQ];exact(eW m).sub (off:=2) 2 j k rfl rfl (by simp) h
abbrev gy:= @RepT.sub_view
theorem RepT.wr_view_(m:RepT){o:Nat}(j:Nat){vs:List Value}{u':ViewT}(ho:o=2+j)(h:j+vs.length≤7)(hw:wr (ints m.view.flat) j vs=ints u'.flat):wr (RepT.cells m) o vs=RepT.cells ({m with view:=u'}:RepT):=by subst ho;rw[eQ];refine((eW m).putIn (off:=2) 2 j vs rfl rfl (by simp) h hw).trans ?_;simp only[RepT.cells,bU,ce]
abbrev PY:= @RepT.wr_view_
theorem RepT.sp_view(m:RepT):((RepT.cells m).drop 2).take 7=ints m.view.flat:=gy m 0 rfl (by decide) (bn ((ai _):(ints m.view.flat).length=7))
abbrev cT:= @RepT.sp_view
theorem RepT.wp_view(m:RepT)(u:ViewT):wr (RepT.cells m) 2 (ints u.flat)=RepT.cells ({m with view:=u}:RepT):=PY m 0 rfl (by rw[bm];exact dv ((ai _):(ints u.flat).length=7)) (cr (Eq.trans ((ai _):(ints m.view.flat).length=7) (Eq.symm ((ai _):(ints u.flat).length=7))))
theorem RepT.pt_own(m:RepT){o:Nat}(j:Nat)(ho:o=9+j)(h:j<174){r:Option Value}(hr:(ints m.own.flat)[j]?=r):(RepT.cells m)[o]?=r:=by subst ho;rw[←hr,eQ];exact(eW m).at (off:=9) 3 j rfl rfl (by simp) h
theorem RepT.sub_own(m:RepT){o k:Nat}(j:Nat)(ho:o=9+j)(h:j+k≤174){r:List Value}(hr:((ints m.own.flat).drop j).take k=r):((RepT.cells m).drop o).take k=r:=by subst ho;rw[←hr,eQ];exact(eW m).sub (off:=9) 3 j k rfl rfl (by simp) h
abbrev yw:= @RepT.sub_own
theorem RepT.wr_own_(m:RepT){o:Nat}(j:Nat){vs:List Value}{u':RowT}(ho:o=9+j)(h:j+vs.length≤174)(hw:wr (ints m.own.flat) j vs=ints u'.flat):wr (RepT.cells m) o vs=RepT.cells ({m with own:=u'}:RepT):=by subst ho;rw[eQ];refine((eW m).putIn (off:=9) 3 j vs rfl rfl (by simp) h hw).trans ?_;simp only[RepT.cells,bU,ce]
abbrev Qq:= @RepT.wr_own_
theorem RepT.sp_own(m:RepT):((RepT.cells m).drop 9).take 174=ints m.own.flat:=yw m 0 rfl (by decide) (bn ((am _):(ints m.own.flat).length=174))
abbrev L5:= @RepT.sp_own
theorem RepT.wp_own(m:RepT)(u:RowT):wr (RepT.cells m) 9 (ints u.flat)=RepT.cells ({m with own:=u}:RepT):=Qq m 0 rfl (by rw[bm];exact dv ((am _):(ints u.flat).length=174)) (cr (Eq.trans ((am _):(ints m.own.flat).length=174) (Eq.symm ((am _):(ints u.flat).length=174))))
theorem RepT.around_mirror(m:RepT): ∃A B,RepT.cells m=A++(MirT.cells m.mirror++B)∧A.length=183∧∀u':MirT,RepT.cells ({m with mirror:=u'}:RepT)=A++(MirT.cells u'++B):=by
 obtain⟨A,B,h1,h2,h3⟩:=(eW m).around (off:=183) 4 rfl rfl (by simp);exact⟨A,B,by rw[eQ];exact h1,h2,λu'=>by rw[←h3];simp only[RepT.cells,bU,ce]⟩
theorem RepT.arnd_mirror(m:RepT):Arnd (λu:MirT=>RepT.cells ({m with mirror:=u}:RepT)) (λu=>MirT.cells u) 183:=by
 obtain⟨A,B,_,h2,h3⟩:=RepT.around_mirror m;exact⟨A,B,h2,h3⟩
abbrev fp:= @RepT.arnd_mirror
theorem RepT.sub_acc(m:RepT){o k:Nat}(j:Nat)(ho:o=1058+j)(h:j+k≤8){r:List Value}(hr:((ints m.acc.flat).drop j).take k=r):((RepT.cells m).drop o).take k=r:=by subst ho;rw[←hr,eQ];exact(eW m).sub (off:=1058) 5 j k rfl rfl (by simp) h
abbrev yx:= @RepT.sub_acc
theorem RepT.wr_acc_(m:RepT){o:Nat}(j:Nat){vs:List Value}{u':AccT}(ho:o=1058+j)(h:j+vs.length≤8)(hw:wr (ints m.acc.flat) j vs=ints u'.flat):wr (RepT.cells m) o vs=RepT.cells ({m with acc:=u'}:RepT):=by subst ho;rw[eQ];refine((eW m).putIn (off:=1058) 5 j vs rfl rfl (by simp) h hw).trans ?_;simp only[RepT.cells,bU,ce]
abbrev kP:= @RepT.wr_acc_
theorem RepT.at_round(m:RepT){o:Nat}(ho:o=1066):(RepT.cells m)[o]?=some (Value.int .i64 m.round):=by subst ho;rw[eQ];exact(eW m).at (off:=1066) 6 0 rfl rfl (by simp) (by decide)
abbrev vz:= @RepT.at_round
theorem RepT.set_round(m:RepT){o:Nat}(ho:o=1066)(x:Int):(RepT.cells m).set o (Value.int .i64 x)=RepT.cells ({m with round:=x}:RepT):=by subst ho;rw[eQ];refine((eW m).set (off:=1066) 6 0 _ rfl rfl (by simp) (by decide)).trans ?_;simp only[RepT.cells,bU,ce]
abbrev l6:= @RepT.set_round
theorem RepT.at_vote(m:RepT){o:Nat}(ho:o=1067):(RepT.cells m)[o]?=some (m.vote):=by subst ho;rw[eQ];exact(eW m).at (off:=1067) 7 0 rfl rfl (by simp) (by decide)
abbrev bZ:= @RepT.at_vote
theorem RepT.set_vote(m:RepT){o:Nat}(ho:o=1067)(x:Value):(RepT.cells m).set o (x)=RepT.cells ({m with vote:=x}:RepT):=by subst ho;rw[eQ];refine((eW m).set (off:=1067) 7 0 _ rfl rfl (by simp) (by decide)).trans ?_;simp only[RepT.cells,bU,ce]
abbrev PZ:= @RepT.set_vote
theorem RepT.around_book(m:RepT): ∃A B,RepT.cells m=A++(ints m.book.flat++B)∧A.length=1068∧∀u':BookT,RepT.cells ({m with book:=u'}:RepT)=A++(ints u'.flat++B):=by
 obtain⟨A,B,h1,h2,h3⟩:=(eW m).around (off:=1068) 8 rfl rfl (by simp);exact⟨A,B,by rw[eQ];exact h1,h2,λu'=>by rw[←h3];simp only[RepT.cells,bU,ce]⟩
theorem RepT.arnd_book(m:RepT):Arnd (λu:BookT=>RepT.cells ({m with book:=u}:RepT)) (λu=>ints u.flat) 1068:=by
 obtain⟨A,B,_,h2,h3⟩:=RepT.around_book m;exact⟨A,B,h2,h3⟩
abbrev gC:= @RepT.arnd_book
theorem RepT.at_busy(m:RepT){o:Nat}(ho:o=1938):(RepT.cells m)[o]?=some (Value.bool m.busy):=by subst ho;rw[eQ];exact(eW m).at (off:=1938) 9 0 rfl rfl (by simp) (by decide)
abbrev yy:= @RepT.at_busy
theorem RepT.set_busy(m:RepT){o:Nat}(ho:o=1938)(x:Bool):(RepT.cells m).set o (Value.bool x)=RepT.cells ({m with busy:=x}:RepT):=by subst ho;rw[eQ];refine((eW m).set (off:=1938) 9 0 _ rfl rfl (by simp) (by decide)).trans ?_;simp only[RepT.cells,bU,ce]
abbrev P5:= @RepT.set_busy
theorem RepT.at_kept(m:RepT){o:Nat}(ho:o=1939):(RepT.cells m)[o]?=some (Value.int .i64 m.kept):=by subst ho;rw[eQ];exact(eW m).at (off:=1939) 10 0 rfl rfl (by simp) (by decide)
abbrev sd:= @RepT.at_kept
theorem RepT.set_kept(m:RepT){o:Nat}(ho:o=1939)(x:Int):(RepT.cells m).set o (Value.int .i64 x)=RepT.cells ({m with kept:=x}:RepT):=by subst ho;rw[eQ];refine((eW m).set (off:=1939) 10 0 _ rfl rfl (by simp) (by decide)).trans ?_;simp only[RepT.cells,bU,ce]
abbrev P0:= @RepT.set_kept
theorem RepT.at_waits(m:RepT){o:Nat}(ho:o=1940):(RepT.cells m)[o]?=some (Value.int .i64 m.waits):=by subst ho;rw[eQ];exact(eW m).at (off:=1940) 11 0 rfl rfl (by simp) (by decide)
theorem RepT.set_waits(m:RepT){o:Nat}(ho:o=1940)(x:Int):(RepT.cells m).set o (Value.int .i64 x)=RepT.cells ({m with waits:=x}:RepT):=by subst ho;rw[eQ];refine((eW m).set (off:=1940) 11 0 _ rfl rfl (by simp) (by decide)).trans ?_;simp only[RepT.cells,bU,ce]
theorem RepT.at_ops(m:RepT){o:Nat}(ho:o=1941):(RepT.cells m)[o]?=some (Value.int .i64 m.ops):=by subst ho;rw[eQ];exact(eW m).at (off:=1941) 12 0 rfl rfl (by simp) (by decide)
theorem RepT.set_ops(m:RepT){o:Nat}(ho:o=1941)(x:Int):(RepT.cells m).set o (Value.int .i64 x)=RepT.cells ({m with ops:=x}:RepT):=by subst ho;rw[eQ];refine((eW m).set (off:=1941) 12 0 _ rfl rfl (by simp) (by decide)).trans ?_;simp only[RepT.cells,bU,ce]
theorem RepT.at_replies(m:RepT){o:Nat}(ho:o=1942):(RepT.cells m)[o]?=some (m.replies):=by subst ho;rw[eQ];exact(eW m).at (off:=1942) 13 0 rfl rfl (by simp) (by decide)
theorem RepT.set_replies(m:RepT){o:Nat}(ho:o=1942)(x:Value):(RepT.cells m).set o (x)=RepT.cells ({m with replies:=x}:RepT):=by subst ho;rw[eQ];refine((eW m).set (off:=1942) 13 0 _ rfl rfl (by simp) (by decide)).trans ?_;simp only[RepT.cells,bU,ce]
theorem RepT.pt_told(m:RepT){o:Nat}(j:Nat)(ho:o=1943+j)(h:j<5){r:Option Value}(hr:(ints m.told.toList)[j]?=r):(RepT.cells m)[o]?=r:=by subst ho;rw[←hr,eQ];exact(eW m).at (off:=1943) 14 j rfl rfl (by simp) h
abbrev Qr:= @RepT.pt_told
theorem RepT.st_told(m:RepT){o:Nat}(j:Nat){v:Value}{u':Vector Int 5}(ho:o=1943+j)(h:j<5)(hw:(ints m.told.toList).set j v=ints u'.toList):(RepT.cells m).set o v=RepT.cells ({m with told:=u'}:RepT):=by subst ho;rw[eQ];refine((eW m).set (off:=1943) 14 j v rfl rfl (by simp) h).trans ?_;rw[hw];simp only[RepT.cells,bU,ce]
theorem RepT.pt_last(m:RepT){o:Nat}(j:Nat)(ho:o=1948+j)(h:j<870){r:Option Value}(hr:(ints (m.last.toList.flatMap RowT.flat))[j]?=r):(RepT.cells m)[o]?=r:=by subst ho;rw[←hr,eQ];exact(eW m).at (off:=1948) 15 j rfl rfl (by simp) h
theorem RepT.sub_last(m:RepT){o k:Nat}(j:Nat)(ho:o=1948+j)(h:j+k≤870){r:List Value}(hr:((ints (m.last.toList.flatMap RowT.flat)).drop j).take k=r):((RepT.cells m).drop o).take k=r:=by subst ho;rw[←hr,eQ];exact(eW m).sub (off:=1948) 15 j k rfl rfl (by simp) h
theorem RepT.wr_last_(m:RepT){o:Nat}(j:Nat){vs:List Value}{u':Vector RowT 5}(ho:o=1948+j)(h:j+vs.length≤870)(hw:wr (ints (m.last.toList.flatMap RowT.flat)) j vs=ints (u'.toList.flatMap RowT.flat)):wr (RepT.cells m) o vs=RepT.cells ({m with last:=u'}:RepT):=by subst ho;rw[eQ];refine((eW m).putIn (off:=1948) 15 j vs rfl rfl (by simp) h hw).trans ?_;simp only[RepT.cells,bU,ce]
def gX(n:Int):Int:=IntKind.i64.wrap n
theorem L9{n:Int}(h1: -9223372036854775808≤n)(h2:n≤9223372036854775807):gX n=n:=bO h1 h2
def nl(key:Int):Bool:=decide (0≤key∧key<4)
theorem fK{w:Int}(h:cw w=true):w.toNat<5:=by have:0≤w∧w<5:=of_decide_eq_true h;omega
theorem AT{k:Int}(h:nl k=true):k.toNat<4:=by have:0≤k∧k<4:=of_decide_eq_true h;omega
def xJ(key n:Int):Bool:=nl key&&decide (1≤n)&&IL n
def dO(x:RowT)(key:Int):CellT:=if h:nl key=true then x.cells[key.toNat]'(AT h)else .zero
def lI(x:RowT)(key:Int)(c:CellT):RowT:=if h:nl key=true then {x with cells:=x.cells.set key.toNat c (AT h)}else x
def lV(x:RowT)(key n counts:Int)(c:CellT):RowT×Int:=
 if counts>1099511627776-n then(.zero,6)else({lI x key c with version:=gX (x.version+1)},0)
def qd(x:RowT)(key n:Int):RowT×Int:=
 if xJ key n then lV x key n (dO x key).inn {dO x key with inn:=gX ((dO x key).inn+n)}else(.zero,5)
def qe(x:RowT)(key n:Int):RowT×Int:=
 if xJ key n then lV x key n (dO x key).out {dO x key with out:=gX ((dO x key).out+n)}else(.zero,5)
def lK(c:CellT)(to:Int):Int:=if h:cw to=true then c.given[to.toNat]'(fK h)else 0
def xo(c:CellT)(to v:Int):CellT:=if h:cw to=true then {c with given:=c.given.set to.toNat v (fK h)}else c
def Iq(c:CellT):Int:=c.given.toList.foldl (λs g=>gX (s+g)) 0
def mF(x:RowT)(key n to:Int):RowT×Int:=
 if cw to&&xJ key n then lV x key n (Iq (dO x key)) (xo (dO x key) to (gX (lK (dO x key) to+n)))else(.zero,5)
def ownAt(x:RowT)(who:Int)(i:Nat):Bool:=decide ((i:Int)=who)||decide (0<x.heir.toList.getD i 0)
def iW(x:RowT)(who:Int)(k:Nat):List Int:=((List.range k).filter (ownAt x who)).map λi=>((i:Nat):Int)
def gR(x:RowT)(who:Int):List Int:=iW x who 5
theorem rI(x:RowT)(who:Int)(k:Nat):iW x who (k+1)=iW x who k++(if ownAt x who k then [((k:Nat):Int)]else []):=by
 unfold iW;rw[cX,List.filter_append,cL]
 by_cases h:ownAt x who k=true<;>simp[h]
theorem wY(x:RowT)(who:Int){i:Nat}(h:i<5):ownAt x who i=(decide ((i:Int)=who)||decide (0<x.heir[i])):=by simp[ownAt,h]
theorem G7(x:RowT)(who:Int)(k:Nat):(iW x who k).length≤k:=by
 unfold iW;rw[bW];exact yF (Bl _ _) (by simp)
def gp(x:RowT)(of':Int):Int:=if h:cw of'=true then x.heir[of'.toNat]'(fK h)else 0
def ET(x:RowT)(of' key:Int):CellT:=if h:cw of'=true∧nl key=true then(x.left[of'.toNat]'(fK h.1))[key.toNat]'(AT h.2)else .zero
def kx(x:RowT)(who of' key:Int):CellT×Int:=
 if cw who&&cw of'&&nl key then(if of'=who then(dO x key,x.version)else if gp x of'>0 then(ET x of' key,gX (gp x of'-1))else(.zero, -1))else(.zero, -1)
def iy(who:Int):List Int:=if cw who then [(who+1)%5,(who+2)%5]else []
def cC(b:BookT)(who:Int):RowT:=if h:cw who=true then b.rows[who.toNat]'(fK h)else .zero
theorem xF(b:BookT){k:Nat}(h:k<5):cC b ((k:Nat):Int)=b.rows[k]:=by rw[cC,dif_pos (show cw ((k:Nat):Int)=true from decide_eq_true ⟨by omega,by omega⟩)];rfl
def Az(b:BookT)(who:Int)(x:RowT):BookT:=if h:cw who=true then {b with rows:=b.rows.set who.toNat x (fK h)}else b
def gk(b:BookT)(who:Int)(x:RowT):BookT×Bool:=
 if cw who&&io x&&decide (x.version>(cC b who).version)then(Az b who x,true)else(b,false)
def tv(b:BookT)(of' key:Int)(s:CellT×Int)(i:Nat):CellT×Int:=
 let c:=kx (cC b i) i of' key
 if c.2>s.2 then c else s
def xE(b:BookT)(of' key:Int)(k:Nat):CellT×Int:=(List.range k).foldl (tv b of' key) (.zero, -1)
def da(b:BookT)(of' key:Int):CellT:=(xE b of' key 5).1
theorem ve(b:BookT)(of' key:Int)(k:Nat):xE b of' key (k+1)=tv b of' key (xE b of' key k) k:=by
 unfold xE;rw[cX,fb];rfl
def sD(b:BookT)(key:Int)(k:Nat):Int:=(List.range k).foldl (λv (i:Nat)=>gX (v+gX ((da b i key).inn- (da b i key).out))) 0
def mW(b:BookT)(key:Int):Int:=sD b key 5
theorem Ae(b:BookT)(key:Int)(k:Nat):sD b key (k+1)=gX (sD b key k+gX ((da b k key).inn- (da b k key).out)):=by
 unfold sD;rw[cX,fb];rfl
def qf(b:BookT)(key of':Int)(r:Int)(k:Nat):Int:=(List.range k).foldl (λr (i:Nat)=>gX (r+gX (lK (da b i key) of'-lK (da b of' key) i))) r
theorem x9(b:BookT)(key of' r:Int)(k:Nat):qf b key of' r (k+1)=gX (qf b key of' r k+gX (lK (da b k key) of'-lK (da b of' key) k)):=by
 unfold qf;rw[cX,fb];rfl
def oY(b:BookT)(key r of':Int):Int:=qf b key of' (gX (r+gX ((da b of' key).inn- (da b of' key).out))) 5
def po(b:BookT)(who key:Int):Int:=if cw who then(gR (cC b who) who).foldl (oY b key) 0 else 0
theorem Eo(x:RowT)(who:Int): ∀n∈gR x who,0≤n∧n<5:=by
 intro n hn;simp only[gR,iW,dw,List.mem_filter,ee]at hn;obtain⟨i,⟨hi,_⟩,rfl⟩:=hn;omega
theorem xn(c:CellT){k:Nat}(h:k<5):lK c ((k:Nat):Int)=c.given[k]:=by rw[lK,dif_pos (show cw ((k:Nat):Int)=true from decide_eq_true ⟨by omega,by omega⟩)];rfl
def eI(m:MirT)(who:Int):RowT:=if h:cw who=true then m.rows[who.toNat]'(fK h)else .zero
def gL(m:MirT)(who:Int):Bool:=if h:cw who=true then m.sealed[who.toNat]'(fK h)else false
def lW(m:MirT)(who:Int)(x:RowT):Bool:=cw who&& !gL m who&&io x&&decide (x.version>(eI m who).version)
def AQ(m:MirT)(who:Int)(x:RowT):MirT:=if h:cw who=true then {m with rows:=m.rows.set who.toNat x (fK h)}else m
def mJ(m:MirT)(who:Int)(x:RowT):MirT×Bool:=if lW m who x then(AQ m who x,true)else(m,false)
def oy(m:MirT)(who:Int):MirT:=if h:cw who=true then {m with sealed:=m.sealed.set who.toNat true (fK h)}else m
end Api
end

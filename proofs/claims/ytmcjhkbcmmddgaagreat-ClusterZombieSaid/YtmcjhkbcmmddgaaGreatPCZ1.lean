/-
  Joined texts:what a statement's proof reaches.
-/
import Derived.WalkKit
import Derived.Deep.LoopGhost
import Derived.Deep.MidRow
import Derived.Deep.RegionHeld
import Derived.LoopN
import Derived.Great.BuildSlice
import Derived.Test.YtmcjhkbcmmddgaaGreatProg
import Derived.KernelRfl
import Derived.Recover
import Derived.ProofKit
import Derived.ChangeOld
import Derived.Below
import Derived.Laws.StructEq
import Derived.DeepKeys
import Derived.MapKept
import Derived.Laws.CopyRow
set_option maxHeartbeats 8000000
set_option maxRecDepth 100000
set_option linter.unusedSimpArgs false
set_option linter.unusedVariables false
abbrev ai:= @List.length_append
abbrev an:= @Bool.and_eq_true
abbrev ax:= @List.length_cons
abbrev aA:= @Vector.length_toList
abbrev aB:= @List.length_nil
abbrev aD:= @List.take_of_length_le
abbrev aE:= @List.append_assoc
abbrev aH:= @Nat.le_refl
abbrev aO:= @Nat.zero_le
abbrev aQ:= @List.nil_append
abbrev aW:= @List.append_nil
abbrev be:= @List.drop_zero
abbrev bm:= @Option.some.inj
abbrev bq:= @Nat.zero_add
abbrev bR:= @List.length_take
abbrev bU:= @List.set_cons_succ
abbrev bY:= @List.length_map
abbrev bZ:= @List.set_cons_zero
abbrev cn:= @List.mem_cons
abbrev cq:= @Nat.add_sub_cancel_left
abbrev cy:= @List.take_append_of_le_length
abbrev da:= @List.take_succ_eq_append_getElem
abbrev db:= @List.flatMap_cons
abbrev de:= @List.range_succ
abbrev du:= @List.drop_of_length_le
abbrev dB:= @Nat.le_of_eq
abbrev dI:= @List.drop_eq_getElem_cons
abbrev dK:= @List.length_set
abbrev dO:= @List.drop_eq_nil_of_le
abbrev ec:= @List.map_append
abbrev ej:= @List.length_drop
abbrev eX:= @List.mem_range
abbrev eY:= @List.mem_append
abbrev fb:= @List.map_cons
abbrev fc:= @List.getElem_mem
abbrev ff:= @List.map_congr_left
abbrev fh:= @Nat.le_of_ble_eq_true
abbrev fk:= @List.foldl_append
abbrev fu:= @List.mem_singleton
abbrev fJ:= @Bool.eq_false_iff
abbrev fZ:= @List.set_set
abbrev gd:= @List.mem_map
abbrev gn:= @Nat.mul_one
abbrev gp:= @Nat.add_mul
abbrev gJ:= @List.getElem_of_mem
abbrev gY:= @List.set_append_right
abbrev gZ:= @List.length_singleton
abbrev ij:= @Bool.false_and
abbrev iJ:= @List.drop_succ_cons
abbrev iK:= @Nat.zero_mul
abbrev ja:= @List.drop_append
abbrev jT:= @Nat.le_trans
abbrev kG:= @List.take_length
abbrev kH:= @List.mem_flatMap
abbrev kI:= @List.cons_append
abbrev kY:= @List.drop_append_of_le_length
abbrev la:= @List.mem_cons_self
abbrev lD:= @List.map_drop
abbrev mq:= @Nat.mul_le_mul_right
abbrev mr:= @List.drop_drop
abbrev mx:= @Bool.and_false
abbrev mL:= @Nat.add_comm
abbrev mN:= @List.map_nil
abbrev nR:= @Nat.add_assoc
abbrev nS:= @Bool.true_and
abbrev oC:= @List.set_eq_take_append_cons_drop
abbrev o7:= @List.getElem_cons_zero
abbrev o8:= @List.drop_take
abbrev pV:= @List.take_append_drop
abbrev pW:= @List.singleton_append
abbrev qf:= @List.map_take
abbrev qW:= @List.set_append_left
abbrev qX:= @List.mem_of_mem_take
abbrev rr:= @Bool.or_eq_true
abbrev tW:= @List.take_left
abbrev tX:= @Int.tmod_eq_emod_of_nonneg
abbrev vL:= @List.length_range
abbrev yZ:= @Nat.sub_self
abbrev y1:= @List.length_eq_one_iff
abbrev Aw:= @Int.emod_nonneg
abbrev Ax:= @Bool.eq_iff_iff
abbrev BY:= @List.length_filter_le
abbrev Ev:= @List.mem_cons_of_mem
abbrev Ew:= @List.drop_left
abbrev IU:= @Nat.mod_lt
abbrev IV:= @Nat.add_sub_cancel
abbrev IW:= @List.map_inj_right
abbrev IZ:= @Int.emod_lt_of_pos
abbrev KN:= @Nat.mul_comm
abbrev KO:= @Nat.add_zero
abbrev KP:= @List.map_set
abbrev KR:= @Int.toNat_natCast
abbrev Mz:= @List.map_toArray
abbrev PO:= @Bool.not_false
abbrev P7:= @List.getElem_append_right
abbrev Rb:= @List.set_eq_of_length_le
abbrev Rc:= @List.getElem_append_left
abbrev Rf:= @Bool.not_true
abbrev Rg:= @Bool.and_true
abbrev Rv:= @Nat.sub_zero
abbrev Rx:= @List.getElem_cons_succ
abbrev RA:= @List.length_replicate
section
namespace Leg
open Go
abbrev Hl:=Nat→Option Obj
abbrev HP:=Hl→Prop
def hp(w:World):Hl:=λb=>w.heap[b]?
def Dj(h g:Hl):Prop:=∀b,h b=none∨g b=none
def jn(h g:Hl):Hl:=λb=>match h b with
 |some o=>some o
 |none=>g b
def em:Hl:=λ_=>none
def sg(b:Nat)(o:Obj):Hl:=λc=>if c=b then some o else none
theorem iA{h g:Hl}{b:Nat}{o:Obj}(e:h b=some o):jn h g b=some o:=by simp[jn,e]
theorem GU{h g:Hl}{b:Nat}(e:h b=none):jn h g b=g b:=by simp[jn,e]
theorem Dj.symm{h g:Hl}(d:Dj h g):Dj g h:=λb=>(d b).symm
theorem oc{h g:Hl}(d:Dj h g):jn h g=jn g h:=by
 funext b
 rcases d b with e|e<;>cases e1:h b<;>cases e2:g b<;>simp_all [jn]
theorem jL(h g k:Hl):jn (jn h g) k=jn h (jn g k):=by
 funext b;cases e1:h b<;>simp[jn,e1]
theorem Dj.jn_left{h g k:Hl}:Dj (jn h g) k↔Dj h k∧Dj g k:=by
 constructor
 · intro d
   refine⟨λb=>?_,λb=>?_⟩
   · rcases d b with e|e
     · cases e1:h b<;>simp_all [jn]
     · exact .inr e
   · rcases d b with e|e
     · cases e1:h b<;>simp_all [jn]
     · exact .inr e
 · rintro ⟨d1,d2⟩ b
   rcases d1 b with e|e
   · rcases d2 b with e'|e'
     · exact .inl (by simp[jn,e,e'])
     · exact .inr e'
   · exact .inr e
abbrev mu:= @Dj.jn_left
theorem Dj.jn_right{h g k:Hl}:Dj h (jn g k)↔Dj h g∧Dj h k:=
 ⟨λd=>let ⟨a,b⟩:=mu.1 d.symm;⟨a.symm,b.symm⟩,λ⟨a,b⟩=>(mu.2 ⟨a.symm,b.symm⟩).symm⟩
abbrev oq:= @Dj.jn_right
theorem MV(h:Hl):jn h em=h:=by funext b;cases e:h b<;>simp[jn,e,em]
theorem rG(h:Hl):jn em h=h:=by funext b;simp[jn,em]
theorem Dj.em(h:Hl):Dj h em:=λ_=> .inr rfl
theorem Dj.em'(h:Hl):Dj Leg.em h:=λ_=> .inl rfl
abbrev Ex:= @Dj.em'
def Le(h g:Hl):Prop:=∀b o,h b=some o→g b=some o
theorem Le.left(h g:Hl):Le h (jn h g):=λ_ _ e=>iA e
theorem Le.right{h g:Hl}(d:Dj h g):Le g (jn h g):=by rw[oc d];exact Le.left g h
def rV(p q:HP):HP:=λh=>∃h1 h2,Dj h1 h2∧h=jn h1 h2∧p h1∧q h2
def bz:List HP→HP
 | []=>λ_=>True
 |p::ps=>rV p (bz ps)
theorem Hv{p q:HP}{h:Hl}(s:rV p q h):rV q p h:=by
 obtain⟨h1,h2,d,rfl,a,b⟩:=s;exact⟨h2,h1,d.symm,oc d,b,a⟩
theorem nA{p q r:HP}{h:Hl}:rV (rV p q) r h↔rV p (rV q r) h:=by
 constructor
 · rintro ⟨_,h3,d,rfl,⟨h1,h2,d',rfl,a,b⟩,c⟩
   obtain⟨d1,d2⟩:=mu.1 d;exact⟨h1,jn h2 h3,oq.2 ⟨d',d1⟩,jL ..,a,h2,h3,d2,rfl,b,c⟩
 · rintro ⟨h1,_,d,rfl,a,h2,h3,d',rfl,b,c⟩
   obtain⟨d1,d2⟩:=oq.1 d;exact⟨jn h1 h2,h3,mu.2 ⟨d2,d'⟩,(jL ..).symm,⟨h1,h2,d1,rfl,a,b⟩,c⟩
theorem cF{p p' q q':HP}{h:Hl}(s:rV p q h)(a: ∀h,p h→p' h)(b: ∀h,q h→q' h):rV p' q' h:=by
 obtain⟨h1,h2,d,e,x,y⟩:=s;exact⟨h1,h2,d,e,a _ x,b _ y⟩
theorem lY: ∀(H:List HP) {h g:Hl},bz H h→Dj h g→bz H (jn h g)
 | [],_,_,_,_=>trivial
 |p::ps,h,g,s,d=>by
  obtain⟨h1,h2,d',rfl,a,b⟩:=s;obtain⟨d1,d2⟩:=mu.1 d;exact⟨h1,jn h2 g,oq.2 ⟨d',d1⟩,jL ..,a,lY ps b d2⟩
theorem cb: ∀(A B:List HP) {h:Hl},bz (A++B) h↔rV (bz A) (bz B) h
 | [],B,h=>by
  constructor
  · intro s;exact⟨em,h,Ex h,(rG h).symm,trivial,s⟩
  · rintro ⟨h1,h2,d,rfl,_,s⟩
    rw[oc d];exact lY _ s d.symm
 |p::ps,B,h=>by
  show rV p (bz (ps++B)) h↔rV (rV p (bz ps)) (bz B) h;rw[nA];constructor
  · intro s;exact cF s (λ_ x=>x) λ_ x=>(cb ps B).1 x
  · intro s;exact cF s (λ_ x=>x) λ_ x=>(cb ps B).2 x
theorem eH{A B:List HP}(e:A.Perm B): ∀{h:Hl},bz A h→bz B h:=by
 induction e with
 |nil=>intro h s;exact s
 |cons x _ ih=>intro h s;exact cF s (λ_ y=>y) λ_ y=>ih y
 |swap x y l=>
  intro h s;have t:=nA.2 s;exact nA.1 (cF t (λ_ z=>Hv z) λ_ z=>z)
 |trans _ _ ih1 ih2=>intro h s;exact ih2 (ih1 s)
theorem Jo{p:HP}{H:List HP}{h:Hl}(s:bz (p::H) h):bz H h:=by
 obtain⟨h1,h2,d,rfl,_,b⟩:=s;rw[oc d];exact lY _ b d.symm
theorem nE{α:Type}(d:α): ∀(H:List α) (i:Nat),i<H.length→H.Perm (H.getD i d::H.eraseIdx i)
 | [],i,h=>by simp at h
 |x::xs,0,_=>by simp
 |x::xs,i+1,h=>by
  have ih:=nE d xs i (by simpa using h);simp only[List.getD_cons_succ,List.eraseIdx_cons_succ];exact(List.Perm.cons x ih).trans (List.Perm.swap ..)
theorem fm{H:List HP}{h:Hl}(i:Nat)(hi:i<H.length)(s:bz H h):rV (H.getD i (λ_=>True)) (bz (H.eraseIdx i)) h:=
 eH (nE _ H i hi) s
theorem lq{H:List HP}{h:Hl}{p:HP}(i:Nat)(hi:i<H.length)(s:rV p (bz (H.eraseIdx i)) h):bz (H.set i p) h:=by
 have e:(p::H.eraseIdx i).Perm (H.set i p):=by
  have:=nE (λ_=>True) (H.set i p) i (by simpa using hi);simp only[List.getD_eq_getElem?_getD,List.getElem?_set_self hi,Option.getD_some,List.eraseIdx_set_eq]at this;exact this.symm
 exact eH e s
def Bh(b:Nat)(o:Obj):HP:=λh=>h=sg b o
structure Same(w w':World):Prop where
 os:w'.os=w.os
 tape:w'.tape=w.tape
 output:w'.output=w.output
 size:w.heap.size≤w'.heap.size
theorem Same.refl(w:World):Same w w:=⟨rfl,rfl,rfl,aH _⟩
abbrev sF:= @Same.refl
theorem Same.trans{a b c:World}(x:Same a b)(y:Same b c):Same a c:=
 ⟨y.os.trans x.os,y.tape.trans x.tape,y.output.trans x.output,jT x.size y.size⟩
def Sat(H:List HP)(F:Hl)(w:World):Prop:=∃h,Dj h F∧hp w=jn h F∧bz H h
theorem Sat.mono{A B:List HP}{F:Hl}{w:World}(s:Sat A F w)(e: ∀h,bz A h→bz B h):Sat B F w:=by
 obtain⟨h,d,e',x⟩:=s;exact⟨h,d,e',e h x⟩
theorem Sat.drew{H:List HP}{F:Hl}{w:World}(s:Sat H F w):Sat H F w.drew:=s
theorem Sat.frame{H:List HP}{F:Hl}{w:World}(s:Sat H F w){b:Nat}{o:Obj}(e:F b=some o):w.heap[b]?=some o:=by
 obtain⟨h,d,e',_⟩:=s
 have:hp w b=some o:=by
  rw[e'];rcases d b with x|x
  · rw[GU x];exact e
  · rw[x]at e;cases e
 exact this
theorem Sat.split{A B:List HP}{F:Hl}{w:World}(s:Sat (A++B) F w): ∃g,Dj g F∧bz B g∧Sat A (jn g F) w:=by
 obtain⟨h,d,e,x⟩:=s;obtain⟨h1,h2,d',rfl,a,b⟩:=(cb A B).1 x;obtain⟨d1,d2⟩:=mu.1 d;exact⟨h2,d2,b,h1,oq.2 ⟨d',d1⟩,by rw[e,jL],a⟩
theorem Sat.merge{A B:List HP}{F g:Hl}{w:World}(d:Dj g F)(b:bz B g)(s:Sat A (jn g F) w):Sat (A++B) F w:=by
 obtain⟨h,d',e,a⟩:=s;obtain⟨d1,d2⟩:=oq.1 d';exact⟨jn h g,mu.2 ⟨d2,d⟩,by rw[e,jL],(cb A B).2 ⟨h,g,d1,rfl,a,b⟩⟩
theorem Sat.block{H:List HP}{F:Hl}{w:World}(s:Sat H F w)(i:Nat){b:Nat}{o:Obj}(hi:i<H.length)(e:H.getD i (λ_=>True)=Bh b o):w.heap[b]?=some o:=by
 obtain⟨h,d,e',x⟩:=s;obtain⟨h1,h2,d',rfl,a,_⟩:=fm i hi x;rw[e]at a
 have:hp w b=some o:=by
  rw[e',jL];exact iA (by rw[a];simp[sg])
 exact this
theorem Sat.alloc{H:List HP}{F:Hl}{w:World}(s:Sat H F w)(o:Obj):Sat (Bh w.heap.size o::H) F (w.alloc o):=by
 obtain⟨h,d,e,x⟩:=s;have hn:hp w w.heap.size=none:=by simp[hp]
 rw[e]at hn;have n1:h w.heap.size=none:=by cases k:h w.heap.size<;>simp_all [jn]
 have n2:F w.heap.size=none:=by rw[GU n1]at hn;exact hn
 have d1:Dj (sg w.heap.size o) h:=λb=>by
  by_cases k:b=w.heap.size
  · exact .inr (k▸n1)
  · exact .inl (by simp[sg,k])
 have d2:Dj (sg w.heap.size o) F:=λb=>by
  by_cases k:b=w.heap.size
  · exact .inr (k▸n2)
  · exact .inl (by simp[sg,k])
 refine⟨jn (sg w.heap.size o) h,mu.2 ⟨d2,d⟩,?_,sg w.heap.size o,h,d1,rfl,rfl,x⟩;rw[jL,←e]
 funext b
 show(w.heap.push o)[b]?=_;rw[Array.getElem?_push]
 by_cases k:b=w.heap.size
 · subst k;simp[jn,sg]
 · simp[jn,sg,k,hp]
theorem Sat.write{H:List HP}{F:Hl}{w w':World}(s:Sat H F w)(i:Nat){b:Nat}{o o':Obj}(hi:i<H.length)(e:H.getD i (λ_=>True)=Bh b o)
 (hw:w'.heap[b]?=some o') (hother: ∀k,k≠b→w'.heap[k]?=w.heap[k]?):Sat (H.set i (Bh b o')) F w':=by
 obtain⟨h,d,e',x⟩:=s;obtain⟨h1,h2,d',rfl,a,y⟩:=fm i hi x;rw[e]at a;obtain⟨d1,d2⟩:=mu.1 d
 have key: ∀g:Hl,Dj h1 g→Dj (sg b o') g:=λg dg c=>by
  by_cases k:c=b
  · subst k
    rcases dg c with z|z
    · rw[a]at z;simp[sg]at z
    · exact .inr z
  · exact .inl (by simp[sg,k])
 refine⟨jn (sg b o') h2,mu.2 ⟨key _ d1,d2⟩,?_,lq i hi ⟨_,h2,key _ d',rfl,rfl,y⟩⟩
 funext c
 show w'.heap[c]?=_
 by_cases k:c=b
 · subst k;rw[hw];simp[jn,sg]
 · rw[hother c k]
   show hp w c=_;rw[e',a];simp[jn,sg,k]
def lk:List (Nat×Value)→Nat→Option Value
 | [],_=>none
 | (k,v)::r,t=>bif Nat.beq k t then some v else lk r t
def cK(L:List (Nat×Value)):Operand→Option Value
 | .tmp t=>lk L t
 | .const v=>some v
 | .global g=>some (.pointer (some ⟨g,0,none⟩))
 | .func f=>some (.func (.func f) #[] #[])
def Fr(n:Nat)(D:List Deferred)(L:List (Nat×Value))(a:Act):Prop:=
 a.tmps.size=n∧a.defers=D∧∀t v,lk L t=some v→a.tmps[t]?=some v
theorem Fr.eval{n:Nat}{D:List Deferred}{L:List (Nat×Value)}{a:Act}(h:Fr n D L a){x:Operand}{v:Value}(e:cK L x=some v):a.eval x=v:=by
 cases x with
 |tmp t=>
  have:=h.2.2 t v e;show a.tmps.getD t undef=v;rw[Array.getD_eq_getD_getElem?,this];rfl
 |const u=>exact bm e
 |global g=>exact bm e
 |func f=>exact bm e
theorem Fr.put{n:Nat}{D:List Deferred}{L:List (Nat×Value)}{a:Act}(h:Fr n D L a){d:Nat}(hd:d<n)(v:Value):Fr n D ((d,v)::L) (a.put (some d) v):=by
 obtain⟨h1,h2,h3⟩:=h;refine⟨by simpa [Act.put]using h1,h2,λt u e=>?_⟩;show(a.tmps.setIfInBounds d v)[t]?=some u;rw[Array.getElem?_setIfInBounds]
 by_cases k:d=t
 · subst k
   have e':some v=some u:=by simpa [lk]using e
   rw[if_pos rfl,if_pos (by omega),e']
 · have b:Nat.beq d t=false:=by
    cases hb:Nat.beq d t
    · rfl
    · exact absurd (Nat.eq_of_beq_eq_true hb) k
   rw[if_neg k];exact h3 t u (by simpa [lk,b]using e)
def Sub(L L':List (Nat×Value)):Prop:=∀t v,lk L' t=some v→lk L t=some v
theorem Sub.nil(L:List (Nat×Value)):Sub L []:=λ_ _ e=>by cases e
abbrev N6:= @Sub.nil
theorem Sub.cons{L L':List (Nat×Value)}{t:Nat}{u v:Value}(e:lk L t=some u)(q:u=v)(s:Sub L L'):Sub L ((t,v)::L'):=λk x h=>by
 by_cases b:Nat.beq t k=true
 · have:v=x:=by simpa [lk,b]using h
   have kt:=Nat.eq_of_beq_eq_true b;subst kt;subst this;subst q;exact e
 · exact s k x (by simpa [lk,b]using h)
abbrev bE:= @Sub.cons
theorem Sub.r{L L':List (Nat×Value)}{t:Nat}{u:Value}(s:Sub L L')(e:lk L t=some u:=by rfl):Sub L ((t,u)::L'):=bE e rfl s
abbrev aT:= @Sub.r
theorem Fr.sub{n:Nat}{D:List Deferred}{L L':List (Nat×Value)}{a:Act}(h:Fr n D L a)(s:Sub L L'):Fr n D L' a:=
 ⟨h.1,h.2.1,λt v e=>h.2.2 t v (s t v e)⟩
abbrev QQ:=Exit→Act→World→Prop
section
variable (P:Program) (w0:World) (F:Hl) (n:Nat)
def TC(c:Code)(Q:QQ)(D:List Deferred)(L:List (Nat×Value))(H:List HP):Prop:=
 ∀a w,Fr n D L a→Same w0 w→Sat H F w→c.wp P Q a w
def TL(ops:Array Oper)(Q:QQ)(l:List Oper)(D:List Deferred)(L:List (Nat×Value))(H:List HP):Prop:=
 ∀a w,Fr n D L a→Same w0 w→Sat H F w→wpList P ops Q l a w
def TE(Q:QQ)(e:Exit)(D:List Deferred)(L:List (Nat×Value))(H:List HP):Prop:=
 ∀a w,Fr n D L a→Same w0 w→Sat H F w→Q e a w
end
def KS(P:Program)(y:Code)(Q:QQ)(K:Act→World→Prop):Prop:=∀a w,y.wp P Q a w→K a w
section
variable {P:Program} {w0:World} {F:Hl} {n:Nat} {ops:Array Oper} {Q:QQ} {D:List Deferred} {L:List (Nat×Value)} {H:List HP}
theorem TC.seq{x y:Code}(h: ∀K,KS P y Q K→TC P w0 F n x (Exit.then K Q) D L H):TC P w0 F n (x.seq y) Q D L H:=
 λa w f s m=>wp_seq_k λK hK=>h K hK a w f s m
abbrev aa:= @TC.seq
theorem TC.region{id:Nat}{l:List Oper}(h:TL P w0 F n l.toArray Q l D L H):TC P w0 F n (.region id l.toArray false) Q D L H:=
 λa w f s m=>wp_region_lit (h a w f s m)
abbrev ad:= @TC.region
theorem TC.skip(h:TE w0 F n Q .normal D L H):TC P w0 F n .skip Q D L H:=λa w f s m=>wp_skip (h a w f s m)
abbrev aS:= @TC.skip
theorem TC.exit{id:Nat}(h:TE w0 F n Q (.exit id) D L H):TC P w0 F n (.exit id) Q D L H:=λa w f s m=>wp_exit (h a w f s m)
abbrev bh:= @TC.exit
theorem TC.ret(h:TE w0 F n Q .ret D L H):TC P w0 F n .ret Q D L H:=λa w f s m=>wp_ret (h a w f s m)
abbrev aj:= @TC.ret
theorem TC.block{id:Nat}{c:Code}(h:TC P w0 F n c (Exit.inBlock id Q) D L H):TC P w0 F n (.block id c) Q D L H:=λa w f s m=>wp_block (h a w f s m)
abbrev aq:= @TC.block
theorem TC.yes{c:Operand}{x y:Code}(e:cK L c=some (.bool true))(h:TC P w0 F n x Q D L H):TC P w0 F n (.cond c x y) Q D L H:=
 λa w f s m=>wp_cond_true (f.eval e) (h a w f s m)
abbrev nZ:= @TC.yes
theorem TC.no{c:Operand}{x y:Code}(e:cK L c=some (.bool false))(h:TC P w0 F n y Q D L H):TC P w0 F n (.cond c x y) Q D L H:=
 λa w f s m=>wp_cond_false (f.eval e) (h a w f s m)
abbrev Ha:= @TC.no
theorem TC.cond{c:Operand}{x y:Code}{b:Bool}(e:cK L c=some (.bool b))(ht:b=true→TC P w0 F n x Q D L H)(hf:b=false→TC P w0 F n y Q D L H):TC P w0 F n (.cond c x y) Q D L H:=
 λa w f s m=>wp_cond_split (f.eval e) (λh=>ht h a w f s m) (λh=>hf h a w f s m)
theorem TL.nil(h:TE w0 F n Q .normal D L H):TL P w0 F n ops Q [] D L H:=λa w f s m=>wpList_nil (h a w f s m)
abbrev aw:= @TL.nil
theorem TE.next{y:Code}{K:Act→World→Prop}(hK:KS P y Q K)(h:TC P w0 F n y Q D L H):TE w0 F n (Exit.then K Q) .normal D L H:=
 λa w f s m=>hK a w (h a w f s m)
abbrev ac:= @TE.next
theorem TE.pass{K:Act→World→Prop}{id:Nat}(h:TE w0 F n Q (.exit id) D L H):TE w0 F n (Exit.then K Q) (.exit id) D L H:=h
abbrev aC:= @TE.pass
theorem TE.passRet{K:Act→World→Prop}(h:TE w0 F n Q .ret D L H):TE w0 F n (Exit.then K Q) .ret D L H:=h
abbrev ae:= @TE.passRet
theorem TE.passPanic{K:Act→World→Prop}{c:List PanicEntry}(h:TE w0 F n Q (.panic c) D L H):TE w0 F n (Exit.then K Q) (.panic c) D L H:=h
abbrev ay:= @TE.passPanic
theorem TE.hit{id:Nat}(h:TE w0 F n Q .normal D L H):TE w0 F n (Exit.inBlock id Q) (.exit id) D L H:=λa w f s m=>by
 show if id=id then _ else _
 rw[if_pos rfl];exact h a w f s m
abbrev bC:= @TE.hit
theorem TE.miss{id k:Nat}(e:k≠id)(h:TE w0 F n Q (.exit k) D L H):TE w0 F n (Exit.inBlock id Q) (.exit k) D L H:=λa w f s m=>by
 show if k=id then _ else _
 rw[if_neg e];exact h a w f s m
theorem TE.blockEnd{id:Nat}(h:TE w0 F n Q .normal D L H):TE w0 F n (Exit.inBlock id Q) .normal D L H:=h
abbrev af:= @TE.blockEnd
theorem TE.blockRet{id:Nat}(h:TE w0 F n Q .ret D L H):TE w0 F n (Exit.inBlock id Q) .ret D L H:=h
abbrev aJ:= @TE.blockRet
theorem TE.blockPanic{id:Nat}{c:List PanicEntry}(h:TE w0 F n Q (.panic c) D L H):TE w0 F n (Exit.inBlock id Q) (.panic c) D L H:=h
abbrev aN:= @TE.blockPanic
theorem TE.weak{e:Exit}{L':List (Nat×Value)}{H':List HP}(s:Sub L L')(m: ∀h,bz H h→bz H' h)(h:TE w0 F n Q e D L' H'):TE w0 F n Q e D L H:=
 λa w f s' m'=>h a w (f.sub s) s' (m'.mono m)
abbrev aF:= @TE.weak
theorem TL.weak{l:List Oper}{L':List (Nat×Value)}{H':List HP}(s:Sub L L')(m: ∀h,bz H h→bz H' h)(h:TL P w0 F n ops Q l D L' H'):TL P w0 F n ops Q l D L H:=
 λa w f s' m'=>h a w (f.sub s) s' (m'.mono m)
theorem TC.ex{c:Code}{α:Sort _}{H':α→List HP}(m: ∀h,bz H h→∃x,bz (H' x) h)(h: ∀x,TC P w0 F n c Q D L (H' x)):TC P w0 F n c Q D L H:=
 λa w f s ⟨g,d,e,t⟩=>let ⟨x,t'⟩:=m g t;h x a w f s ⟨g,d,e,t'⟩
theorem TL.ex{l:List Oper}{α:Sort _}{H':α→List HP}(m: ∀h,bz H h→∃x,bz (H' x) h)(h: ∀x,TL P w0 F n ops Q l D L (H' x)):TL P w0 F n ops Q l D L H:=
 λa w f s ⟨g,d,e,t⟩=>let ⟨x,t'⟩:=m g t;h x a w f s ⟨g,d,e,t'⟩
abbrev G9:= @TL.ex
def PL{α:Type}(w0:World)(F:Hl)(n:Nat)(D:List Deferred)(Inv:α→Prop)(Lf:α→List (Nat×Value))(Hf:α→List HP)(x:α)(a:Act)(w:World):Prop:=
 Inv x∧Fr n D (Lf x) a∧Same w0 w∧Sat (Hf x) F w
def MZ{α:Type}(w0:World)(F:Hl)(n:Nat)(D:List Deferred)(Inv:α→Prop)(Lf:α→List (Nat×Value))(Hf:α→List HP)(μ:α→Nat)(m:Nat)(a:Act)(w:World):Prop:=
 ∃x,μ x<m∧PL w0 F n D Inv Lf Hf x a w
theorem TC.loop{α:Type}{c:Code}(Inv:α→Prop)(Lf:α→List (Nat×Value))(Hf:α→List HP)(μ:α→Nat)(x0:α)
 (hi:Inv x0) (hs:Sub L (Lf x0)) (hm: ∀h,bz H h→bz (Hf x0) h)
 (body: ∀x,Inv x→TC P w0 F n c (Exit.then (MZ w0 F n D Inv Lf Hf μ (μ x)) Q) D (Lf x) (Hf x)):TC P w0 F n (.loop c) Q D L H:=by
 intro a w f s m;refine wp_loop_ghost (λk a w=>∃x,μ x=k∧PL w0 F n D Inv Lf Hf x a w) (μ x0) ⟨x0,rfl,hi,f.sub hs,s,m.mono hm⟩ ?_
 rintro k a w ⟨x,rfl,hx,f,s,m⟩
 refine wp_mono (body x hx a w f s m) ?_;intro e a' w' q;cases e with
 |normal=>obtain⟨y,hy,r⟩:=q;exact⟨μ y,hy,y,rfl,r⟩
 |exit id=>exact q
 |goto l=>exact q
 |ret=>exact q
 |panic ch=>exact q
 |outgrown=>exact q
abbrev bD:= @TC.loop
theorem TE.round{α:Type}{Inv:α→Prop}{Lf:α→List (Nat×Value)}{Hf:α→List HP}{μ:α→Nat}{m:Nat}(x:α)
 (hi:Inv x) (hμ:μ x<m) (hs:Sub L (Lf x)) (hm: ∀h,bz H h→bz (Hf x) h):TE w0 F n (Exit.then (MZ w0 F n D Inv Lf Hf μ m) Q) .normal D L H:=
 λ_ _ f s t=>⟨x,hμ,hi,f.sub hs,s,t.mono hm⟩
abbrev aL:= @TE.round
def Does(P:Program)(f:FuncId)(args:Array Value)(R:Hl→Prop)(H:List HP)(post:Ending→List HP→Prop):Prop:=
 ∀w F,R F→Sat H F w→Calls P f args w λe w'=>Same w w'∧∃H',Sat H' F w'∧post e H'
theorem Does.mono{f:FuncId}{args:Array Value}{R:Hl→Prop}{H:List HP}{post post':Ending→List HP→Prop}(s:Does P f args R H post)(h: ∀e H,post e H→post' e H):Does P f args R H post':=
 λw F r m=>(s w F r m).mono λ_ _ ⟨a,H',b,c⟩=>⟨a,H',b,h _ _ c⟩
def jD(post:Ending→List HP→Prop)(w0:World)(F:Hl)(e:Ending)(w':World):Prop:=Same w0 w'∧∃H',Sat H' F w'∧post e H'
theorem getElem?_args(args:Array Value)(m t:Nat)(v:Value)(h:args[t]?=some v):(args++Array.replicate m undef)[t]?=some v:=by
 rw[Array.getElem?_append];have:=(Array.getElem?_eq_some_iff.1 h).1;rw[if_pos this];exact h
def oy:Nat→List Value→List (Nat×Value)
 |_,[]=>[]
 |i,v::vs=>(i,v)::oy (i+1) vs
theorem q8: ∀(vs:List Value) (i t:Nat) (v:Value),lk (oy i vs) t=some v→i≤t∧vs[t-i]?=some v
 | [],_,_,_,h=>by cases h
 |u::us,i,t,v,h=>by
  by_cases b:Nat.beq i t=true
  · have:=Nat.eq_of_beq_eq_true b
    subst this;have e:u=v:=by simpa [oy,lk,b]using h
    simp[e]
  · have h':lk (oy (i+1) us) t=some v:=by simpa [oy,lk,b]using h
    obtain⟨h1,h2⟩:=q8 us (i+1) t v h';refine⟨by omega,?_⟩;rw[show t-i=(t- (i+1))+1 by omega]
    simpa using h2
theorem Does.body{f:FuncId}{fn:Func}{c:Code}{vs:List Value}{R:Hl→Prop}{H:List HP}{post:Ending→List HP→Prop}
 (hf:P.funcs[f]?=some fn) (hb:fn.body=some c) (hm:fn.ntmps=n) (hl:Nat.ble vs.length n=true)
 (h: ∀w0 F,R F→TC P w0 F n c (bodyPost P fn (jD post w0 F)) [] (oy 0 vs) H):Does P f vs.toArray R H post:=by
 intro w F r m;subst hm;have hn:vs.length≤fn.ntmps:=fh hl;refine calls_of_wp hf hb (h w F r _ w ⟨?_,rfl,λt v e=>?_⟩ (sF w) m)
 · simp;omega
 · obtain⟨_,h2⟩:=q8 vs 0 t v e
   exact getElem?_args _ _ _ _ (by simpa using h2)
theorem TE.ret1{fn:Func}{post:Ending→List HP→Prop}{t:Nat}{v:Value}(hr:fn.results=#[.tmp t])(e:lk L t=some v)(h:post (.returned v) H):
 TE w0 F n (bodyPost P fn (jD post w0 F)) .ret [] L H:=λa w f s m=>by
 refine bodyPost_ret (results_tmp hr _ _ _) f.2.1 ⟨s,H,m,?_⟩;have:=f.eval (x:= .tmp t) e;rw[show a.tmps.getD t undef=v from this];exact h
abbrev av:= @TE.ret1
theorem TE.ret2{fn:Func}{post:Ending→List HP→Prop}{t t':Nat}{v v':Value}(hr:fn.results=#[.tmp t, .tmp t'])(e:lk L t=some v)(e':lk L t'=some v')(h:post (.returned (.tuple #[v,v'])) H):
 TE w0 F n (bodyPost P fn (jD post w0 F)) .ret [] L H:=λa w f s m=>by
 refine bodyPost_ret (results_tmp2 hr _ _ _) f.2.1 ⟨s,H,m,?_⟩;have h1:=f.eval (x:= .tmp t) e;have h2:=f.eval (x:= .tmp t') e';rw[show a.tmps.getD t undef=v from h1,show a.tmps.getD t' undef=v' from h2];exact h
abbrev jo:= @TE.ret2
theorem TE.ret0{fn:Func}{post:Ending→List HP→Prop}(hr:fn.results=#[])(h:post (.returned (.tuple #[])) H):
 TE w0 F n (bodyPost P fn (jD post w0 F)) .ret [] L H:=λ_ _ f s m=>bodyPost_ret (results_none hr _ _ _) f.2.1 ⟨s,H,m,h⟩
abbrev dU:= @TE.ret0
theorem TE.end0{fn:Func}{post:Ending→List HP→Prop}(hr:fn.results=#[])(h:post (.returned (.tuple #[])) H):
 TE w0 F n (bodyPost P fn (jD post w0 F)) .normal [] L H:=λ_ _ f s m=>bodyPost_end (results_none hr _ _ _) f.2.1 ⟨s,H,m,h⟩
abbrev bw:= @TE.end0
theorem TE.panicked{fn:Func}{post:Ending→List HP→Prop}{c:List PanicEntry}(h:post (.panicked c) H):
 TE w0 F n (bodyPost P fn (jD post w0 F)) (.panic c) [] L H:=λ_ _ f s m=>⟨f.2.1,s,H,m,h⟩
abbrev aR:= @TE.panicked
def Want(n:Nat)(D:List Deferred)(ops:Array Oper)(o:Oper)(L:List (Nat×Value)):Prop:=∀a,Fr n D L a→Region.wanted o (yielded ops a.tmps)=true
theorem Want.plain{o:Oper}(h:o.guard=none):Want n D ops o L:=λ_ _=>by simp[Region.wanted,h]
abbrev ab:= @Want.plain
theorem Want.met{o:Oper}{j d:Nat}{b:Bool}(h:o.guard=some (j,b))(hd:(ops[j]?).bind (·.dst)=some d)(e:lk L d=some (.bool b)):Want n D ops o L:=λa f=>by
 simp[Region.wanted,h,yielded,hd,f.2.2 d _ e]
abbrev cd:= @Want.met
theorem TL.step{o:Oper}{l:List Oper}(hw:Want n D ops o L)(h: ∀a w,Fr n D L a→Same w0 w→Sat H F w→o.wp P a w (wpList P ops Q l) Q):TL P w0 F n ops Q (o::l) D L H:=λa w f s m=>by
 unfold wpList;rw[if_pos (hw a f)];exact .inl (h a w f s m)
abbrev mJ:= @TL.step
theorem TL.unmet{o:Oper}{l:List Oper}{j d:Nat}{b:Bool}(hg:o.guard=some (j, !b))(hd:(ops[j]?).bind (·.dst)=some d)(e:lk L d=some (.bool b)){d':Nat}(ho:o.dst=some d')(hn:d'<n)
 (h:TL P w0 F n ops Q l D ((d',undef)::L) H):TL P w0 F n ops Q (o::l) D L H:=λa w f s m=>by
 unfold wpList
 have:Region.wanted o (yielded ops a.tmps)=false:=by
  simp[Region.wanted,hg,yielded,hd,f.2.2 d _ e]
 rw[this,ho]
 simpa using h _ w (f.put hn undef) s m
abbrev qT:= @TL.unmet
theorem TL.unmetU{o:Oper}{l:List Oper}{j d:Nat}{b:Bool}(hg:o.guard=some (j,b))(hd:(ops[j]?).bind (·.dst)=some d)(e:lk L d=some undef){d':Nat}(ho:o.dst=some d')(hn:d'<n)
 (h:TL P w0 F n ops Q l D ((d',undef)::L) H):TL P w0 F n ops Q (o::l) D L H:=λa w f s m=>by
 unfold wpList
 have:Region.wanted o (yielded ops a.tmps)=false:=by
  simp[Region.wanted,hg,yielded,hd,f.2.2 d _ e,undef]
 rw[this,ho]
 simpa using h _ w (f.put hn undef) s m
theorem TL.valw{o:Oper}{l:List Oper}{d:Nat}{v:Value}{H':List HP}(hw:Want n D ops o L)(hd:o.dst=some d)(hn:d<n)
 (hr: ∀a w,Fr n D L a→Same w0 w→Sat H F w→∃w',(execOp a.eval o).run P w= .ok (.value v) w'∧Same w w'∧Sat H' F w')
 (h:TL P w0 F n ops Q l D ((d,v)::L) H'):TL P w0 F n ops Q (o::l) D L H:=
 mJ hw λa w f s m=>by
  obtain⟨w',r,s',m'⟩:=hr a w f s m;unfold Oper.wp;rw[r,Oper.upon_value,hd];exact h _ w' (f.put hn v) (s.trans s') m'
theorem TL.val{o:Oper}{l:List Oper}{d:Nat}{v:Value}(hw:Want n D ops o L)(hd:o.dst=some d)(hn:d<n)
 (hr: ∀a w,Fr n D L a→Sat H F w→(execOp a.eval o).run P w= .ok (.value v) w)
 (h:TL P w0 F n ops Q l D ((d,v)::L) H):TL P w0 F n ops Q (o::l) D L H:=
 TL.valw hw hd hn (λa w f _ m=>⟨w,hr a w f m,sF w,m⟩) h
theorem TL.eff{o:Oper}{l:List Oper}{H':List HP}(hw:Want n D ops o L)(hd:o.dst=none)
 (hr: ∀a w,Fr n D L a→Same w0 w→Sat H F w→∃w',(execOp a.eval o).run P w= .ok .skip w'∧Same w w'∧Sat H' F w')
 (h:TL P w0 F n ops Q l D L H'):TL P w0 F n ops Q (o::l) D L H:=
 mJ hw λa w f s m=>by
  obtain⟨w',r,s',m'⟩:=hr a w f s m;unfold Oper.wp;rw[r,Oper.upon_skip,hd];exact h _ w' f (s.trans s') m'
theorem TL.panic{o:Oper}{l:List Oper}{v:Value}{H':List HP}(hw:Want n D ops o L)
 (hr: ∀a w,Fr n D L a→Same w0 w→Sat H F w→∃w',(execOp a.eval o).run P w= .halt (.panic v) w'∧Same w w'∧Sat H' F w')
 (h:TE w0 F n Q (.panic [{v,recovered:=false}]) D L H'):TL P w0 F n ops Q (o::l) D L H:=
 mJ hw λa w f s m=>by
  obtain⟨w',r,s',m'⟩:=hr a w f s m;unfold Oper.wp;rw[r,Oper.upon_panic];exact h a w' f (s.trans s') m'
theorem TL.callw{o:Oper}{l:List Oper}{f:FuncId}{args:Array Value}{R:Hl→Prop}{A B:List HP}{post:Ending→List HP→Prop}(hw:Want n D ops o L)
 (hr: ∀a w,Fr n D L a→(execOp a.eval o).run P w= .ok (.enter f args) w)
 (sp:Does P f args R A post) (hp: ∀h,bz H h→bz (A++B) h) (hR: ∀g,Dj g F→bz B g→R (jn g F))
 (hret: ∀v H',post (.returned v) H'→∀a,Fr n D L a→∀w,Same w0 w→Sat (H'++B) F w→wpList P ops Q l (a.put o.dst v) w)
 (hpan: ∀c H',post (.panicked c) H'→TE w0 F n Q (.panic c) D L (H'++B))
 (hout: ∀H',¬post .outgrown H'):TL P w0 F n ops Q (o::l) D L H:=
 mJ hw λa w fr s m=>by
  unfold Oper.wp;rw[hr a w fr,Oper.upon_enter];obtain⟨g,d,b,m'⟩:=Sat.split (m.mono hp);refine(sp w _ (hR g d b) m').mono ?_
  rintro e w' ⟨s',H',m'',q⟩
  cases e with
  |returned v=>exact hret v H' q a fr w' (s.trans s') (m''.merge d b)
  |panicked c=>exact hpan c H' q a w' fr (s.trans s') (m''.merge d b)
  |outgrown=>exact(hout H' q).elim
end
def Bu(L:List (Nat×Value)):List Operand→Option (List Value)
 | []=>some []
 |x::xs=>match cK L x with
  |none=>none
  |some v=>match Bu L xs with
   |none=>none
   |some vs=>some (v::vs)
def KW(L:List (Nat×Value)):List (Nat×Operand)→Option (List (Nat×Value))
 | []=>some []
 |x::xs=>match cK L x.2 with
  |none=>none
  |some v=>match KW L xs with
   |none=>none
   |some vs=>some ((x.1,v)::vs)
theorem Fr.evl{n:Nat}{D:List Deferred}{L:List (Nat×Value)}{a:Act}(g:Fr n D L a): ∀(l:List Operand) (q:List Value),Bu L l=some q→l.map a.eval=q
 | [],q,e=>by simp[Bu]at e;simp[e]
 |x::xs,q,e=>by
  simp only[Bu]at e;split at e
  · cases e
  · rename_i v hv
    split at e
    · cases e
    · rename_i vs hvs
      cases e;simp[g.evl xs vs hvs,g.eval hv]
theorem Fr.evpl{n:Nat}{D:List Deferred}{L:List (Nat×Value)}{a:Act}(g:Fr n D L a): ∀(l:List (Nat×Operand)) (q:List (Nat×Value)),KW L l=some q→l.map (λp=>(p.1,a.eval p.2))=q
 | [],q,e=>by simp[KW]at e;simp[e]
 |x::xs,q,e=>by
  simp only[KW]at e;split at e
  · cases e
  · rename_i v hv
    split at e
    · cases e
    · rename_i vs hvs
      cases e;simp[g.evpl xs vs hvs,g.eval hv]
theorem Fr.evals{n:Nat}{D:List Deferred}{L:List (Nat×Value)}{a:Act}(g:Fr n D L a){xs:Array Operand}{vs:List Value}(hx:Bu L xs.toList=some vs):xs.map a.eval=vs.toArray:=by
 rw[←g.evl _ _ hx,←Array.toList_map]
theorem Fr.evparts{n:Nat}{D:List Deferred}{L:List (Nat×Value)}{a:Act}(g:Fr n D L a){xs:Array (Nat×Operand)}{vs:List (Nat×Value)}(hx:KW L xs.toList=some vs):(xs.map λx=>(x.1,a.eval x.2)).toList=vs:=by
 rw[Array.toList_map];exact g.evpl _ _ hx
section
variable {P:Program} {w:World}
def dR:TypeDesc→Bool
 | .struct _=>false
 | .array _ _=>false
 |_=>true
theorem nD{t:TypeId}{d:TypeDesc}(h:P.underlying t=some d):(isAgg t).run P w= .ok (!dR d) w:=by
 unfold isAgg;cases d<;>simp[run_underlying h,dR]
theorem zq{t:TypeId}{i:TypeInfo}(h:P.info? t=some i):(typeInfo t).run P w= .ok i w:=by simp[typeInfo,h]
theorem ey{t:TypeId}{s:Nat}(h:(P.info? t).map (·.size)=some s):(Go.sizeOf t).run P w= .ok s w:=by
 obtain⟨i,hi,hs⟩:=Option.map_eq_some_iff.1 h;simp[Go.sizeOf,zq hi,hs]
theorem oN{t:TypeId}{v:Value}(h:(P.info? t).map (·.zero)=some (some v)):(zeroValue t).run P w= .ok v w:=by
 obtain⟨i,hi,hs⟩:=Option.map_eq_some_iff.1 h;simp[zeroValue,zq hi,hs]
theorem oX{b j:Nat}{cs:List Value}{t:TypeId}{z:Nat×Nat}(h:w.heap[b]?=some (.cells cs.toArray t z)):w.cell? ⟨b,j,none⟩=cs[j]?:=by
 simp[World.cell?,h]
theorem sz(b o n:Nat):(⟨b,o,none⟩:Addr).add n=⟨b,o+n,none⟩:=Addr.add_mid b o n
theorem zp{t:TypeId}{d:TypeDesc}(h:P.underlying t=some d)(hp:dR d=true){a:Addr}{v:Value}(hc:w.cell? a=some v):(Instr.loadAt t (.pointer (some a))).run P w= .ok v w:=by
 simp[Instr.loadAt,Instr.sureAddr,loadVar,nD h,hp,load,Sem.run,hc]
theorem zo{t:TypeId}{d:TypeDesc}(h:P.underlying t=some d)(hp:dR d=false){b o m:Nat}(hm:(P.info? t).map (·.size)=some m){vs:List Value}(hl:vs.length=m)
 (hc: ∀j v,vs[j]?=some v→w.cell? ⟨b,o+j,none⟩=some v):(Instr.loadAt t (.pointer (some ⟨b,o,none⟩))).run P w= .ok (.agg vs.toArray) w:=by
 subst hl;have:=run_loadCells_list (P:=P) (w:=w) ⟨b,o,none⟩ vs (λj v e=>by rw[sz];exact hc j v e);simp[Instr.loadAt,Instr.sureAddr,loadVar,nD h,hp,ey hm,this]
end
theorem bK{x:Int}(h1: -9223372036854775808≤x)(h2:x≤9223372036854775807):IntKind.i64.wrap x=x:=IntWalk.i64_in x ⟨h1,h2⟩
theorem Ay{x:Int}(h1:0≤x)(h2:x≤255):IntKind.u8.wrap x=x:=by
 simp only[IntKind.wrap,IntKind.signed,IntKind.bits];simp;omega
theorem lc{x:Int}(h1:0≤x)(h2:x≤4294967295):IntKind.u32.wrap x=x:=by
 simp only[IntKind.wrap,IntKind.signed,IntKind.bits];simp;omega
theorem lb{a b:Nat}(h:Nat.blt a b=true):a<b:=by simpa [Nat.blt_eq]using h
theorem L5{a b:Nat}(h:Nat.ble a b=true):a≤b:=fh h
theorem lz{a b:Int}(h:decide (a≤b)=true):a≤b:=of_decide_eq_true h
theorem Sub.refl(L:List (Nat×Value)):Sub L L:=λ_ _ h=>h
abbrev dV:= @Sub.refl
def C3(H:List HP):List Nat→List HP
 | []=>H
 |i::is=>H.getD i (λ_=>True)::C3 (H.eraseIdx i) is
def LK:Nat→List Nat→Bool
 |_,[]=>true
 |m,i::is=>Nat.blt i m&&LK (m-1) is
theorem az: ∀(is:List Nat) {H:List HP} {h:Hl},LK H.length is=true→bz H h→bz (C3 H is) h
 | [],_,_,_,s=>s
 |i::is,H,h,k,s=>by
  simp only[LK,an]at k;have hi:=lb k.1;exact cF (fm i hi s) (λ_ x=>x) λ_ x=>az is (by rw[List.length_eraseIdx,if_pos hi];exact k.2) x
theorem C0: ∀(m:Nat) {H:List HP} {h:Hl},bz H h→bz (H.take m) h
 |0,_,_,_=>trivial
 |_+1,[],_,s=>s
 |m+1,_::_,_,s=>cF s (λ_ x=>x) λ_ x=>C0 m x
theorem ak(is:List Nat){H:List HP}{h:Hl}(k:LK H.length is=true)(s:bz H h):bz ((C3 H is).take is.length) h:=C0 _ (az is k s)
def dH(p:Value→List HP→Prop):Ending→List HP→Prop
 | .returned v,H=>p v H
 |_,_=>False
def vY(p:Value→List HP→Prop)(q:List PanicEntry→List HP→Prop):Ending→List HP→Prop
 | .returned v,H=>p v H
 | .panicked c,H=>q c H
 | .outgrown,_=>False
def Rd(S:World→Prop)(b:Nat)(o:Obj):Prop:=∀w,S w→w.heap[b]?=some o
theorem Rd.own{H:List HP}{F:Hl}{b:Nat}{o:Obj}(i:Nat)(hi:Nat.blt i H.length=true)(e:H.getD i (λ_=>True)=Bh b o):Rd (Sat H F) b o:=λ_ s=>s.block i (lb hi) e
abbrev fD:= @Rd.own
theorem Rd.ro{H:List HP}{F:Hl}{b:Nat}{o:Obj}(e:F b=some o):Rd (Sat H F) b o:=λ_ s=>s.frame e
def PV(P:Program)(n:Nat)(D:List Deferred)(L:List (Nat×Value))(S:World→Prop)(o:Oper)(v:Value):Prop:=
 ∀a w,Fr n D L a→S w→(execOp a.eval o).run P w= .ok (.value v) w
abbrev ah(b:Nat)(cs:List Value)(t:TypeId):HP:=Bh b (.cells cs.toArray t (0,0))
def wr(cs:List Value)(o:Nat)(vs:List Value):List Value:=cs.take o++vs++cs.drop (o+vs.length)
section
variable {P:Program} {w0:World} {F:Hl} {n:Nat} {ops:Array Oper} {Q:QQ} {D:List Deferred} {L:List (Nat×Value)} {H:List HP} {o:Oper} {l:List Oper} {d:Nat} {S:World→Prop}
theorem TL.v{v:Value}(hw:Want n D ops o L)(hd:o.dst=some d)(hn:Nat.blt d n=true)(h1:PV P n D L (Sat H F) o v)(h:TL P w0 F n ops Q l D ((d,v)::L) H):TL P w0 F n ops Q (o::l) D L H:=
 TL.val hw hd (lb hn) h1 h
abbrev ml:= @TL.v
theorem PV.move{x:Operand}{v:Value}(ho:o.op= .move x)(hx:cK L x=some v):PV P n D L S o (v):=
 λa w f _=>by simp[execOp,ho,f.eval hx]
abbrev kn:= @PV.move
theorem PV.assign{x:Operand}{v:Value}(ho:o.op= .assign x)(hx:cK L x=some v):PV P n D L S o (v):=
 λa w f _=>by simp[execOp,ho,f.eval hx]
abbrev Rn:= @PV.assign
theorem PV.pick{c x y:Operand}{b:Bool}{v:Value}(ho:o.op= .pick c x y)(hc:cK L c=some (.bool b))(hx:cK L (bif b then x else y)=some v):PV P n D L S o (v):=
 λa w f _=>by
  cases b
  · have:=f.eval hx;simp at this;simp[execOp,ho,f.eval hc,asBool,this]
  · have:=f.eval hx;simp at this;simp[execOp,ho,f.eval hc,asBool,this]
abbrev yV:= @PV.pick
theorem PV.bin{op:BinOp}{t t':TypeId}{x y:Operand}{u u' v:Value}(ho:o.op= .binOp op t x y t')(hx:cK L x=some u)(hy:cK L y=some u')
 (hr: ∀w,(do eqGuard op t x y u u';binOp op t u u':Sem Value).run P w= .ok v w):PV P n D L S o (v):=
 λa w f _=>by
  have:=hr w;simp only[execOp,ho,f.eval hx,f.eval hy,Sem.run_bind]at this ⊢;rw[this];simp
abbrev gT:= @PV.bin
theorem gi{op:BinOp}{t:TypeId}{x y:Operand}{k k':IntKind}{a b:Int}{w:World}:
 (do eqGuard op t x y (.int k a) (.int k' b);binOp op t (.int k a) (.int k' b):Sem Value).run P w=(binOp op t (.int k a) (.int k' b)).run P w:=by
 simp only[Sem.run_bind,eqGuard];split<;>simp
theorem PV.add{t t':TypeId}{x y:Operand}{k:IntKind}{a b r:Int}(ho:o.op= .binOp .add t x y t')(hx:cK L x=some (.int k a))(hy:cK L y=some (.int k b))(hr:k.wrap (a+b)=r):PV P n D L S o (.int k r):=
 gT ho hx hy (λw=>by rw[gi];subst hr;simp[binOp,Op.intArith])
abbrev cB:= @PV.add
theorem PV.sub{t t':TypeId}{x y:Operand}{k:IntKind}{a b r:Int}(ho:o.op= .binOp .sub t x y t')(hx:cK L x=some (.int k a))(hy:cK L y=some (.int k b))(hr:k.wrap (a-b)=r):PV P n D L S o (.int k r):=
 gT ho hx hy (λw=>by rw[gi];subst hr;simp[binOp,Op.intArith])
abbrev j8:= @PV.sub
theorem PV.mul{t t':TypeId}{x y:Operand}{k:IntKind}{a b r:Int}(ho:o.op= .binOp .mul t x y t')(hx:cK L x=some (.int k a))(hy:cK L y=some (.int k b))(hr:k.wrap (a*b)=r):PV P n D L S o (.int k r):=
 gT ho hx hy (λw=>by rw[gi];subst hr;simp[binOp,Op.intArith])
abbrev My:= @PV.mul
theorem PV.quo{t t':TypeId}{x y:Operand}{k:IntKind}{a b r:Int}(ho:o.op= .binOp .quo t x y t')(hx:cK L x=some (.int k a))(hy:cK L y=some (.int k b))(hb:b≠0)(hr:k.wrap (a.tdiv b)=r):PV P n D L S o (.int k r):=
 gT ho hx hy (λw=>by rw[gi];subst hr;simp[binOp,Op.intDiv,hb])
theorem PV.rem{t t':TypeId}{x y:Operand}{k:IntKind}{a b r:Int}(ho:o.op= .binOp .rem t x y t')(hx:cK L x=some (.int k a))(hy:cK L y=some (.int k b))(hb:b≠0)(hr:a.tmod b=r):PV P n D L S o (.int k r):=
 gT ho hx hy (λw=>by rw[gi];subst hr;simp[binOp,Op.intDiv,hb])
def tS(k:IntKind)(a b:Int):Int:=k.wrap (BitVec.ofInt k.bits a&&& BitVec.ofInt k.bits b).toNat
def iP(k:IntKind)(a b:Int):Int:=k.wrap (BitVec.ofInt k.bits a|||BitVec.ofInt k.bits b).toNat
def qg(k:IntKind)(a b:Int):Int:=k.wrap (BitVec.ofInt k.bits a^^^BitVec.ofInt k.bits b).toNat
def nb(k:IntKind)(a b:Int):Int:=k.wrap (BitVec.ofInt k.bits a&&& ~~~BitVec.ofInt k.bits b).toNat
theorem PV.and{t t':TypeId}{x y:Operand}{k:IntKind}{a b r:Int}(ho:o.op= .binOp .and t x y t')(hx:cK L x=some (.int k a))(hy:cK L y=some (.int k b))(hr:tS k a b=r):PV P n D L S o (.int k r):=
 gT ho hx hy (λw=>by rw[gi];subst hr;simp[binOp,Op.intBits,tS])
abbrev o5:= @PV.and
theorem PV.or{t t':TypeId}{x y:Operand}{k:IntKind}{a b r:Int}(ho:o.op= .binOp .or t x y t')(hx:cK L x=some (.int k a))(hy:cK L y=some (.int k b))(hr:iP k a b=r):PV P n D L S o (.int k r):=
 gT ho hx hy (λw=>by rw[gi];subst hr;simp[binOp,Op.intBits,iP])
abbrev KM:= @PV.or
theorem PV.xor{t t':TypeId}{x y:Operand}{k:IntKind}{a b r:Int}(ho:o.op= .binOp .xor t x y t')(hx:cK L x=some (.int k a))(hy:cK L y=some (.int k b))(hr:qg k a b=r):PV P n D L S o (.int k r):=
 gT ho hx hy (λw=>by rw[gi];subst hr;simp[binOp,Op.intBits,qg])
theorem PV.shl{t t':TypeId}{x y:Operand}{k k':IntKind}{a b r:Int}(ho:o.op= .binOp .shl t x y t')(hx:cK L x=some (.int k a))(hy:cK L y=some (.int k' b))(hb:0≤b)(hr:k.wrap (a*2^min b.toNat k.bits)=r):PV P n D L S o (.int k r):=
 gT ho hx hy (λw=>by rw[gi];subst hr;simp[binOp,Op.shift,show ¬b<0 by omega])
abbrev yU:= @PV.shl
theorem PV.shr{t t':TypeId}{x y:Operand}{k k':IntKind}{a b r:Int}(ho:o.op= .binOp .shr t x y t')(hx:cK L x=some (.int k a))(hy:cK L y=some (.int k' b))(hb:0≤b)(hr:a.fdiv (2^min b.toNat k.bits)=r):PV P n D L S o (.int k r):=
 gT ho hx hy (λw=>by rw[gi];subst hr;simp[binOp,Op.shift,show ¬b<0 by omega])
abbrev mp:= @PV.shr
theorem PV.lss{t t':TypeId}{x y:Operand}{k:IntKind}{a b:Int}(ho:o.op= .binOp .lss t x y t')(hx:cK L x=some (.int k a))(hy:cK L y=some (.int k b)):PV P n D L S o (.bool (decide (a<b))):=
 gT ho hx hy (λw=>by rw[gi];simp[binOp,Op.intCmp])
theorem PV.leq{t t':TypeId}{x y:Operand}{k:IntKind}{a b:Int}(ho:o.op= .binOp .leq t x y t')(hx:cK L x=some (.int k a))(hy:cK L y=some (.int k b)):PV P n D L S o (.bool (decide (a≤b))):=
 gT ho hx hy (λw=>by rw[gi];simp[binOp,Op.intCmp])
theorem PV.gtr{t t':TypeId}{x y:Operand}{k:IntKind}{a b:Int}(ho:o.op= .binOp .gtr t x y t')(hx:cK L x=some (.int k a))(hy:cK L y=some (.int k b)):PV P n D L S o (.bool (decide (b<a))):=
 gT ho hx hy (λw=>by rw[gi];simp[binOp,Op.intCmp])
theorem PV.geq{t t':TypeId}{x y:Operand}{k:IntKind}{a b:Int}(ho:o.op= .binOp .geq t x y t')(hx:cK L x=some (.int k a))(hy:cK L y=some (.int k b)):PV P n D L S o (.bool (decide (b≤a))):=
 gT ho hx hy (λw=>by rw[gi];simp[binOp,Op.intCmp])
theorem PV.eql{t t':TypeId}{x y:Operand}{k:IntKind}{a b:Int}(ho:o.op= .binOp .eql t x y t')(hx:cK L x=some (.int k a))(hy:cK L y=some (.int k b)):PV P n D L S o (.bool (decide (a=b))):=
 gT ho hx hy (λw=>by rw[gi];simp[binOp,Op.intCmp];by_cases q:a=b<;>simp[q])
abbrev PF:= @PV.eql
theorem PV.neq{t t':TypeId}{x y:Operand}{k:IntKind}{a b:Int}(ho:o.op= .binOp .neq t x y t')(hx:cK L x=some (.int k a))(hy:cK L y=some (.int k b)):PV P n D L S o (.bool (decide (a≠b))):=
 gT ho hx hy (λw=>by rw[gi];simp[binOp,Op.intCmp];by_cases q:a=b<;>simp[q])
theorem PV.not{t:TypeId}{x:Operand}{b r:Bool}(ho:o.op= .unOp .not t x)(hx:cK L x=some (.bool b))(hr:(!b)=r):PV P n D L S o (.bool r):=
 λa w f _=>by subst hr;simp[execOp,ho,f.eval hx,Op.unary]
abbrev nc:= @PV.not
theorem PV.com{t:TypeId}{x:Operand}{k:IntKind}{a r:Int}(ho:o.op= .unOp .xor t x)(hx:cK L x=some (.int k a))(hr:qg k (if k.signed then-1 else k.max) a=r):PV P n D L S o (.int k r):=
 λa w f _=>by subst hr;simp[execOp,ho,f.eval hx,Op.unary,Op.intBits,qg]
theorem PV.convI{s t:TypeId}{x:Operand}{ds:TypeDesc}{k k':IntKind}{a r:Int}(ho:o.op= .convert s t x)(hs:P.underlying s=some ds)(ht:P.underlying t=some (.int k))
 (hx:cK L x=some (.int k' a)) (hr:k.wrap a=r):PV P n D L S o (.int k r):=
 λb w f _=>by
  subst hr;simp[execOp,ho,f.eval hx,convert,run_underlying hs,run_underlying ht,Conv.intToInt]
abbrev eL:= @PV.convI
theorem TL.dec{p:Prop}[Decidable p](ht:p→TL P w0 F n ops Q l D ((d, .bool true)::L) H)(hf: ¬p→TL P w0 F n ops Q l D ((d, .bool false)::L) H):TL P w0 F n ops Q l D ((d, .bool (decide p))::L) H:=by
 by_cases q:p
 · rw[decide_eq_true q];exact ht q
 · rw[decide_eq_false q];exact hf q
abbrev ap:= @TL.dec
theorem TL.decB{b:Bool}(ht:b=true→TL P w0 F n ops Q l D ((d, .bool true)::L) H)(hf:b=false→TL P w0 F n ops Q l D ((d, .bool false)::L) H):TL P w0 F n ops Q l D ((d, .bool b)::L) H:=by
 cases b
 · exact hf rfl
 · exact ht rfl
abbrev bb:= @TL.decB
theorem PV.nilCheck{x:Operand}{a:Addr}(ho:o.op= .nilCheck x)(hx:cK L x=some (.pointer (some a))):PV P n D L S o (.pointer (some a)):=
 λb w f _=>by simp[execOp,ho,f.eval hx]
abbrev gR:= @PV.nilCheck
theorem TL.alloc{t:TypeId}{z:Value}(hw:Want n D ops o L)(ho:o.op= .alloc t)(hd:o.dst=some d)(hn:Nat.blt d n=true)(hz:(P.info? t).map (·.zero)=some (some z))
 (h: ∀b,TL P w0 F n ops Q l D ((d, .pointer (some ⟨b,0,none⟩))::L) (Bh b (.cells z.cells t)::H)):TL P w0 F n ops Q (o::l) D L H:=
 mJ hw λa w f s m=>by
  unfold Oper.wp
  have r:(execOp a.eval o).run P w= .ok (.value (.pointer (some ⟨w.heap.size,0,none⟩))) (w.alloc (.cells z.cells t)):=by
   simp[execOp,ho,Instr.alloc,oN hz,newVar,newRow,newObj,Sem.run]
  rw[r,Oper.upon_value,hd];exact h _ _ _ (f.put (lb hn) _) (s.trans ⟨rfl,rfl,rfl,by simp⟩) (m.alloc _)
abbrev qU:= @TL.alloc
theorem TL.box{t:TypeId}{x:Operand}{v:Value}(hw:Want n D ops o L)(ho:o.op= .box t x)(hd:o.dst=some d)(hn:Nat.blt d n=true)(hx:cK L x=some v)
 (h: ∀b,TL P w0 F n ops Q l D ((d, .pointer (some ⟨b,0,none⟩))::L) (Bh b (.cells v.cells t)::H)):TL P w0 F n ops Q (o::l) D L H:=
 mJ hw λa w f s m=>by
  unfold Oper.wp
  have r:(execOp a.eval o).run P w= .ok (.value (.pointer (some ⟨w.heap.size,0,none⟩))) (w.alloc (.cells v.cells t)):=by
   simp[execOp,ho,f.eval hx,Instr.box,newVar,newRow,newObj,Sem.run]
  rw[r,Oper.upon_value,hd];exact h _ _ _ (f.put (lb hn) _) (s.trans ⟨rfl,rfl,rfl,by simp⟩) (m.alloc _)
theorem PV.load1{t e:TypeId}{x:Operand}{dt:TypeDesc}{b j:Nat}{cs:List Value}{z:Nat×Nat}{v:Value}(ho:o.op= .load t x) 
 (ht:P.underlying t=some dt) (hp:dR dt=true) (hx:cK L x=some (.pointer (some ⟨b,j,none⟩))) (hR:Rd S b (.cells cs.toArray e z)) (hc:cs[j]?=some v):PV P n D L S o (v):=
 λa w f m=>by
  simp[execOp,ho,f.eval hx,zp ht hp (show w.cell? ⟨b,j,none⟩=some v by rw[oX (hR w m)];exact hc)]
abbrev ii:= @PV.load1
theorem PV.loadN{t e:TypeId}{x:Operand}{dt:TypeDesc}{b j m:Nat}{cs vs:List Value}{z:Nat×Nat}(ho:o.op= .load t x) 
 (ht:P.underlying t=some dt) (hp:dR dt=false) (hm:(P.info? t).map (·.size)=some m) (hx:cK L x=some (.pointer (some ⟨b,j,none⟩))) (hR:Rd S b (.cells cs.toArray e z))
 (hl:vs.length=m) (hc:(cs.drop j).take m=vs):PV P n D L S o (.agg vs.toArray):=
 λa w f s=>by
  have:=zo (P:=P) (w:=w) ht hp (b:=b) (o:=j) hm hl (λi v e=>by
   rw[oX (hR w s)];subst hc;rw[List.getElem?_take]at e;split at e
   · simpa using e
   · cases e)
  simp[execOp,ho,f.eval hx,this]
abbrev aM:= @PV.loadN
theorem xa{w:World}{t e:TypeId}{b j:Nat}{cs:List Value}{v:Value}{vs:List Value}(hv:v.cells=vs.toArray)(hs:(P.info? t).map (·.size)=some vs.length)(h1: ∀u∈vs,u.oneCell'=true)
 (hb:w.heap[b]?=some (.cells cs.toArray e (0,0))) (hl:j+vs.length≤cs.length):
 (Instr.storeAt t (.pointer (some ⟨b,j,none⟩)) v).run P w= .ok () (w.setRow b (wr cs j vs).toArray):=by
 have:=run_storeCells_at P b j e vs 0 cs.toArray w hb (by simpa using hl) h1;simp only[KO]at this;simp[Instr.storeAt,Instr.sureAddr,storeVar,ey hs,hv,this,wr]
theorem TL.store{H':List HP}{t e:TypeId}{x y:Operand}{b j i:Nat}{cs cs':List Value}{v:Value}{vs:List Value}(hw:Want n D ops o L)(ho:o.op= .store t x y)(hd:o.dst=none)
 (hx:cK L x=some (.pointer (some ⟨b,j,none⟩))) (hy:cK L y=some v) (hv:v.cells=vs.toArray) (hs:(P.info? t).map (·.size)=some vs.length) (h1: ∀u∈vs,u.oneCell'=true)
 (hi:Nat.blt i H.length=true) (hH:H.getD i (λ_=>True)=ah b cs e) (hl:j+vs.length≤cs.length) (hcs:wr cs j vs=cs') (hH':H.set i (ah b cs' e)=H')
 (h:TL P w0 F n ops Q l D L H'):TL P w0 F n ops Q (o::l) D L H:=
 TL.eff hw hd (λa w f _ m=>by
  have hb:=m.block i (lb hi) hH;refine⟨w.setRow b (wr cs j vs).toArray,by simp[execOp,ho,f.eval hx,f.eval hy,xa hv hs h1 hb hl],⟨rfl,rfl,rfl,by simp⟩,?_⟩;subst hcs;subst hH'
  exact m.write i (lb hi) hH (setRow_heap w b cs.toArray _ e _ hb) (λk hk=>setRow_other w b k _ hk)) h
abbrev bL:= @TL.store
theorem TL.store1{H':List HP}{t e:TypeId}{x y:Operand}{b j i:Nat}{cs cs':List Value}{v:Value}(hw:Want n D ops o L)(ho:o.op= .store t x y)(hd:o.dst=none)
 (hx:cK L x=some (.pointer (some ⟨b,j,none⟩))) (hy:cK L y=some v) (h1:v.oneCell'=true) (hs:(P.info? t).map (·.size)=some 1)
 (hi:Nat.blt i H.length=true) (hH:H.getD i (λ_=>True)=ah b cs e) (hl:j<cs.length) (hcs:cs.set j v=cs') (hH':H.set i (ah b cs' e)=H')
 (h:TL P w0 F n ops Q l D L H'):TL P w0 F n ops Q (o::l) D L H:=
 bL (vs:=[v]) hw ho hd hx hy (by cases v<;>simp[Value.cells,Value.oneCell']at h1 ⊢) hs (by simpa using h1) hi hH (by simp;omega)
  (by rw[←hcs,wr,oC,if_pos hl];simp) hH' h
abbrev bO:= @TL.store1
theorem DQ{w:World}{b j:Nat}{f:Field}{m:Nat}(hs:(P.info? f.type).map (·.size)=some (m+1)):(fieldPlace ⟨b,j,none⟩ f).run P w= .ok ⟨b,j+f.offset,none⟩ w:=by
 simp[fieldPlace,ey hs,sz]
theorem PV.fieldAddr{t:TypeId}{x:Operand}{i b j r m:Nat}{fs:Array Field}{f:Field}(ho:o.op= .fieldAddr t x i)(ht:P.underlying t=some (.struct fs))(hf:fs[i]?=some f)
 (hs:(P.info? f.type).map (·.size)=some (m+1)) (hx:cK L x=some (.pointer (some ⟨b,j,none⟩))) (hr:j+f.offset=r):PV P n D L S o (.pointer (some ⟨b,r,none⟩)):=
 λa w g _=>by
  subst hr;simp[execOp,ho,g.eval hx,Instr.fieldAt,run_underlying ht,hf,Instr.sureAddr,DQ hs]
abbrev bc:= @PV.fieldAddr
theorem PV.indexArr{t e:TypeId}{x y:Operand}{b j len s r:Nat}{k:IntKind}{i:Int}(ho:o.op= .indexAddr t x y)(ht:P.underlying t=some (.array len e))
 (hs:(P.info? e).map (·.size)=some s) (hx:cK L x=some (.pointer (some ⟨b,j,none⟩))) (hy:cK L y=some (.int k i)) (h0:0≤i) (h1:i<len) (hr:j+i.toNat*s=r):PV P n D L S o (.pointer (some ⟨b,r,none⟩)):=
 λa w g _=>by
  subst hr;simp[execOp,ho,g.eval hx,g.eval hy,Instr.indexAt,asIntOf,run_underlying ht,Instr.sureAddr,h0,h1,ey hs,sz]
abbrev oo:= @PV.indexArr
theorem PV.indexSl{t e:TypeId}{x y:Operand}{b j len cap s r:Nat}{k:IntKind}{i:Int}(ho:o.op= .indexAddr t x y)(ht:P.underlying t=some (.slice e))
 (hs:(P.info? e).map (·.size)=some s) (hx:cK L x=some (.slice (some ⟨b,j,none⟩) len cap)) (hy:cK L y=some (.int k i)) (h0:0≤i) (h1:i<len) (hr:j+i.toNat*s=r):PV P n D L S o (.pointer (some ⟨b,r,none⟩)):=
 λa w g _=>by
  subst hr;simp[execOp,ho,g.eval hx,g.eval hy,Instr.indexAt,asIntOf,run_underlying ht,h0,h1,ey hs,sz]
abbrev j9:= @PV.indexSl
theorem PV.lenSl{t:TypeId}{e:TypeId}{x:Operand}{a:Option Addr}{len cap:Nat}(ho:o.op= .call {callee:= .builtin .len,args:=#[x],argTypes:=#[t]})(ht:P.underlying t=some (.slice e))
 (hx:cK L x=some (.slice a len cap)):PV P n D L S o (.int .i64 len):=
 λb w g _=>by
  simp[execOp,ho,resolve,g.eval hx,invoke,builtin,Builtin.len_,run_underlying ht,goInt]
abbrev tV:= @PV.lenSl
theorem PV.build{t:TypeId}{parts:Array (Nat×Operand)}{ps:List (Nat×Value)}{cells:Array Value}(ho:o.op= .build t parts) 
 (hx:KW L parts.toList=some ps) (hb:P.built t ps=some cells):PV P n D L S o (.agg cells):=
 λa w f _=>by
  have e:(parts.map λx=>(x.1,a.eval x.2)).toList=ps:=f.evparts hx;have:=run_build (P:=P) w t (parts.map λx=>(x.1,a.eval x.2)) cells (by rw[e];exact hb);simp[execOp,ho,this]
abbrev kF:= @PV.build
theorem Ap{v:Value}(h:v.oneCell'=true):v.cells=#[v]:=by cases v<;>simp[Value.cells,Value.oneCell']at h ⊢
theorem PV.mkIface{t:TypeId}{x:Operand}{v:Value}{dt:TypeDesc}(ho:o.op= .makeInterface t x)(ht:P.underlying t=some dt)(hc:(match dt with| .interface _=>false|_=>true)=true)(hx:cK L x=some v):PV P n D L S o (.iface t v):=
 λa w f _=>by
  cases dt<;>simp_all [execOp,f.eval hx,Instr.makeInterface,run_underlying ht]
abbrev p8:= @PV.mkIface
theorem TL.panicOp{x:Operand}{t:TypeId}{v:Value}(hw:Want n D ops o L)(ho:o.op= .panic x)(hx:cK L x=some (.iface t v))
 (h:TE w0 F n Q (.panic [{v:= .iface t v,recovered:=false}]) D L H):TL P w0 F n ops Q (o::l) D L H:=
 TL.panic hw (λa w f _ m=>⟨w,by simp[execOp,ho,f.eval hx,Instr.panic,goPanic],sF w,m⟩) h
abbrev IT:= @TL.panicOp
def Ak(a:Addr)(c k:Nat):Addr:=if c=k then a else a.add k
theorem PV.mkFunc{f:Fn}{xs:Array Operand}{vs:List Value}(ho:o.op= .makeFunc f #[] xs)(hx:Bu L xs.toList=some vs):PV P n D L S o (.func f #[] vs.toArray):=λa w g _=>by
 have e:xs.map a.eval=vs.toArray:=g.evals hx;simp[execOp,ho,Instr.makeFunc,e]
abbrev Rj:= @PV.mkFunc
theorem PV.sliceLo{t e:TypeId}{x y:Operand}{a:Addr}{len cap k:Nat}{kk:IntKind}{v:Value}{i:Int}(ho:o.op= .slice t x (some y) none none)(ht:P.underlying t=some (.slice e))
 (hs:(P.info? e).map (·.size)=some 1) (hx:cK L x=some (.slice (some a) len cap)) (hy:cK L y=some (.int kk i)) (hk:i=(k:Int)) (h1:k≤len) (hv: .slice (some (Ak a cap k)) (len-k) (cap-k)=v):PV P n D L S o (v):=
 λb w g _=>by
  subst hk;subst hv;simp only[execOp,ho,g.eval hx,Option.map_some,Option.map_none,g.eval hy]
  by_cases q:cap=k
  · simp[Instr.sliceAt,Instr.slice,run_underlying ht,Instr.sliceBounds,Instr.sliceBound,asIntOf,h1,ey hs,Ak,q]
  · simp[Instr.sliceAt,Instr.slice,run_underlying ht,Instr.sliceBounds,Instr.sliceBound,asIntOf,h1,ey hs,Ak,q]
def Named (P : Program) (f : FuncId) : Prop := ∃ fn, P.funcs[f]? = some fn ∧ (fn.name == "runtime.NumGoroutine") = false ∧ fn.body.isNone = false
theorem mY{f:FuncId}(hf:Named P f)(args:Array Value)(w:World):(callFunc f args).run P w= .ok (.enter f args) w:=by
 obtain ⟨fn, h1, h2, h3⟩ := hf;have h2' : fn.name ≠ "runtime.NumGoroutine" := by simpa using h2
 have h3':fn.body≠none:=by intro q;rw[q]at h3;cases h3
 simp[callFunc,h1,h2',h3']
theorem TL.call{f:FuncId}{xs:Array Operand}{ts:Array TypeId}{vs:List Value}{R:Hl→Prop}{A B:List HP}{post:Ending→List HP→Prop}(hw:Want n D ops o L)
 (ho:o.op= .call {callee:= .value (.func f),args:=xs,argTypes:=ts}) (hd:o.dst=some d) (hn:Nat.blt d n=true) (hf:Named P f) (hx:Bu L xs.toList=some vs)
 (sp:Does P f vs.toArray R A post) (hp: ∀h,bz H h→bz (A++B) h) (hR: ∀g,Dj g F→bz B g→R (jn g F))
 (hout: ∀H',¬post .outgrown H')
 (hpan: ∀c H',post (.panicked c) H'→TE w0 F n Q (.panic c) D L (H'++B))
 (hret: ∀v H',post (.returned v) H'→TL P w0 F n ops Q l D ((d,v)::L) (H'++B)):TL P w0 F n ops Q (o::l) D L H:=
 TL.callw hw (λa w g=>by
  have e:xs.map a.eval=vs.toArray:=g.evals hx
  simp[execOp,ho,resolve,Act.eval,Deferred.ofValue,invoke,e,mY hf])
  sp hp hR (λv H' q a g w s m=>by rw[hd];exact hret v H' q _ w (g.put (lb hn) v) s m) hpan hout
theorem TL.callR{f:FuncId}{xs:Array Operand}{ts:Array TypeId}{vs:List Value}{R:Hl→Prop}{A B:List HP}{p:Value→List HP→Prop}(hw:Want n D ops o L)
 (ho:o.op= .call {callee:= .value (.func f),args:=xs,argTypes:=ts}) (hd:o.dst=some d) (hn:Nat.blt d n=true) (hf:Named P f) (hx:Bu L xs.toList=some vs)
 (sp:Does P f vs.toArray R A (dH p)) (hp: ∀h,bz H h→bz (A++B) h) (hR: ∀g,Dj g F→bz B g→R (jn g F))
 (hret: ∀v H',p v H'→TL P w0 F n ops Q l D ((d,v)::L) (H'++B)):TL P w0 F n ops Q (o::l) D L H:=
 TL.call hw ho hd hn hf hx sp hp hR (λ_ h=>h) (λ_ _ h=>h.elim) hret
abbrev lC:= @TL.callR
theorem TL.callP{f:FuncId}{xs:Array Operand}{ts:Array TypeId}{vs:List Value}{R:Hl→Prop}{A B:List HP}{p:Value→List HP→Prop}{q:List PanicEntry→List HP→Prop}(hw:Want n D ops o L)
 (ho:o.op= .call {callee:= .value (.func f),args:=xs,argTypes:=ts}) (hd:o.dst=some d) (hn:Nat.blt d n=true) (hf:Named P f) (hx:Bu L xs.toList=some vs)
 (sp:Does P f vs.toArray R A (vY p q)) (hp: ∀h,bz H h→bz (A++B) h) (hR: ∀g,Dj g F→bz B g→R (jn g F))
 (hpan: ∀c H',q c H'→TE w0 F n Q (.panic c) D L (H'++B))
 (hret: ∀v H',p v H'→TL P w0 F n ops Q l D ((d,v)::L) (H'++B)):TL P w0 F n ops Q (o::l) D L H:=
 TL.call hw ho hd hn hf hx sp hp hR (λ_ h=>h) hpan hret
theorem tj(i:Nat){b:Nat}{o:Obj}{B:List HP}(hi:Nat.blt i B.length=true)(e:B.getD i (λ_=>True)=Bh b o): ∀g,Dj g F→bz B g→jn g F b=some o:=λ_ _ s=>by
 obtain⟨h1,h2,_,rfl,a,_⟩:=fm i (lb hi) s;rw[e]at a;exact iA (iA (by rw[a];simp[sg]))
end
variable {P:Program} {w0:World} {F:Hl} {n:Nat} {ops:Array Oper} {Q:QQ} {D:List Deferred} {L:List (Nat×Value)} {H:List HP} {d:Nat} {o:Oper} {l:List Oper}
theorem tp{o:Oper}{l:List Oper}{d:Nat}{v:Value}(h1:PV P n D L (Sat H F) o v)(h:TL P w0 F n ops Q l D ((d,v)::L) H)(hg:o.guard=none:=by exact rfl)(hd:o.dst=some d:=by exact rfl)(hn:Nat.blt d n=true:=by exact rfl):TL P w0 F n ops Q (o::l) D L H:=ml (ab hg) hd hn h1 h
theorem tq{o:Oper}{l:List Oper}{d j d':Nat}{b:Bool}{v:Value}(h1:PV P n D L (Sat H F) o v)(h:TL P w0 F n ops Q l D ((d,v)::L) H)(hg:o.guard=some (j,b):=by exact rfl)(hj:(ops[j]?).bind (·.dst)=some d':=by exact rfl)(e:lk L d'=some (.bool b):=by exact rfl)(hd:o.dst=some d:=by exact rfl)(hn:Nat.blt d n=true:=by exact rfl):TL P w0 F n ops Q (o::l) D L H:=ml (cd hg hj e) hd hn h1 h
theorem nx{y:Code}{K:Act→World→Prop}(hK:KS P y Q K)(h:TC P w0 F n y Q D L H):TL P w0 F n ops (Exit.then K Q) [] D L H:=aw (ac hK h)
theorem sr{y:Code}{id:Nat}{l:List Oper}(h: ∀K,KS P y Q K→TL P w0 F n l.toArray (Exit.then K Q) l D L H):TC P w0 F n ((Code.region id l.toArray false).seq y) Q D L H:=aa λK hK=>ad (h K hK)
theorem mv{o:Oper}{l:List Oper}{d:Nat}{x:Operand}{v:Value}(h:TL P w0 F n ops Q l D ((d,v)::L) H)(hg:o.guard=none:=by exact rfl)(hd:o.dst=some d:=by exact rfl)(hn:Nat.blt d n=true:=by exact rfl)(ho:o.op= .move x:=by exact rfl)(hx:cK L x=some v:=by exact rfl):TL P w0 F n ops Q (o::l) D L H:=ml (ab hg) hd hn (kn ho hx) h
theorem qb{o:Oper}{l:List Oper}{d:Nat}{x:Operand}{v:Value}(h:TL P w0 F n ops Q l D ((d,v)::L) H)(hg:o.guard=none:=by exact rfl)(hd:o.dst=some d:=by exact rfl)(hn:Nat.blt d n=true:=by exact rfl)(ho:o.op= .assign x:=by exact rfl)(hx:cK L x=some v:=by exact rfl):TL P w0 F n ops Q (o::l) D L H:=ml (ab hg) hd hn (Rn ho hx) h
end Leg
end

section
namespace Leg
open Go
section
variable {P:Program} {w0:World} {F:Hl} {n:Nat} {ops:Array Oper} {Q:QQ} {D:List Deferred} {L:List (Nat×Value)} {H:List HP} {S:World→Prop}
def TD(P:Program)(w0:World)(F:Hl)(n:Nat)(ops:Array Oper)(Q:QQ)(S:World→Prop)(fuel:Nat)(listed:Array Bool)(D:List Deferred)(L:List (Nat×Value))(H:List HP):Prop:=
 ∀a w,Fr n D L a→Same w0 w→Sat H F w→S w→wpAnyH P .any ops Q S fuel listed a w
theorem TC.draw{id m:Nat}{l:List Oper}(S:World→Prop)(hm:P.follows .mixedOrders=true)(hl:l.toArray.size=m)(hS: ∀w,Sat H F w→S w)
 (h:TD P w0 F n l.toArray Q S m (Array.replicate m false) D L H):TC P w0 F n (.region id l.toArray true) Q D L H:=λa w f s t=>by
 subst hl;exact wp_region_held hm (h a w.drew f (s.trans ⟨rfl,rfl,rfl,aH _⟩) t.drew (hS _ t.drew))
abbrev oZ:= @TC.draw
theorem TD.take{i d fuel:Nat}{listed:Array Bool}{o:Oper}{v:Value}(hi:ops[i]?=some o)(hs:Region.noSelect ops=true)(hf:Region.free .any ops listed i=true)(hr:(Region.ready .any ops listed).contains i=true)
 (hQ: ∀c a v w,Q (.panic c) (a.put o.dst v) w→Q (.panic c) a w) (hw:Want n D ops o L) (hd:o.dst=some d) (hn:Nat.blt d n=true) (h1:PV P n D L S o v)
 (h:TD P w0 F n ops Q S fuel (listed.setIfInBounds i true) D ((d,v)::L) H):TD P w0 F n ops Q S (fuel+1) listed D L H:=λa w f s t hS=>by
 refine wpAnyH_take (v:=v) hi hs hf hr (λc a w=>hQ c a v w) (.inl ⟨hw a f,λw' q=>h1 a w' f q⟩) hS ?_;rw[hd];exact h _ w (f.put (lb hn) v) s t hS
abbrev KJ:= @TD.take
theorem TD.takeNot{i d fuel j e:Nat}{b:Bool}{listed:Array Bool}{o:Oper}(hi:ops[i]?=some o)(hs:Region.noSelect ops=true)(hf:Region.free .any ops listed i=true)(hr:(Region.ready .any ops listed).contains i=true)
 (hQ: ∀c a v w,Q (.panic c) (a.put o.dst v) w→Q (.panic c) a w) (hg:o.guard=some (j, !b)) (hj:(ops[j]?).bind (·.dst)=some e) (he:lk L e=some (.bool b)) (hd:o.dst=some d) (hn:Nat.blt d n=true)
 (h:TD P w0 F n ops Q S fuel (listed.setIfInBounds i true) D ((d,undef)::L) H):TD P w0 F n ops Q S (fuel+1) listed D L H:=λa w f s t hS=>by
 refine wpAnyH_take (v:=undef) hi hs hf hr (λc a w=>hQ c a undef w) (.inr ⟨?_,rfl⟩) hS ?_
 · simp[Region.wanted,hg,yielded,hj,f.2.2 e _ he]
 rw[hd];exact h _ w (f.put (lb hn) _) s t hS
theorem TD.done{fuel:Nat}{listed:Array Bool}(hr:Region.ready .any ops listed=[])(h:TE w0 F n Q .normal D L H):TD P w0 F n ops Q S fuel listed D L H:=
 λa w f s t _=>wpAnyH_done hr (h a w f s t) fuel
theorem TD.dec{fuel d:Nat}{listed:Array Bool}{p:Prop}[Decidable p](ht:p→TD P w0 F n ops Q S fuel listed D ((d, .bool true)::L) H)(hf: ¬p→TD P w0 F n ops Q S fuel listed D ((d, .bool false)::L) H):TD P w0 F n ops Q S fuel listed D ((d, .bool (decide p))::L) H:=by
 by_cases q:p
 · rw[decide_eq_true q];exact ht q
 · rw[decide_eq_false q];exact hf q
abbrev gS:= @TD.dec
theorem TD.decB{fuel d:Nat}{listed:Array Bool}{b:Bool}(ht:b=true→TD P w0 F n ops Q S fuel listed D ((d, .bool true)::L) H)(hf:b=false→TD P w0 F n ops Q S fuel listed D ((d, .bool false)::L) H):TD P w0 F n ops Q S fuel listed D ((d, .bool b)::L) H:=by
 cases b
 · exact hf rfl
 · exact ht rfl
abbrev sA:= @TD.decB
def Kd(P:Program)(ops:Array Oper)(Q:QQ)(S:World→Prop)(fuel:Nat)(listed:Array Bool)(i:Nat):Act→World→Prop:=
 λa' w'=>S w'∧wpAnyH P .any ops Q S fuel (listed.setIfInBounds i true) a' w'
theorem AB{i:Nat}{o:Oper}{K:Act→World→Prop}{a:Act}{w:World}(hi:ops[i]?=some o)(h:wpList P ops (Exit.then K Q) [o] a w):wpOp P ops Q i K a w:=by
 unfold wpOp;simp only[hi];unfold wpList at h;split
 · rename_i hw
   rw[if_pos hw]at h;refine h.imp (λx=>?_) id;unfold Oper.wp at x ⊢;generalize (execOp a.eval o).run P w=r at x;cases r with
   |ok nx w'=>cases nx<;>first|exact x| (refine Calls.mono x λe w'' he=>?_;cases e<;>exact he)
   |halt ht w'=>cases ht<;>exact x
 · rename_i hw
   rw[if_neg hw]at h;exact h
def AllT(P:Program)(w0:World)(F:Hl)(n:Nat)(ops:Array Oper)(Q:QQ)(S:World→Prop)(fuel:Nat)(listed:Array Bool)(D:List Deferred)(L:List (Nat×Value))(H:List HP)(rs:List Nat):Prop:=
 ∀i∈rs,∃o,ops[i]?=some o∧TL P w0 F n ops (Exit.then (Kd P ops Q S fuel listed i) Q) [o] D L H
theorem AllT.nil{fuel:Nat}{listed:Array Bool}:AllT P w0 F n ops Q S fuel listed D L H []:=λ_ h=>by cases h
abbrev bJ:= @AllT.nil
theorem AllT.cons{fuel:Nat}{listed:Array Bool}{i:Nat}{rs:List Nat}{o:Oper}(hi:ops[i]?=some o)(h:TL P w0 F n ops (Exit.then (Kd P ops Q S fuel listed i) Q) [o] D L H)(r:AllT P w0 F n ops Q S fuel listed D L H rs):
 AllT P w0 F n ops Q S fuel listed D L H (i::rs):=λj hj=>by
 rcases cn.1 hj with rfl|hj
 · exact⟨o,hi,h⟩
 · exact r j hj
abbrev aG:= @AllT.cons
theorem TD.all{fuel:Nat}{listed:Array Bool}(rs:List Nat)(hr:Region.ready .any ops listed=rs)(hne:rs.isEmpty=false)(h:AllT P w0 F n ops Q S fuel listed D L H rs):TD P w0 F n ops Q S (fuel+1) listed D L H:=
 λa w f s t _=>wpAnyH_all hr (by intro q;rw[q]at hne;cases hne) λi hi=>by
  obtain⟨o,ho,g⟩:=h i hi;exact AB ho (g a w f s t)
abbrev cT:= @TD.all
theorem TE.draw{fuel i:Nat}{listed:Array Bool}(hS: ∀w,Sat H F w→S w)(h:TD P w0 F n ops Q S fuel (listed.setIfInBounds i true) D L H):TE w0 F n (Exit.then (Kd P ops Q S fuel listed i) Q) .normal D L H:=
 λa w f s t=>⟨hS w t,h a w f s t (hS w t)⟩
abbrev vJ:= @TE.draw
theorem TC.unroll{c:Code}(m:Nat)(h:TC P w0 F n c (Exit.then (Code.rounds P c Q m) Q) D L H):TC P w0 F n (.loop c) Q D L H:=
 λa w f s t=>wp_loop_rounds (m+1) (h a w f s t)
abbrev sE:= @TC.unroll
theorem TE.again{c:Code}{m:Nat}(h:TC P w0 F n c (Exit.then (Code.rounds P c Q m) Q) D L H):TE w0 F n (Exit.then (Code.rounds P c Q (m+1)) Q) .normal D L H:=
 λa w f s t=>h a w f s t
abbrev eJ:= @TE.again
theorem TE.retC{H':List HP}{fn:Func}{post:Ending→List HP→Prop}{t ty e m b:Nat}{cs:List Value}{z:Nat×Nat}{dt:TypeDesc}(hr:fn.results=#[.cell t ty])(he:lk L t=some (.pointer (some ⟨b,0,none⟩)))
 (hu:P.underlying ty=some dt) (hp:dR dt=false) (hm:(P.info? ty).map (·.size)=some m) (hR:Rd (Sat H F) b (.cells cs.toArray e z)) (hl:cs.length=m) (hk: ∀h,bz H h→bz H' h)
 (h:post (.returned (.agg cs.toArray)) H'):TE w0 F n (bodyPost P fn (jD post w0 F)) .ret [] L H:=λa w f s q=>by
 refine bodyPost_ret (results_cell_row hr a.tmps w b e cs.toArray z dt (by have:=f.eval (x:= .tmp t) he;exact this) (hR w q) hu (by cases dt<;>simp[dR]at hp ⊢) (by simp[hm,hl])) f.2.1 ⟨s,H',q.mono hk,h⟩
theorem Does.of{f:FuncId}{args:Array Value}{R:Hl→Prop}{A:List HP}{post:Ending→List HP→Prop}(h: ∀F,R F→∃R':Hl→Prop,R' F∧Does P f args R' A post):Does P f args R A post:=
 λw F r m=>let ⟨_,r',d⟩:=h F r;d w F r' m
theorem N0{R:Hl→Prop}(hR: ∀F g,R F→Dj g F→R (jn g F)){G:Hl}(h:R G){B:List HP}: ∀g,Dj g G→bz B g→R (jn g G):=λg d _=>hR G g h d
end
variable {P:Program} {w0:World} {F:Hl} {n:Nat} {ops:Array Oper} {Q:QQ} {D:List Deferred} {L:List (Nat×Value)} {H:List HP} {d:Nat} {o:Oper} {l:List Oper}
theorem ta{S:World→Prop}{d fuel:Nat}{listed:Array Bool}{o:Oper}{v:Value}(i:Nat)(hi:ops[i]?=some o)(h1:PV P n D L S o v)(h:TD P w0 F n ops Q S fuel (listed.setIfInBounds i true) D ((d,v)::L) H)
    (hg:o.guard=none:=by exact rfl) (hd:o.dst=some d:=by exact rfl) (hn:Nat.blt d n=true:=by exact rfl) (hs:(Region.noSelect ops&&Region.free .any ops listed i&&(Region.ready .any ops listed).contains i)=true:=by kernel_rfl) (hQ: ∀c a v w,Q (.panic c) (a.put o.dst v) w→Q (.panic c) a w:=by exact λ_ _ _ _ h=>h):TD P w0 F n ops Q S (fuel+1) listed D L H:=by
  rw[an,an]at hs;exact KJ hi hs.1.1 hs.1.2 hs.2 hQ (ab hg) hd hn h1 h
theorem tb{S:World→Prop}{d fuel j d':Nat}{b:Bool}{listed:Array Bool}{o:Oper}{v:Value}(i:Nat)(hi:ops[i]?=some o)(h1:PV P n D L S o v)(h:TD P w0 F n ops Q S fuel (listed.setIfInBounds i true) D ((d,v)::L) H)
    (hg:o.guard=some (j,b):=by exact rfl) (hj:(ops[j]?).bind (·.dst)=some d':=by exact rfl) (e:lk L d'=some (.bool b):=by exact rfl) (hd:o.dst=some d:=by exact rfl) (hn:Nat.blt d n=true:=by exact rfl) (hs:(Region.noSelect ops&&Region.free .any ops listed i&&(Region.ready .any ops listed).contains i)=true:=by kernel_rfl) (hQ: ∀c a v w,Q (.panic c) (a.put o.dst v) w→Q (.panic c) a w:=by exact λ_ _ _ _ h=>h):TD P w0 F n ops Q S (fuel+1) listed D L H:=by
  rw[an,an]at hs;exact KJ hi hs.1.1 hs.1.2 hs.2 hQ (cd hg hj e) hd hn h1 h
end Leg
end

section
namespace Leg
open Go
def own(v:Value)(n:Nat)(xs:List Value)(e size:Nat):HP:=λh=>
 xs.length=n*size∧((v= .slice none 0 0∧n=0∧h=em)∨
  ∃g cap cur,v= .slice (some ⟨g,0,none⟩) n cap∧h=sg g (.cells cur e (0,0))∧n≤cap∧cap≤maxLen∧cur.size=cap*size∧cur.toList.take (n*size)=xs)
def Src(S:World→Prop)(x:Value)(m:Nat)(news:List Value)(size:Nat):Prop:=
 news.length=m*size∧((x= .slice none 0 0∧m=0)∨∃a c,x= .slice (some a) m c∧∀w,S w→∀j u,news[j]?=some u→w.cell? (a.add j)=some u)
theorem Src.rd{S:World→Prop}{b off m c size:Nat}{cs news:List Value}{e:TypeId}{z:Nat×Nat}(hl:news.length=m*size)(hR:Rd S b (.cells cs.toArray e z))(hc:(cs.drop off).take news.length=news):Src S (.slice (some ⟨b,off,none⟩) m c) m news size:=
 ⟨hl, .inr ⟨⟨b,off,none⟩,c,rfl,λw s j u h=>by
  rw[sz,oX (hR w s)];have hj:=(List.getElem?_eq_some_iff.1 h).1;rw[←hc,List.getElem?_take,if_pos hj]at h
  simpa using h⟩⟩
abbrev j7:= @Src.rd
theorem Sat.own_open{H:List HP}{F:Hl}{w:World}{i:Nat}{g cap n:Nat}{xs:List Value}{e size:Nat}(s:Sat H F w)(hi:i<H.length)(hH:H.getD i (λ_=>True)=own (.slice (some ⟨g,0,none⟩) n cap) n xs e size):
 ∃cur,Sat (H.set i (Bh g (.cells cur e (0,0)))) F w∧n≤cap∧cap≤maxLen∧cur.size=cap*size∧cur.toList.take (n*size)=xs:=by
 obtain⟨h,d,e',x⟩:=s;obtain⟨h1,h2,d',rfl,a,y⟩:=fm i hi x;rw[hH]at a;rcases a with⟨_,⟨h0,_⟩| ⟨g',cap',cur,hv,hh,r⟩⟩
 · cases h0
 · simp only[Value.slice.injEq,Option.some.injEq,Addr.mk.injEq,and_true,true_and]at hv
   obtain⟨rfl,rfl⟩:=hv;exact⟨cur,⟨_,d,e',lq i hi ⟨h1,h2,d',rfl,hh,y⟩⟩,r⟩
theorem jf{H:List HP}{i:Nat}(hi:i<H.length)(q:HP):(H.set i q).getD i (λ_=>True)=q:=by simp[List.getD_eq_getElem?_getD,hi]
theorem Sat.own_block{H:List HP}{F:Hl}{w:World}{i:Nat}{g cap n:Nat}{xs:List Value}{e size:Nat}(s:Sat H F w)(hi:i<H.length)(hH:H.getD i (λ_=>True)=own (.slice (some ⟨g,0,none⟩) n cap) n xs e size):
 ∃cur,w.heap[g]?=some (.cells cur e (0,0))∧n≤cap∧cap≤maxLen∧cur.size=cap*size∧cur.toList.take (n*size)=xs:=by
 obtain⟨cur,s',r⟩:=s.own_open hi hH;exact⟨cur,s'.block i (by simpa using hi) (jf hi _),r⟩
theorem Sat.own_len{H:List HP}{F:Hl}{w:World}{i:Nat}{v:Value}{n:Nat}{xs:List Value}{e size:Nat}(s:Sat H F w)(hi:i<H.length)(hH:H.getD i (λ_=>True)=own v n xs e size):xs.length=n*size:=by
 obtain⟨h,d,e',x⟩:=s;obtain⟨h1,h2,d',rfl,a,_⟩:=fm i hi x;rw[hH]at a;exact a.1
theorem Sat.own_form{H:List HP}{F:Hl}{w:World}{i:Nat}{v:Value}{n:Nat}{xs:List Value}{e size:Nat}(s:Sat H F w)(hi:i<H.length)(hH:H.getD i (λ_=>True)=own v n xs e size):
 (v= .slice none 0 0∧n=0∧xs=[])∨∃g cap,v= .slice (some ⟨g,0,none⟩) n cap:=by
 obtain⟨h,d,e',x⟩:=s;obtain⟨h1,h2,d',rfl,a,_⟩:=fm i hi x;rw[hH]at a;rcases a with⟨hl,⟨h0,hn,_⟩| ⟨g',cap',cur,hv,_⟩⟩
 · subst hn;exact .inl ⟨h0,rfl,List.eq_nil_of_length_eq_zero (by simpa using hl)⟩
 · exact .inr ⟨_,_,hv⟩
theorem Src.own{H:List HP}{F:Hl}{v:Value}{n:Nat}{xs:List Value}{e size:Nat}(i:Nat)(hi:Nat.blt i H.length=true)(hH:H.getD i (λ_=>True)=Leg.own v n xs e size){w0:World}(s0:Sat H F w0):Src (Sat H F) v n xs size:=by
 refine⟨s0.own_len (lb hi) hH,?_⟩;rcases s0.own_form (lb hi) hH with⟨rfl,rfl,rfl⟩| ⟨g,cap,rfl⟩
 · exact .inl ⟨rfl,rfl⟩
 · refine .inr ⟨⟨g,0,none⟩,cap,rfl,λw s j u h=>?_⟩
   rw[sz];obtain⟨cur,h1,_,_,_,h2⟩:=s.own_block (lb hi) hH;subst h2;rw[List.getElem?_take]at h;split at h
   · simpa [World.cell?,h1]using h
   · cases h
abbrev Rr:= @Src.own
theorem Jn{q:HP}{H:List HP}{h:Hl}(k:Nat)(hk:k<H.length)(s:bz (q::H) h):bz (H.set k q) h:=
 lq k hk (cF s (λ_ x=>x) λ_ x=>by
  obtain⟨h1,h2,d,rfl,_,b⟩:=fm k hk x
  rw[oc d];exact lY _ b d.symm)
theorem Sat.swap{q q':HP}{H:List HP}{F:Hl}{w:World}(k:Nat)(hk:k<H.length)(s:Sat (q::H) F w)(hq: ∀h,q h→q' h):Sat (H.set k q') F w:=
 s.mono λ_ x=>Jn k hk (cF x hq λ_ y=>y)
theorem Sat.turn{q:HP}{H:List HP}{F:Hl}{w:World}(k:Nat)(hk:k<H.length)(s:Sat H F w)(hq: ∀h,H.getD k (λ_=>True) h→q h):Sat (H.set k q) F w:=
 s.mono λ_ x=>lq k hk (cF (fm k hk x) hq λ_ y=>y)
section
variable {P:Program} {w0:World} {F:Hl} {n:Nat} {ops:Array Oper} {Q:QQ} {D:List Deferred} {L:List (Nat×Value)} {H:List HP} {o:Oper} {l:List Oper} {d:Nat} {S:World→Prop}
theorem vj{w:World}{k nn m:Nat}{v x:Value}{xs news:List Value}{t ty e size bytes:Nat}{z:Value}(s:Sat H F w)(ht:P.underlying t=some (.slice e))
 (hi:(P.info? e).map (λi=>(i.zero,i.size,i.bytes))=some (some z,size,bytes)) (hz:z.cells.size=size) (hsz:0<size)
 (hk:k<H.length) (hH:H.getD k (λ_=>True)=own v nn xs e size) (hx:Src (Sat H F) x m news size) (h1: ∀u∈news,u.oneCell'=true) (hb:nn+m≤maxLen) (hby:(nn+m)*bytes≤140737488355328):
 ∃v' w',(Builtin.append_ #[t,t] ty #[v,x]).run P w= .ok v' w'∧Same w w'∧Sat (H.set k (own v' (nn+m) (xs++news) e size)) F w':=by
 obtain⟨i,hie,hz0,rfl,rfl⟩:=info_parts hi;have hlx:=s.own_len hk hH;have hll:(xs++news).length=(nn+m)*i.size:=by rw[ai,hlx,hx.1,gp]
 have hsmall:nn+m≤9223372036854775807:=by simp only[maxLen]at hb;omega
 have fresh: ∀old,old<nn+m→(∀h,Bh w.heap.size (.cells (xs.toArray++news.toArray++Builtin.zeroCells z.cells (grownCap w (nn+m) old e- (nn+m))) e) h→
  own (.slice (some ⟨w.heap.size,0,none⟩) (nn+m) (grownCap w (nn+m) old e)) (nn+m) (xs++news) e i.size h):=λold _ h hh=>by
  have hge:=grownCap_ge w (nn+m) old e;refine⟨hll, .inr ⟨_,_,_,rfl,hh,hge,grownCap_le_maxLen w (nn+m) old e hb,?_,?_⟩⟩
  · simp only[Array.size_append,List.size_toArray,size_zeroCells,hz,hlx,hx.1,←gp]
    congr 1;omega
  · simp only[Array.toList_append,aE]
    rw[←aE,←hll];exact tW
 have same: ∀ob,Same w (w.drew.alloc ob):=λob=>⟨rfl,rfl,rfl,by simp⟩
 obtain⟨hxl,hxx⟩:=hx;rcases s.own_form hk hH with⟨rfl,rfl,rfl⟩| ⟨g,cap,rfl⟩
 · have nilcase:m=0→news=[]:=λhm=>List.eq_nil_of_length_eq_zero (by rw[hxl,hm,iK])
   by_cases hm:m=0
   · have hn:=nilcase hm
     subst hm;subst hn;refine⟨.slice none 0 0,w,?_,sF w,s.turn k hk (λh hh=>by rw[hH]at hh;simpa using hh)⟩
     rcases hxx with⟨rfl,_⟩| ⟨a0,c,rfl,_⟩<;>
      simp[Builtin.append_,run_underlying ht,Go.sizeOf,typeInfo,hie,Builtin.lenOf,Builtin.firstCells,loadCells,loadCellsFrom]
   · rcases hxx with⟨_,h0⟩| ⟨a0,c,rfl,hc⟩
     · exact absurd h0 hm
     · have hr:=run_append_nil (P:=P) w t ty e i z ht hie hz0 a0 m c news hxl (λj v hj=>hc w s j v hj) (by omega) (by omega) (by simp only[bq]at hby;omega)
       refine⟨_,_,hr,same _,?_⟩;have:=fresh 0 (by omega);simp only[bq,aQ,Array.empty_append]at this ⊢;exact Sat.swap k hk (s.drew.alloc _) this
 · obtain⟨cur,hH1,hnc,hcm,hcs,htake⟩:=s.own_open hk hH
   have hlen:k< (H.set k (Bh g (.cells cur e (0,0)))).length:=by simpa using hk
   have hg:=hH1.block k hlen (jf hk _)
   by_cases hroom:nn+m≤cap
   · have hput:Sat (H.set k (own (.slice (some ⟨g,0,none⟩) (nn+m) cap) (nn+m) (xs++news) e i.size)) F (w.setRow g (cur.toList.take (nn*i.size)++news++cur.toList.drop (nn*i.size+news.length)).toArray):=by
      have hfit:nn*i.size+news.length≤cur.size:=by rw[hxl,hcs,←gp];exact mq _ hroom
      have h2:=hH1.write k hlen (jf hk _) (setRow_heap w g cur (cur.toList.take (nn*i.size)++news++cur.toList.drop (nn*i.size+news.length)).toArray e _ hg) (λj hj=>setRow_other w g j _ hj);rw[fZ]at h2
      have h3:=h2.turn (q:=own (.slice (some ⟨g,0,none⟩) (nn+m) cap) (nn+m) (xs++news) e i.size) k (by simpa using hk) (λh hh=>by
       rw[jf hk]at hh;refine⟨hll, .inr ⟨g,cap,_,rfl,hh,hroom,hcm,?_,?_⟩⟩
       · simp only[List.size_toArray,ai,bR,ej,Array.length_toList]
         omega
       · rw[htake,←hll]
         exact tW)
      rwa [fZ]at h3
     rcases hxx with⟨rfl,hm⟩| ⟨a0,c,rfl,hc⟩
     · subst hm
       have hn:news=[]:=List.eq_nil_of_length_eq_zero (by rw[hxl,iK]);subst hn;refine⟨_,w,?_,sF w,s.turn k hk (λh hh=>by rw[hH]at hh;simpa using hh)⟩;simp[Builtin.append_,run_underlying ht,Go.sizeOf,typeInfo,hie,Builtin.lenOf,Builtin.firstCells,hnc,storeCells]
     · have hfit:nn*i.size+news.length≤cur.size:=by rw[hxl,hcs,←gp];exact mq _ hroom
       exact⟨_,_,run_append_room (P:=P) w t ty e i ht hie g nn cap cur hg a0 m c news hxl (λj v hj=>hc w s j v hj) h1 hroom hfit,⟨rfl,rfl,rfl,by simp⟩,hput⟩
   · rcases hxx with⟨rfl,hm⟩| ⟨a0,c,rfl,hc⟩
     · omega
     · have holds: ∀j u,xs[j]?=some u→w.cell? ((⟨g,0,none⟩:Addr).add j)=some u:=λj u hj=>by
        rw[sz];subst htake;rw[List.getElem?_take]at hj;split at hj
        · simpa [World.cell?,hg]using hj
        · cases hj
       have hr:=run_append_grow (P:=P) w t ty e i z ht hie hz0 ⟨g,0,none⟩ nn cap xs hlx holds a0 m c news hxl (λj v hj=>hc w s j v hj) (by omega) (by omega) (growslice_fits (by omega) hby);exact⟨_,_,hr,same _,Sat.swap k hk (s.drew.alloc _) (fresh cap (by omega))⟩
theorem TL.append{s x:Operand}{k nn m nn':Nat}{v vx:Value}{xs news xs':List Value}{t e size bytes:Nat}{z:Value}(hw:Want n D ops o L)
 (ho:o.op= .call {callee:= .builtin .append,args:=#[s,x],argTypes:=#[t,t]}) (hd:o.dst=some d) (hn:Nat.blt d n=true) (ht:P.underlying t=some (.slice e))
 (hi:(P.info? e).map (λi=>(i.zero,i.size,i.bytes))=some (some z,size,bytes)) (hz:z.cells.size=size) (hsz:Nat.blt 0 size=true) (hs:cK L s=some v) (hx:cK L x=some vx)
 (hk:Nat.blt k H.length=true) (hH:H.getD k (λ_=>True)=own v nn xs e size) (hsrc: ∀w,Sat H F w→Src (Sat H F) vx m news size) (h1: ∀u∈news,u.oneCell'=true) (hb:nn+m≤maxLen) (hby:(nn+m)*bytes≤140737488355328)
 (hnn:nn+m=nn') (hxs:xs++news=xs') (h: ∀v',v'.oneCell'=true→TL P w0 F n ops Q l D ((d,v')::L) (H.set k (own v' nn' xs' e size))):TL P w0 F n ops Q (o::l) D L H:=
 mJ hw λa w f sm q=>by
  obtain⟨v',w',hr,s',q'⟩:=vj (ty:=o.type) q ht hi hz (lb hsz) (lb hk) hH (hsrc w q) h1 hb hby;unfold Oper.wp execOp;simp only[ho,resolve,invoke,builtin,Sem.run_bind,Sem.run_pure,Result.andThen_ok,Mz,fb,mN,f.eval hs,f.eval hx,hr];rw[Oper.upon_value,hd];subst hnn;subst hxs
  have one:v'.oneCell'=true:=by
   rcases q'.own_form (i:=k) (by simpa using lb hk) (jf (lb hk) _)with⟨rfl,_⟩| ⟨g,c,rfl⟩<;>rfl
  exact h v' one _ w' (f.put (lb hn) v') (sm.trans s') q'
abbrev cL:= @TL.append
theorem TL.buildSlice{t e len size bytes:Nat}{parts:Array (Nat×Operand)}{ps:List (Nat×Value)}{z:Value}{cells:Array Value}(hw:Want n D ops o L)(ho:o.op= .buildSlice t len parts)(hd:o.dst=some d)(hn:Nat.blt d n=true)
 (ht:P.underlying t=some (.slice e)) (hi:(P.info? e).map (λi=>(i.zero,i.size,i.bytes))=some (some z,size,bytes)) (hs:Nat.blt (2^24) (len*size)=false) (h0:Nat.beq (len*size) 0=false)
 (hx:KW L parts.toList=some ps) (hf:Instr.fill (λi=>some (i*size,size)) ((Array.range (len*size)).map (z.cells[· %z.cells.size]!)) ps=some cells)
 (h: ∀b,TL P w0 F n ops Q l D ((d, .slice (some ⟨b,0,none⟩) len len)::L) (Bh b (.cells cells e)::H)):TL P w0 F n ops Q (o::l) D L H:=
 mJ hw λa w f sm q=>by
  obtain⟨i,hie,hz0,rfl,rfl⟩:=info_parts hi;have e1:(parts.map λx=>(x.1,a.eval x.2)).toList=ps:=f.evparts hx
  have hs': ¬len*i.size>2^24:=λhh=>by
   have:Nat.blt (2^24) (len*i.size)=true:=by simpa [Nat.blt_eq]using hh
   rw[this]at hs;cases hs
  have h0': ¬len*i.size=0:=λhh=>by
   rw[hh]at h0;cases h0
  have hr:=run_buildSlice (P:=P) w t e len (parts.map λx=>(x.1,a.eval x.2)) cells i z ht hie hz0 hs' h0' (by rw[e1];exact hf)
  have r:(execOp a.eval o).run P w= .ok (.value (.slice (some ⟨w.heap.size,0,none⟩) len len)) (w.alloc (.cells cells e)):=by
   simp only[execOp,ho,Sem.run_bind,hr,Result.andThen_ok,Sem.run_pure]
  unfold Oper.wp;rw[r,Oper.upon_value,hd];exact h _ _ _ (f.put (lb hn) _) (sm.trans ⟨rfl,rfl,rfl,by simp⟩) (q.alloc _)
abbrev aV:= @TL.buildSlice
theorem TL.buildSlice0{t e:Nat}(hw:Want n D ops o L)(ho:o.op= .buildSlice t 0 #[])(hd:o.dst=some d)(hn:Nat.blt d n=true)(ht:P.underlying t=some (.slice e))
 {size:Nat} (hs:((P.info? e).map (·.size))=some size) (h: ∀v,TL P w0 F n ops Q l D ((d,v)::L) (own v 0 [] e size::H)):TL P w0 F n ops Q (o::l) D L H:=
 mJ hw λa w f sm q=>by
  have r:(execOp a.eval o).run P w= .ok (.value (.slice (some ⟨w.heap.size,0,none⟩) 0 0)) (w.alloc (.cells #[] e)):=by
   have e0:(Array.range 0).map (λ_:Nat=>(default:Value))=#[]:=by simp
   simp[execOp,ho,Instr.buildSlice,run_underlying ht,ey hs,Instr.fill,newRow,newObj,Sem.run];rw[e0]
  unfold Oper.wp;rw[r,Oper.upon_value,hd];refine h _ _ _ (f.put (lb hn) _) (sm.trans ⟨rfl,rfl,rfl,by simp⟩) ((q.alloc _).mono λg x=>cF x (λg' y=>?_) λ_ y=>y);exact⟨by simp, .inr ⟨_,0,#[],rfl,y,aH _,aO _,by simp,by simp⟩⟩
abbrev Er:= @TL.buildSlice0
theorem PV.sliceArr{t e len:Nat}{x:Operand}{b j s:Nat}(ho:o.op= .slice t x none none none)(ht:P.underlying t=some (.array len e))(hs:(P.info? e).map (·.size)=some s)(hx:cK L x=some (.pointer (some ⟨b,j,none⟩))):
 PV P n D L S o (.slice (some ⟨b,j,none⟩) len len):=λa w g _=>by
 simp[execOp,ho,g.eval hx,Instr.sliceAt,run_underlying ht,Instr.sureAddr,Instr.sliceBounds,ey hs,sz]
abbrev ol:= @PV.sliceArr
theorem zn{t:TypeId}{dt:TypeDesc}(ht:P.underlying t=some dt)(hp:dR dt=true){cs:List Value}{j:Nat}{v:Value}(h:cs[j]?=some v){w:World}:(part t cs.toArray j).run P w= .ok v w:=by
 simp[part,nD ht,hp,h]
theorem zm{t:TypeId}{dt:TypeDesc}(ht:P.underlying t=some dt)(hp:dR dt=false){m:Nat}(hm:(P.info? t).map (·.size)=some m){cs vs:List Value}{j:Nat}(h:(cs.drop j).take m=vs){w:World}:(part t cs.toArray j).run P w= .ok (.agg vs.toArray) w:=by
 subst h;simp[part,nD ht,hp,ey hm]
theorem PV.index1{t e len:Nat}{x y:Operand}{k:IntKind}{i:Int}{dt:TypeDesc}{cs:List Value}{v:Value}{s r:Nat}(ho:o.op= .index t x y)(ht:P.underlying t=some (.array len e))(he:P.underlying e=some dt)(hp:dR dt=true)(hs:(P.info? e).map (·.size)=some s)
 (hx:cK L x=some (.agg cs.toArray)) (hy:cK L y=some (.int k i)) (h0:0≤i) (h1:i<len) (hr:i.toNat*s=r) (hv:cs[r]?=some v):PV P n D L S o v:=λa w g _=>by
 subst hr;simp[execOp,ho,g.eval hx,g.eval hy,Instr.index,asIntOf,run_underlying ht,h0,h1,ey hs,zn he hp hv]
abbrev p9:= @PV.index1
theorem PV.indexN{t e len:Nat}{x y:Operand}{k:IntKind}{i:Int}{dt:TypeDesc}{cs vs:List Value}{s r:Nat}(ho:o.op= .index t x y)(ht:P.underlying t=some (.array len e))(he:P.underlying e=some dt)(hp:dR dt=false)(hs:(P.info? e).map (·.size)=some s)
 (hx:cK L x=some (.agg cs.toArray)) (hy:cK L y=some (.int k i)) (h0:0≤i) (h1:i<len) (hr:i.toNat*s=r) (hv:(cs.drop r).take s=vs):PV P n D L S o (.agg vs.toArray):=λa w g _=>by
 subst hr;simp[execOp,ho,g.eval hx,g.eval hy,Instr.index,asIntOf,run_underlying ht,h0,h1,ey hs,zm he hp hs hv]
abbrev Rk:= @PV.indexN
theorem PV.field1{t i:Nat}{x:Operand}{fs:Array Field}{f:Field}{dt:TypeDesc}{cs:List Value}{v:Value}(ho:o.op= .field t x i)(ht:P.underlying t=some (.struct fs))(hf:fs[i]?=some f)(he:P.underlying f.type=some dt)(hp:dR dt=true)
 (hx:cK L x=some (.agg cs.toArray)) (hv:cs[f.offset]?=some v):PV P n D L S o v:=λa w g _=>by
 simp[execOp,ho,g.eval hx,Instr.field,run_underlying ht,hf,asAgg,zn he hp hv]
abbrev Rm:= @PV.field1
theorem PV.fieldN{t i s:Nat}{x:Operand}{fs:Array Field}{f:Field}{dt:TypeDesc}{cs vs:List Value}(ho:o.op= .field t x i)(ht:P.underlying t=some (.struct fs))(hf:fs[i]?=some f)(he:P.underlying f.type=some dt)(hp:dR dt=false)(hs:(P.info? f.type).map (·.size)=some s)
 (hx:cK L x=some (.agg cs.toArray)) (hv:(cs.drop f.offset).take s=vs):PV P n D L S o (.agg vs.toArray):=λa w g _=>by
 simp[execOp,ho,g.eval hx,Instr.field,run_underlying ht,hf,asAgg,zm he hp hs hv]
theorem PV.buildOne{t:TypeId}{x:Operand}{f:Field}{v z:Value}(ho:o.op= .build t #[(0,x)])(ht:P.underlying t=some (.struct #[f]))(hz:(P.info? t).map (·.zero)=some (some (.agg #[z])))(hof:f.offset=0)(hs:(P.info? f.type).map (·.size)=some 1)
 (hx:cK L x=some v) (h1:v.oneCell'=true):PV P n D L S o (.agg #[v]):=λa w g _=>by
 have hc:(Value.agg #[z]).cells=#[z]:=rfl;simp[execOp,ho,g.eval hx,Instr.build,oN hz,run_underlying ht,ey hs,hof,Instr.fill,Ap h1,hc]
def ek(l:List UInt8):List Value:=l.map λx=> .int .u8 (x.toNat:Nat)
theorem aZ(l:List UInt8):(ek l).length=l.length:=by simp[ek]
theorem jy(a b:List UInt8):ek (a++b)=ek a++ek b:=by simp[ek]
theorem fl(l:List UInt8): ∀u∈ek l,u.oneCell'=true:=by
 intro u h;obtain⟨_,_,rfl⟩:=gd.1 h;rfl
abbrev dZ(v:Value)(l:List UInt8)(e:Nat):HP:=own v l.length (ek l) e 1
end
end Leg
end

section
namespace Api
open Go Leg
def ints(l:List Int):List Value:=l.map (Value.int .i64)
theorem ints_length(l:List Int):(ints l).length=l.length:=by simp[ints]
theorem ints_get(l:List Int)(j:Nat)(h:j<l.length):(ints l)[j]?=some (.int .i64 (l.getD j 0)):=by simp[ints,h]
structure CellT where
 inn:Int
 out:Int
 given:Vector Int 5
structure RowT where
 version:Int
 cells:Vector CellT 4
 heir:Vector Int 5
 left:Vector (Vector CellT 4) 5
structure ViewT where
 epoch:Int
 members:Int
 heirs:Vector Int 5
structure ChangeT where
 kind:Int
 who:Int
 heir:Int
structure BallotT where
 round:Int
 who:Int
structure MsgT where
 kind:Int
 whose:Int
 row:RowT
 version:Int
 epoch:Int
 ballot:BallotT
 had:BallotT
 change:ChangeT
 view:ViewT
structure RecT where
 kind:Int
 whose:Int
 row:RowT
 epoch:Int
 ballot:BallotT
 change:ChangeT
 view:ViewT
structure OpT where
 kind:Int
 at':Int
 to':Int
 key:Int
 n:Int
 change:ChangeT
 mask:Int
 torn:Int
 cut:Int
structure ReplyT where
 op:Int
 err:Int
 value:Int
def CellT.flat(c:CellT):List Int:=c.inn::c.out::c.given.toList
def bI(v:List CellT):List Int:=v.flatMap CellT.flat
def RowT.flat(x:RowT):List Int:=x.version::(bI x.cells.toList++(x.heir.toList++x.left.toList.flatMap λv=>bI v.toList))
def ViewT.flat(v:ViewT):List Int:=v.epoch::v.members::v.heirs.toList
def ChangeT.flat(c:ChangeT):List Int:=[c.kind,c.who,c.heir]
def BallotT.flat(b:BallotT):List Int:=[b.round,b.who]
def MsgT.flat(m:MsgT):List Int:=m.kind::m.whose::(m.row.flat++(m.version::m.epoch::(m.ballot.flat++(m.had.flat++(m.change.flat++m.view.flat)))))
def RecT.flat(m:RecT):List Int:=m.kind::m.whose::(m.row.flat++(m.epoch::(m.ballot.flat++(m.change.flat++m.view.flat))))
def OpT.flat(m:OpT):List Int:=m.kind::m.at'::m.to'::m.key::m.n::(m.change.flat++[m.mask,m.torn,m.cut])
def ReplyT.flat(m:ReplyT):List Int:=[m.op,m.err,m.value]
def agI(l:List Int):Value:= .agg (ints l).toArray
abbrev CellT.val(c:CellT):Value:=agI c.flat
abbrev RowT.val(x:RowT):Value:=agI x.flat
abbrev ViewT.val(v:ViewT):Value:=agI v.flat
abbrev ChangeT.val(c:ChangeT):Value:=agI c.flat
abbrev BallotT.val(b:BallotT):Value:=agI b.flat
def CellT.zero:CellT:=⟨0,0, #v[0,0,0,0,0]⟩
def RowT.zero:RowT:=⟨0, #v[.zero, .zero, .zero, .zero], #v[0,0,0,0,0], #v[#v[.zero, .zero, .zero, .zero], #v[.zero, .zero, .zero, .zero], #v[.zero, .zero, .zero, .zero], #v[.zero, .zero, .zero, .zero], #v[.zero, .zero, .zero, .zero]]⟩
def ViewT.zero:ViewT:=⟨0,0, #v[0,0,0,0,0]⟩
def ChangeT.zero:ChangeT:=⟨0,0,0⟩
def BallotT.zero:BallotT:=⟨0,0⟩
def MsgT.zero:MsgT:=⟨0,0, .zero,0,0, .zero, .zero, .zero, .zero⟩
def RecT.zero:RecT:=⟨0,0, .zero,0, .zero, .zero, .zero⟩
def OpT.zero:OpT:=⟨0,0,0,0,0, .zero,0,0,0⟩
theorem rQ{α:Type}{n:Nat}(v:Vector α n)(i:Nat)(x:α)(h:i<n):(v.set i x h).toList=v.toList.set i x:=by
 rcases v with⟨⟨l⟩,e⟩
 simp[Vector.set,Vector.toList]
theorem CellT.flat_length(c:CellT):c.flat.length=7:=by simp[flat]
abbrev bP:= @CellT.flat_length
theorem dd(v:List CellT):(bI v).length=7*v.length:=by
 induction v with
 |nil=>rfl
 |cons c v ih=>simp only[bI,db,ai,bP]at ih ⊢;rw[ih,ax];omega
theorem tF(l:List (Vector CellT 4)):(l.flatMap λv=>bI v.toList).length=28*l.length:=by
 induction l with
 |nil=>rfl
 |cons c v ih=>simp only[db,ai,dd,aA]at ih ⊢;rw[ih,ax];omega
theorem RowT.flat_length(x:RowT):x.flat.length=174:=by
 have h:=tF x.left.toList;rw[aA]at h;simp only[flat,ax,ai,dd,h,aA]
abbrev co:= @RowT.flat_length
theorem RowT.len(x:RowT):(ints x.flat).length=174:=by rw[ints_length,x.flat_length]
abbrev ag:= @RowT.len
theorem CellT.len(c:CellT):(ints c.flat).length=7:=by rw[ints_length,c.flat_length]
abbrev bB:= @CellT.len
theorem iC{a b vs:List Value}{o:Nat}(h:o+vs.length≤a.length):wr (a++b) o vs=wr a o vs++b:=by
 simp only[wr];rw[cy (by omega),kY (by omega)];simp
theorem eM{a b vs:List Value}{o:Nat}(h:a.length≤o):wr (a++b) o vs=a++wr b (o-a.length) vs:=by
 simp only[wr];rw[List.take_append,ja,aD h,du (by omega)];have:o+vs.length-a.length=o-a.length+vs.length:=by omega
 simp[this]
theorem gC{a vs:List Value}(h:a.length=vs.length):wr a 0 vs=vs:=by simp[wr,h]
theorem M4{a:List Value}{o:Nat}{v:Value}(h:o<a.length):wr a o [v]=a.set o v:=by
 rw[wr,oC,if_pos h];simp
theorem wx{α:Type}{f:α→List Value}{m:Nat}(hf: ∀x,(f x).length=m): ∀(l:List α) (i:Nat) (x:α),i<l.length→wr (l.flatMap f) (i*m) (f x)=(l.set i x).flatMap f
 | [],_,_,h=>by simp at h
 |y::l,0,x,_=>by
  simp only[db,bZ,iK];rw[iC (by simp[hf]),gC (by simp[hf])]
 |y::l,i+1,x,h=>by
  simp only[db,bU];have e:(i+1)*m=m+i*m:=by rw[gp,Nat.one_mul,mL]
  rw[eM (by rw[hf,e];omega),hf,e,cq,wx hf l i x (by simpa using h)]
theorem xF(l:List CellT):ints (bI l)=l.flatMap λc=>ints c.flat:=by
 induction l with
 |nil=>rfl
 |cons c l ih=>simp only[bI,db,ints,ec]at ih ⊢;rw[ih]
theorem eI(a b:List Int):ints (a++b)=ints a++ints b:=by simp[ints]
theorem ng(a:Int)(b:List Int):ints (a::b)= .int .i64 a::ints b:=rfl
theorem B7{l:List CellT}{i:Nat}{c:CellT}(h:i<l.length):wr (ints (bI l)) (i*7) (ints c.flat)=ints (bI (l.set i c)):=by
 rw[xF,xF];exact wx (λx=>by rw[ints_length,x.flat_length]) l i c h
theorem I6{l:List (Vector CellT 4)}{i j:Nat}{c:CellT}(h:i<l.length)(hj:j<4):wr (ints (l.flatMap λv=>bI v.toList)) (i*28+j*7) (ints c.flat)=ints ((l.set i ((l[i]).set j c)).flatMap λv=>bI v.toList):=by
 induction l generalizing i with
 |nil=>simp at h
 |cons y l ih=>
  have hy:(ints (bI y.toList)).length=28:=by rw[ints_length,dd];simp
  have hc:(ints c.flat).length=7:=by rw[ints_length,c.flat_length]
  cases i with
  |zero=>
   simp only[db,bZ,iK,bq,eI,o7];rw[iC (by omega),B7 (by simpa using hj),rQ]
  |succ i=>
   simp only[db,bU,eI,Rx];have e:(i+1)*28+j*7=28+(i*28+j*7):=by omega
   rw[eM (by omega),hy,e,cq,ih (by simpa using h)]
theorem RowT.wr_version(x:RowT)(n:Int):wr (ints x.flat) 0 [.int .i64 n]=ints ({x with version:=n}:RowT).flat:=by simp[wr,RowT.flat,ints]
theorem RowT.wr_cell(x:RowT)(i:Nat)(h:i<4)(c:CellT):wr (ints x.flat) (1+i*7) (ints c.flat)=ints ({x with cells:=x.cells.set i c}:RowT).flat:=by
 have hc:(ints c.flat).length=7:=by rw[ints_length,c.flat_length]
 have hf:(ints (bI x.cells.toList)).length=28:=by rw[ints_length,dd];simp
 simp only[RowT.flat,ng,eI];rw[←pW,eM (by simp),iC (by simp;omega)];simp only[gZ,cq];rw[B7 (by simpa using h),rQ,pW]
theorem RowT.wr_heir(x:RowT)(i:Nat)(h:i<5)(n:Int):wr (ints x.flat) (29+i) [.int .i64 n]=ints ({x with heir:=x.heir.set i n}:RowT).flat:=by
 have hf:(ints (bI x.cells.toList)).length=28:=by rw[ints_length,dd];simp
 have hh:(ints x.heir.toList).length=5:=by rw[ints_length];simp
 simp only[RowT.flat,ng,eI];rw[←pW,eM (by simp;omega),eM (by simp;omega),iC (by simp;omega)];have e:29+i- [Value.int IntKind.i64 x.version].length- (ints (bI x.cells.toList)).length=i:=by simp;omega
 rw[e,M4 (by omega),rQ];simp[ints,KP]
theorem RowT.wr_left(x:RowT)(i j:Nat)(h:i<5)(hj:j<4)(c:CellT):wr (ints x.flat) (34+i*28+j*7) (ints c.flat)=ints ({x with left:=x.left.set i ((x.left[i]).set j c)}:RowT).flat:=by
 have hf:(ints (bI x.cells.toList)).length=28:=by rw[ints_length,dd];simp
 have hh:(ints x.heir.toList).length=5:=by rw[ints_length];simp
 simp only[RowT.flat,ng,eI];rw[←pW,eM (by simp;omega),eM (by simp;omega),eM (by simp;omega)];have e:34+i*28+j*7- [Value.int IntKind.i64 x.version].length- (ints (bI x.cells.toList)).length- (ints x.heir.toList).length=i*28+j*7:=by simp;omega
 rw[e,I6 (by simpa using h) hj,rQ];simp
theorem RowT.get_heir(x:RowT)(i:Nat)(h:i<5):(ints x.flat)[29+i]?=some (.int .i64 x.heir[i]):=by
 have hf:(bI x.cells.toList).length=28:=by rw[dd];simp
 have e:x.flat[29+i]?=some x.heir[i]:=by
  simp only[RowT.flat];rw[show 29+i=(28+i)+1 by omega,List.getElem?_cons_succ,List.getElem?_append_right (by omega),hf,cq,List.getElem?_append_left (by simpa using h)];simp[h]
 simp[ints,e]
theorem RowT.get_version(x:RowT):(ints x.flat)[0]?=some (.int .i64 x.version):=rfl
theorem RowT.get_cells(x:RowT):((ints x.flat).drop 1).take 28=ints (bI x.cells.toList):=by
 have hf:(ints (bI x.cells.toList)).length=28:=by rw[ints_length,dd];simp
 simp only[RowT.flat,ng,eI,iJ,be];rw[cy (by omega),aD (by omega)]
theorem RowT.get_heirs(x:RowT):((ints x.flat).drop 29).take 5=ints x.heir.toList:=by
 have hf:(ints (bI x.cells.toList)).length=28:=by rw[ints_length,dd];simp
 have hh:(ints x.heir.toList).length=5:=by rw[ints_length];simp
 simp only[RowT.flat,ng,eI,iJ];rw[ja,du (by omega),hf,yZ,be,aQ,cy (by omega),aD (by omega)]
theorem Ac{l:List CellT}{i:Nat}(h:i<l.length):((ints (bI l)).drop (i*7)).take 7=ints (l[i]).flat:=by
 induction l generalizing i with
 |nil=>simp at h
 |cons c l ih=>
  have hc:(ints c.flat).length=7:=c.len;simp only[bI,db,eI]at ih ⊢;cases i with
  |zero=>simp only[iK,be,o7];rw[cy (by omega),aD (by omega)]
  |succ i=>
   rw[ja,du (by omega),hc,show(i+1)*7-7=i*7 by omega,aQ]
   simpa using ih (by simpa using h)
theorem Iy{l:List (Vector CellT 4)}{i:Nat}(h:i<l.length):((ints (l.flatMap λv=>bI v.toList)).drop (i*28)).take 28=ints (bI (l[i]).toList):=by
 induction l generalizing i with
 |nil=>simp at h
 |cons c l ih=>
  have hc:(ints (bI c.toList)).length=28:=by rw[ints_length,dd];simp
  simp only[db,eI]at ih ⊢;cases i with
  |zero=>simp only[iK,be,o7];rw[cy (by omega),aD (by omega)]
  |succ i=>
   rw[ja,du (by omega),hc,show(i+1)*28-28=i*28 by omega,aQ]
   simpa using ih (by simpa using h)
theorem RowT.get_left(x:RowT)(i:Nat)(h:i<5):((ints x.flat).drop (34+i*28)).take 28=ints (bI (x.left[i]).toList):=by
 have hf:(ints (bI x.cells.toList)).length=28:=by rw[ints_length,dd];simp
 have hh:(ints x.heir.toList).length=5:=by rw[ints_length];simp
 have e:(ints x.flat).drop (34+i*28)=(ints (x.left.toList.flatMap λv=>bI v.toList)).drop (i*28):=by
  simp only[RowT.flat,ng,eI];rw[show 34+i*28=(33+i*28)+1 by omega,iJ,ja,du (by omega),hf,aQ,ja,du (by omega),hh,aQ];congr 1;omega
 rw[e,Iy (by simpa using h)];simp
theorem Lb{p:Vector Int 5→Prop}(h: ∀a b c d e,p #v[a,b,c,d,e])(v:Vector Int 5):p v:=by
 rcases v with⟨⟨l⟩,hl⟩
 match l,hl with
 | [a,b,c,d,e],_=>exact h a b c d e
theorem bA(l:List Int): ∀u∈ints l,u.oneCell'=true:=by
 intro u h;obtain⟨_,_,rfl⟩:=gd.1 h;rfl
set_option maxRecDepth 100000 in
theorem RowT.flat_zero:RowT.zero.flat=List.replicate 174 0:=by rfl
end Api
end
section
namespace Leg
open Go Api
variable {P:Program} {w0:World} {F:Hl} {n:Nat} {ops:Array Oper} {Q:QQ} {D:List Deferred} {L:List (Nat×Value)} {H:List HP} {d:Nat} {o:Oper} {l:List Oper}
abbrev OZ:List (List Value):=[[Value.int .i64 0],[Value.int .i64 0],[Value.int .i64 0],[Value.int .i64 0],[Value.int .i64 0],ints ChangeT.zero.flat,[Value.int .i64 0],[Value.int .i64 0],[Value.int .i64 0]]
theorem AD{t t':TypeId}{x y:Operand}{a b:Int}(h:TL P w0 F n ops Q l D ((d, .int .i64 (a+b))::L) H)(hw:Want n D ops o L:=by first|exact ab rfl|exact cd rfl rfl rfl)(hd:o.dst=some d:=by exact rfl)(hn:Nat.blt d n=true:=by exact rfl)(ho:o.op= .binOp .add t x y t':=by exact rfl)(hx:cK L x=some (.int .i64 a):=by exact rfl)(hy:cK L y=some (.int .i64 b):=by exact rfl)(h1: -9223372036854775808≤a+b∧a+b≤9223372036854775807:=by constructor<;>omega):TL P w0 F n ops Q (o::l) D L H:=ml hw hd hn (cB ho hx hy (bK h1.1 h1.2)) h
theorem SI{o:Oper}{l:List Oper}{t e:TypeId}{x y:Operand}{b j m:Nat}{cs cs':List Value}{xs:List Int}(k:Nat)(hlx:(ints xs).length=m)(hz:(P.info? t).map (·.size)=some m)(hl:j+(ints xs).length≤cs.length)(hcs:wr cs j (ints xs)=cs')(h:TL P w0 F n ops Q l D L (H.set k (ah b cs' e)))(hw:Want n D ops o L:=by first|exact ab rfl|exact cd rfl rfl rfl)(hd:o.dst=none:=by exact rfl)(ho:o.op= .store t x y:=by exact rfl)(hx:cK L x=some (.pointer (some ⟨b,j,none⟩)):=by exact rfl)(hy:cK L y=some (.agg (ints xs).toArray):=by exact rfl)(hk:Nat.blt k H.length=true:=by exact rfl)(hH:H.getD k (λ_=>True)=ah b cs e:=by exact rfl):TL P w0 F n ops Q (o::l) D L H:=bL (vs:=ints xs) hw ho hd hx hy rfl (by rw[hlx];exact hz) (bA _) hk hH hl hcs rfl h
end Leg
end

namespace Go.Proofs.YtmcjhkbcmmddgaaGreat
abbrev Y3:=Tryz.underlying3
abbrev Y4:=Tryz.underlying4
abbrev Y5:=Tryz.underlying5
abbrev PC:=Tryz.underlying25
abbrev mS:=Tryz.underlying27
abbrev e6:=Tryz.underlying29
abbrev nP:=Tryz.underlying33
abbrev fP:=Tryz.underlying35
abbrev qd:=Tryz.underlying38
abbrev km:=Tryz.underlying44
abbrev oi:=Tryz.underlying47
abbrev B1:=Tryz.underlying48
abbrev MX:=Tryz.underlying49
abbrev dT:=Tryz.underlying51
abbrev Av:=Tryz.underlying52
abbrev rk:=Tryz.underlying53
abbrev ia:=Tryz.underlying62
abbrev KF:=Tryz.underlying64
abbrev I3:=Tryz.underlying66
abbrev Mt:=Tryz.underlying67
abbrev KY:=Tryz.underlying68
abbrev P6:=Tryz.underlying69
abbrev p7:=Tryz.underlying71
abbrev NY:=Tryz.underlying77
abbrev NX:=Tryz.underlying85
abbrev kO:=Tryz.underlying87
abbrev qc:=Tryz.underlying89
abbrev p6:=Tryz.underlying90
abbrev PB:=Tryz.underlying92
abbrev dq:=Tryz.underlying94
abbrev BZ:=Tryz.underlying98
abbrev yd:=Tryz.underlying106
abbrev KI:=Tryz.underlying107
abbrev Mu:=Tryz.underlying108
abbrev yO:=Tryz.underlying112
abbrev jv:=Tryz.underlying113
abbrev ig:=Tryz.underlying115
abbrev vW:=Tryz.underlying116
abbrev eC:=Tryz.underlying121
abbrev bg:=Tryz.underlying136
abbrev pK:=Tryz.underlying147
abbrev KH:=Tryz.underlying152
abbrev BX:=Tryz.underlying155
abbrev vV:=Tryz.underlying158
abbrev Eo:=Tryz.underlying160
abbrev rl:=Tryz.underlying162
abbrev j6:=Tryz.underlying187
abbrev BW:=Tryz.underlying197
abbrev IS:=Tryz.underlying199
abbrev KG:=Tryz.underlying219
end Go.Proofs.YtmcjhkbcmmddgaaGreat
section
namespace Go.Proofs.YtmcjhkbcmmddgaaGreat
open Go Leg
theorem aP:(Tryz.prog.info? 3).map (·.size)=some 1:=by kernel_rfl
theorem sn:(Tryz.prog.info? 3).map (λi=>(i.zero,i.size,i.bytes))=some (some (.int .i64 0),1,8):=by kernel_rfl
theorem lE:(Tryz.prog.info? 4).map (·.size)=some 1:=by kernel_rfl
theorem z4:(Tryz.prog.info? 4).map (·.zero)=some (some (.bool false)):=by kernel_rfl
theorem lT:(Tryz.prog.info? 5).map (·.size)=some 1:=by kernel_rfl
theorem z0:(Tryz.prog.info? 5).map (λi=>(i.zero,i.size,i.bytes))=some (some (.int .u8 0),1,1):=by kernel_rfl
theorem Ol:(Tryz.prog.info? 25).map (·.size)=some 1:=by kernel_rfl
theorem gM:(Tryz.prog.info? 27).map (·.size)=some 5:=by kernel_rfl
theorem bi:(Tryz.prog.info? 29).map (·.size)=some 7:=by kernel_rfl
theorem rN:(Tryz.prog.info? 29).map (·.zero)=some (some (.agg #[.int .i64 0, .int .i64 0, .int .i64 0, .int .i64 0, .int .i64 0, .int .i64 0, .int .i64 0])):=by kernel_rfl
theorem gf:(Tryz.prog.info? 33).map (·.size)=some 3:=by kernel_rfl
theorem PZ:(Tryz.prog.info? 33).map (·.zero)=some (some (.agg #[.int .i64 0, .int .i64 0, .int .i64 0])):=by kernel_rfl
theorem Lj:(Tryz.prog.info? 35).map (·.size)=some 11:=by kernel_rfl
theorem iN:(Tryz.prog.info? 38).map (·.size)=some 1:=by kernel_rfl
theorem gL:(Tryz.prog.info? 47).map (·.size)=some 7:=by kernel_rfl
theorem KT:(Tryz.prog.info? 47).map (·.zero)=some (some (.agg #[.int .i64 0, .int .i64 0, .int .i64 0, .int .i64 0, .int .i64 0, .int .i64 0, .int .i64 0])):=by kernel_rfl
theorem lX:(Tryz.prog.info? 48).map (·.size)=some 28:=by kernel_rfl
theorem Cl:(Tryz.prog.info? 49).map (·.size)=some 140:=by kernel_rfl
theorem aX:(Tryz.prog.info? 51).map (·.size)=some 174:=by kernel_rfl
theorem u6:(Tryz.prog.info? 51).map (·.zero)=some (some (.agg (Api.ints Api.RowT.zero.flat).toArray)):=by kernel_rfl
theorem oI:(Tryz.prog.info? 53).map (·.size)=some 5:=by kernel_rfl
theorem PX:(Tryz.prog.info? 53).map (·.zero)=some (some (.agg #[.pointer none, .pointer none, .pointer none, .pointer none, .pointer none])):=by kernel_rfl
theorem ow:(Tryz.prog.info? 62).map (·.size)=some 1:=by kernel_rfl
theorem It:(Tryz.prog.info? 62).map (λi=>(i.zero,i.size,i.bytes))=some (some (.slice none 0 0),1,24):=by kernel_rfl
theorem N1:(Tryz.prog.info? 62).map (·.zero)=some (some (.slice none 0 0)):=by kernel_rfl
theorem AT:(Tryz.prog.info? 64).map (·.size)=some 1:=by kernel_rfl
theorem vN:(Tryz.prog.info? 66).map (·.size)=some 1:=by kernel_rfl
theorem AS:(Tryz.prog.info? 67).map (·.size)=some 5:=by kernel_rfl
theorem yr:(Tryz.prog.info? 68).map (·.size)=some 1:=by kernel_rfl
theorem Li:(Tryz.prog.info? 69).map (·.size)=some 5:=by kernel_rfl
theorem Qg:(Tryz.prog.info? 82).map (·.size)=some 1:=by kernel_rfl
theorem M7:(Tryz.prog.info? 83).map (·.size)=some 5:=by kernel_rfl
theorem cA:(Tryz.prog.info? 87).map (·.size)=some 2:=by kernel_rfl
theorem PW:(Tryz.prog.info? 87).map (·.zero)=some (some (.agg #[.int .i64 0, .int .i64 0])):=by kernel_rfl
theorem gg:(Tryz.prog.info? 89).map (·.size)=some 8:=by kernel_rfl
theorem I4:(Tryz.prog.info? 89).map (·.zero)=some (some (.agg #[.int .i64 0, .int .i64 0, .int .i64 0, .int .i64 0, .int .i64 0, .int .i64 0, .int .i64 0, .int .i64 0])):=by kernel_rfl
theorem nw:(Tryz.prog.info? 90).map (·.size)=some 1:=by kernel_rfl
theorem nY:(Tryz.prog.info? 98).map (·.size)=some 64:=by kernel_rfl
theorem M3:(Tryz.prog.info? 98).map (·.zero)=some (some (.agg #[.int .u8 0, .int .u8 0, .int .u8 0, .int .u8 0, .int .u8 0, .int .u8 0, .int .u8 0, .int .u8 0, .int .u8 0, .int .u8 0, .int .u8 0, .int .u8 0, .int .u8 0, .int .u8 0, .int .u8 0, .int .u8 0, .int .u8 0, .int .u8 0, .int .u8 0, .int .u8 0, .int .u8 0, .int .u8 0, .int .u8 0, .int .u8 0, .int .u8 0, .int .u8 0, .int .u8 0, .int .u8 0, .int .u8 0, .int .u8 0, .int .u8 0, .int .u8 0, .int .u8 0, .int .u8 0, .int .u8 0, .int .u8 0, .int .u8 0, .int .u8 0, .int .u8 0, .int .u8 0, .int .u8 0, .int .u8 0, .int .u8 0, .int .u8 0, .int .u8 0, .int .u8 0, .int .u8 0, .int .u8 0, .int .u8 0, .int .u8 0, .int .u8 0, .int .u8 0, .int .u8 0, .int .u8 0, .int .u8 0, .int .u8 0, .int .u8 0, .int .u8 0, .int .u8 0, .int .u8 0, .int .u8 0, .int .u8 0, .int .u8 0, .int .u8 0])):=by kernel_rfl
theorem Gl:(Tryz.prog.info? 106).map (·.size)=some 1:=by kernel_rfl
theorem Cn:(Tryz.prog.info? 107).map (·.size)=some 5:=by kernel_rfl
theorem Qf:(Tryz.prog.info? 107).map (·.zero)=some (some (.agg #[.pointer none, .pointer none, .pointer none, .pointer none, .pointer none])):=by kernel_rfl
theorem Gk:(Tryz.prog.info? 108).map (·.size)=some 25:=by kernel_rfl
theorem Cm:(Tryz.prog.info? 112).map (·.size)=some 1:=by kernel_rfl
theorem ib:(Tryz.prog.info? 113).map (·.size)=some 1:=by kernel_rfl
theorem gh:(Tryz.prog.info? 121).map (·.size)=some 189:=by kernel_rfl
theorem I5:(Tryz.prog.info? 121).map (·.zero)=some (some (.agg (Api.ints Api.RecT.zero.flat).toArray)):=by kernel_rfl
theorem ca:(Tryz.prog.info? 136).map (·.size)=some 192:=by kernel_rfl
theorem mT:(Tryz.prog.info? 136).map (·.zero)=some (some (.agg (Api.ints Api.MsgT.zero.flat).toArray)):=by kernel_rfl
theorem mO:(Tryz.prog.info? 147).map (·.size)=some 65:=by kernel_rfl
theorem mQ:(Tryz.prog.info? 147).map (λi=>(i.zero,i.size,i.bytes))=some (some (.agg #[.int .i64 0, .int .u8 0, .int .u8 0, .int .u8 0, .int .u8 0, .int .u8 0, .int .u8 0, .int .u8 0, .int .u8 0, .int .u8 0, .int .u8 0, .int .u8 0, .int .u8 0, .int .u8 0, .int .u8 0, .int .u8 0, .int .u8 0, .int .u8 0, .int .u8 0, .int .u8 0, .int .u8 0, .int .u8 0, .int .u8 0, .int .u8 0, .int .u8 0, .int .u8 0, .int .u8 0, .int .u8 0, .int .u8 0, .int .u8 0, .int .u8 0, .int .u8 0, .int .u8 0, .int .u8 0, .int .u8 0, .int .u8 0, .int .u8 0, .int .u8 0, .int .u8 0, .int .u8 0, .int .u8 0, .int .u8 0, .int .u8 0, .int .u8 0, .int .u8 0, .int .u8 0, .int .u8 0, .int .u8 0, .int .u8 0, .int .u8 0, .int .u8 0, .int .u8 0, .int .u8 0, .int .u8 0, .int .u8 0, .int .u8 0, .int .u8 0, .int .u8 0, .int .u8 0, .int .u8 0, .int .u8 0, .int .u8 0, .int .u8 0, .int .u8 0, .int .u8 0]),65,72):=by kernel_rfl
theorem He:(Tryz.prog.info? 147).map (·.zero)=some (some (.agg #[.int .i64 0, .int .u8 0, .int .u8 0, .int .u8 0, .int .u8 0, .int .u8 0, .int .u8 0, .int .u8 0, .int .u8 0, .int .u8 0, .int .u8 0, .int .u8 0, .int .u8 0, .int .u8 0, .int .u8 0, .int .u8 0, .int .u8 0, .int .u8 0, .int .u8 0, .int .u8 0, .int .u8 0, .int .u8 0, .int .u8 0, .int .u8 0, .int .u8 0, .int .u8 0, .int .u8 0, .int .u8 0, .int .u8 0, .int .u8 0, .int .u8 0, .int .u8 0, .int .u8 0, .int .u8 0, .int .u8 0, .int .u8 0, .int .u8 0, .int .u8 0, .int .u8 0, .int .u8 0, .int .u8 0, .int .u8 0, .int .u8 0, .int .u8 0, .int .u8 0, .int .u8 0, .int .u8 0, .int .u8 0, .int .u8 0, .int .u8 0, .int .u8 0, .int .u8 0, .int .u8 0, .int .u8 0, .int .u8 0, .int .u8 0, .int .u8 0, .int .u8 0, .int .u8 0, .int .u8 0, .int .u8 0, .int .u8 0, .int .u8 0, .int .u8 0, .int .u8 0])):=by kernel_rfl
theorem Qe:(Tryz.prog.info? 152).map (·.zero)=some (some (.agg #[.int .i64 0, .int .i64 0, .int .i64 0, .int .i64 0, .int .i64 0, .int .i64 0, .int .i64 0, .int .i64 0, .int .i64 0, .int .i64 0, .int .i64 0, .int .i64 0, .int .i64 0, .int .i64 0, .int .i64 0, .int .i64 0, .int .i64 0, .int .i64 0, .int .i64 0, .int .i64 0, .int .i64 0, .int .i64 0, .int .i64 0, .int .i64 0, .int .i64 0, .int .i64 0, .int .i64 0, .int .i64 0, .int .i64 0, .int .i64 0, .int .i64 0, .int .i64 0, .int .i64 0, .int .i64 0, .int .i64 0])):=by kernel_rfl
theorem va:(Tryz.prog.info? 158).map (·.size)=some 1:=by kernel_rfl
theorem Aa:(Tryz.prog.info? 175).map (λi=>(i.zero,i.size,i.bytes))=some (some (.agg #[.int .i64 0, .int .i64 0, .int .i64 0]),3,24):=by kernel_rfl
theorem Qd:(Tryz.prog.info? 197).map (·.zero)=some (some (.agg #[.slice none 0 0])):=by kernel_rfl
theorem Om:(Tryz.prog.info? 199).map (·.size)=some 0:=by kernel_rfl
theorem Qc:(Tryz.prog.info? 199).map (·.zero)=some (some (.agg #[])):=by kernel_rfl
theorem Oh:(Tryz.prog.info? 219).map (·.zero)=some (some (.agg #[.slice none 0 0])):=by kernel_rfl
theorem Rq:Named Tryz.prog 5:=⟨Tryz.f5,Tryz.func5,by kernel_rfl,by kernel_rfl⟩
theorem Rh:Named Tryz.prog 7:=⟨Tryz.f7,Tryz.func7,by kernel_rfl,by kernel_rfl⟩
theorem QB:Named Tryz.prog 8:=⟨Tryz.f8,Tryz.func8,by kernel_rfl,by kernel_rfl⟩
theorem JJ:Named Tryz.prog 9:=⟨Tryz.f9,Tryz.func9,by kernel_rfl,by kernel_rfl⟩
theorem L1:Named Tryz.prog 10:=⟨Tryz.f10,Tryz.func10,by kernel_rfl,by kernel_rfl⟩
theorem L0:Named Tryz.prog 11:=⟨Tryz.f11,Tryz.func11,by kernel_rfl,by kernel_rfl⟩
theorem LS:Named Tryz.prog 12:=⟨Tryz.f12,Tryz.func12,by kernel_rfl,by kernel_rfl⟩
theorem LQ:Named Tryz.prog 14:=⟨Tryz.f14,Tryz.func14,by kernel_rfl,by kernel_rfl⟩
theorem Ft:Named Tryz.prog 15:=⟨Tryz.f15,Tryz.func15,by kernel_rfl,by kernel_rfl⟩
theorem O3:Named Tryz.prog 16:=⟨Tryz.f16,Tryz.func16,by kernel_rfl,by kernel_rfl⟩
theorem pY:Named Tryz.prog 17:=⟨Tryz.f17,Tryz.func17,by kernel_rfl,by kernel_rfl⟩
theorem QX:Named Tryz.prog 18:=⟨Tryz.f18,Tryz.func18,by kernel_rfl,by kernel_rfl⟩
theorem OW:Named Tryz.prog 19:=⟨Tryz.f19,Tryz.func19,by kernel_rfl,by kernel_rfl⟩
theorem QW:Named Tryz.prog 20:=⟨Tryz.f20,Tryz.func20,by kernel_rfl,by kernel_rfl⟩
theorem Bk:Named Tryz.prog 21:=⟨Tryz.f21,Tryz.func21,by kernel_rfl,by kernel_rfl⟩
theorem OV:Named Tryz.prog 22:=⟨Tryz.f22,Tryz.func22,by kernel_rfl,by kernel_rfl⟩
theorem QV:Named Tryz.prog 23:=⟨Tryz.f23,Tryz.func23,by kernel_rfl,by kernel_rfl⟩
theorem OU:Named Tryz.prog 24:=⟨Tryz.f24,Tryz.func24,by kernel_rfl,by kernel_rfl⟩
theorem NH:Named Tryz.prog 25:=⟨Tryz.f25,Tryz.func25,by kernel_rfl,by kernel_rfl⟩
theorem qH:Named Tryz.prog 26:=⟨Tryz.f26,Tryz.func26,by kernel_rfl,by kernel_rfl⟩
theorem QU:Named Tryz.prog 27:=⟨Tryz.f27,Tryz.func27,by kernel_rfl,by kernel_rfl⟩
theorem QT:Named Tryz.prog 28:=⟨Tryz.f28,Tryz.func28,by kernel_rfl,by kernel_rfl⟩
theorem QS:Named Tryz.prog 29:=⟨Tryz.f29,Tryz.func29,by kernel_rfl,by kernel_rfl⟩
theorem QR:Named Tryz.prog 30:=⟨Tryz.f30,Tryz.func30,by kernel_rfl,by kernel_rfl⟩
theorem OT:Named Tryz.prog 31:=⟨Tryz.f31,Tryz.func31,by kernel_rfl,by kernel_rfl⟩
theorem OS:Named Tryz.prog 32:=⟨Tryz.f32,Tryz.func32,by kernel_rfl,by kernel_rfl⟩
theorem OR:Named Tryz.prog 33:=⟨Tryz.f33,Tryz.func33,by kernel_rfl,by kernel_rfl⟩
theorem nG:Named Tryz.prog 34:=⟨Tryz.f34,Tryz.func34,by kernel_rfl,by kernel_rfl⟩
theorem QP:Named Tryz.prog 35:=⟨Tryz.f35,Tryz.func35,by kernel_rfl,by kernel_rfl⟩
theorem QO:Named Tryz.prog 36:=⟨Tryz.f36,Tryz.func36,by kernel_rfl,by kernel_rfl⟩
theorem JL:Named Tryz.prog 37:=⟨Tryz.f37,Tryz.func37,by kernel_rfl,by kernel_rfl⟩
theorem QN:Named Tryz.prog 38:=⟨Tryz.f38,Tryz.func38,by kernel_rfl,by kernel_rfl⟩
theorem QM:Named Tryz.prog 39:=⟨Tryz.f39,Tryz.func39,by kernel_rfl,by kernel_rfl⟩
theorem NG:Named Tryz.prog 40:=⟨Tryz.f40,Tryz.func40,by kernel_rfl,by kernel_rfl⟩
theorem NF:Named Tryz.prog 41:=⟨Tryz.f41,Tryz.func41,by kernel_rfl,by kernel_rfl⟩
theorem QL:Named Tryz.prog 42:=⟨Tryz.f42,Tryz.func42,by kernel_rfl,by kernel_rfl⟩
theorem NE:Named Tryz.prog 43:=⟨Tryz.f43,Tryz.func43,by kernel_rfl,by kernel_rfl⟩
theorem OQ:Named Tryz.prog 44:=⟨Tryz.f44,Tryz.func44,by kernel_rfl,by kernel_rfl⟩
theorem OP:Named Tryz.prog 45:=⟨Tryz.f45,Tryz.func45,by kernel_rfl,by kernel_rfl⟩
theorem OO:Named Tryz.prog 46:=⟨Tryz.f46,Tryz.func46,by kernel_rfl,by kernel_rfl⟩
theorem QK:Named Tryz.prog 47:=⟨Tryz.f47,Tryz.func47,by kernel_rfl,by kernel_rfl⟩
theorem QJ:Named Tryz.prog 48:=⟨Tryz.f48,Tryz.func48,by kernel_rfl,by kernel_rfl⟩
theorem ND:Named Tryz.prog 49:=⟨Tryz.f49,Tryz.func49,by kernel_rfl,by kernel_rfl⟩
theorem QI:Named Tryz.prog 50:=⟨Tryz.f50,Tryz.func50,by kernel_rfl,by kernel_rfl⟩
theorem QH:Named Tryz.prog 51:=⟨Tryz.f51,Tryz.func51,by kernel_rfl,by kernel_rfl⟩
theorem QG:Named Tryz.prog 52:=⟨Tryz.f52,Tryz.func52,by kernel_rfl,by kernel_rfl⟩
theorem ON:Named Tryz.prog 53:=⟨Tryz.f53,Tryz.func53,by kernel_rfl,by kernel_rfl⟩
theorem uI:Named Tryz.prog 54:=⟨Tryz.f54,Tryz.func54,by kernel_rfl,by kernel_rfl⟩
theorem NC:Named Tryz.prog 55:=⟨Tryz.f55,Tryz.func55,by kernel_rfl,by kernel_rfl⟩
theorem Fs:Named Tryz.prog 56:=⟨Tryz.f56,Tryz.func56,by kernel_rfl,by kernel_rfl⟩
theorem Ds:Named Tryz.prog 57:=⟨Tryz.f57,Tryz.func57,by kernel_rfl,by kernel_rfl⟩
theorem QF:Named Tryz.prog 58:=⟨Tryz.f58,Tryz.func58,by kernel_rfl,by kernel_rfl⟩
theorem OM:Named Tryz.prog 59:=⟨Tryz.f59,Tryz.func59,by kernel_rfl,by kernel_rfl⟩
theorem OL:Named Tryz.prog 60:=⟨Tryz.f60,Tryz.func60,by kernel_rfl,by kernel_rfl⟩
theorem QE:Named Tryz.prog 61:=⟨Tryz.f61,Tryz.func61,by kernel_rfl,by kernel_rfl⟩
theorem OK:Named Tryz.prog 62:=⟨Tryz.f62,Tryz.func62,by kernel_rfl,by kernel_rfl⟩
theorem NB:Named Tryz.prog 63:=⟨Tryz.f63,Tryz.func63,by kernel_rfl,by kernel_rfl⟩
theorem LP:Named Tryz.prog 64:=⟨Tryz.f64,Tryz.func64,by kernel_rfl,by kernel_rfl⟩
theorem NA:Named Tryz.prog 65:=⟨Tryz.f65,Tryz.func65,by kernel_rfl,by kernel_rfl⟩
theorem Nz:Named Tryz.prog 66:=⟨Tryz.f66,Tryz.func66,by kernel_rfl,by kernel_rfl⟩
theorem LO:Named Tryz.prog 67:=⟨Tryz.f67,Tryz.func67,by kernel_rfl,by kernel_rfl⟩
theorem Ny:Named Tryz.prog 68:=⟨Tryz.f68,Tryz.func68,by kernel_rfl,by kernel_rfl⟩
theorem uH:Named Tryz.prog 69:=⟨Tryz.f69,Tryz.func69,by kernel_rfl,by kernel_rfl⟩
theorem Nx:Named Tryz.prog 70:=⟨Tryz.f70,Tryz.func70,by kernel_rfl,by kernel_rfl⟩
theorem LN:Named Tryz.prog 71:=⟨Tryz.f71,Tryz.func71,by kernel_rfl,by kernel_rfl⟩
theorem QD:Named Tryz.prog 72:=⟨Tryz.f72,Tryz.func72,by kernel_rfl,by kernel_rfl⟩
theorem Nw:Named Tryz.prog 73:=⟨Tryz.f73,Tryz.func73,by kernel_rfl,by kernel_rfl⟩
theorem Nv:Named Tryz.prog 74:=⟨Tryz.f74,Tryz.func74,by kernel_rfl,by kernel_rfl⟩
theorem JK:Named Tryz.prog 75:=⟨Tryz.f75,Tryz.func75,by kernel_rfl,by kernel_rfl⟩
theorem Nu:Named Tryz.prog 76:=⟨Tryz.f76,Tryz.func76,by kernel_rfl,by kernel_rfl⟩
theorem Nt:Named Tryz.prog 77:=⟨Tryz.f77,Tryz.func77,by kernel_rfl,by kernel_rfl⟩
theorem OJ:Named Tryz.prog 78:=⟨Tryz.f78,Tryz.func78,by kernel_rfl,by kernel_rfl⟩
theorem QC:Named Tryz.prog 79:=⟨Tryz.f79,Tryz.func79,by kernel_rfl,by kernel_rfl⟩
theorem OI:Named Tryz.prog 80:=⟨Tryz.f80,Tryz.func80,by kernel_rfl,by kernel_rfl⟩
theorem QA:Named Tryz.prog 81:=⟨Tryz.f81,Tryz.func81,by kernel_rfl,by kernel_rfl⟩
theorem Ns:Named Tryz.prog 82:=⟨Tryz.f82,Tryz.func82,by kernel_rfl,by kernel_rfl⟩
theorem OH:Named Tryz.prog 83:=⟨Tryz.f83,Tryz.func83,by kernel_rfl,by kernel_rfl⟩
theorem Qz:Named Tryz.prog 84:=⟨Tryz.f84,Tryz.func84,by kernel_rfl,by kernel_rfl⟩
theorem Qy:Named Tryz.prog 85:=⟨Tryz.f85,Tryz.func85,by kernel_rfl,by kernel_rfl⟩
theorem OG:Named Tryz.prog 86:=⟨Tryz.f86,Tryz.func86,by kernel_rfl,by kernel_rfl⟩
theorem OF:Named Tryz.prog 87:=⟨Tryz.f87,Tryz.func87,by kernel_rfl,by kernel_rfl⟩
theorem Qx:Named Tryz.prog 88:=⟨Tryz.f88,Tryz.func88,by kernel_rfl,by kernel_rfl⟩
theorem Qw:Named Tryz.prog 89:=⟨Tryz.f89,Tryz.func89,by kernel_rfl,by kernel_rfl⟩
theorem Qv:Named Tryz.prog 90:=⟨Tryz.f90,Tryz.func90,by kernel_rfl,by kernel_rfl⟩
theorem Fq:Named Tryz.prog 91:=⟨Tryz.f91,Tryz.func91,by kernel_rfl,by kernel_rfl⟩
theorem OE:Named Tryz.prog 92:=⟨Tryz.f92,Tryz.func92,by kernel_rfl,by kernel_rfl⟩
theorem Nr:Named Tryz.prog 93:=⟨Tryz.f93,Tryz.func93,by kernel_rfl,by kernel_rfl⟩
theorem OD:Named Tryz.prog 94:=⟨Tryz.f94,Tryz.func94,by kernel_rfl,by kernel_rfl⟩
theorem Qu:Named Tryz.prog 95:=⟨Tryz.f95,Tryz.func95,by kernel_rfl,by kernel_rfl⟩
theorem Qs:Named Tryz.prog 96:=⟨Tryz.f96,Tryz.func96,by kernel_rfl,by kernel_rfl⟩
theorem Qr:Named Tryz.prog 97:=⟨Tryz.f97,Tryz.func97,by kernel_rfl,by kernel_rfl⟩
theorem Qq:Named Tryz.prog 98:=⟨Tryz.f98,Tryz.func98,by kernel_rfl,by kernel_rfl⟩
theorem Qp:Named Tryz.prog 99:=⟨Tryz.f99,Tryz.func99,by kernel_rfl,by kernel_rfl⟩
theorem JW:Named Tryz.prog 100:=⟨Tryz.f100,Tryz.func100,by kernel_rfl,by kernel_rfl⟩
theorem JV:Named Tryz.prog 101:=⟨Tryz.f101,Tryz.func101,by kernel_rfl,by kernel_rfl⟩
theorem Pm:Named Tryz.prog 102:=⟨Tryz.f102,Tryz.func102,by kernel_rfl,by kernel_rfl⟩
theorem Pl:Named Tryz.prog 103:=⟨Tryz.f103,Tryz.func103,by kernel_rfl,by kernel_rfl⟩
theorem GO:Named Tryz.prog 104:=⟨Tryz.f104,Tryz.func104,by kernel_rfl,by kernel_rfl⟩
theorem jI:Named Tryz.prog 105:=⟨Tryz.f105,Tryz.func105,by kernel_rfl,by kernel_rfl⟩
theorem MT:Named Tryz.prog 106:=⟨Tryz.f106,Tryz.func106,by kernel_rfl,by kernel_rfl⟩
theorem GN:Named Tryz.prog 107:=⟨Tryz.f107,Tryz.func107,by kernel_rfl,by kernel_rfl⟩
theorem MR:Named Tryz.prog 108:=⟨Tryz.f108,Tryz.func108,by kernel_rfl,by kernel_rfl⟩
theorem GM:Named Tryz.prog 109:=⟨Tryz.f109,Tryz.func109,by kernel_rfl,by kernel_rfl⟩
theorem Pk:Named Tryz.prog 110:=⟨Tryz.f110,Tryz.func110,by kernel_rfl,by kernel_rfl⟩
theorem kg:Named Tryz.prog 111:=⟨Tryz.f111,Tryz.func111,by kernel_rfl,by kernel_rfl⟩
theorem MP:Named Tryz.prog 112:=⟨Tryz.f112,Tryz.func112,by kernel_rfl,by kernel_rfl⟩
theorem GL:Named Tryz.prog 113:=⟨Tryz.f113,Tryz.func113,by kernel_rfl,by kernel_rfl⟩
theorem Pj:Named Tryz.prog 114:=⟨Tryz.f114,Tryz.func114,by kernel_rfl,by kernel_rfl⟩
theorem MO:Named Tryz.prog 115:=⟨Tryz.f115,Tryz.func115,by kernel_rfl,by kernel_rfl⟩
theorem JU:Named Tryz.prog 116:=⟨Tryz.f116,Tryz.func116,by kernel_rfl,by kernel_rfl⟩
theorem jH:Named Tryz.prog 117:=⟨Tryz.f117,Tryz.func117,by kernel_rfl,by kernel_rfl⟩
theorem JT:Named Tryz.prog 118:=⟨Tryz.f118,Tryz.func118,by kernel_rfl,by kernel_rfl⟩
theorem Dt:Named Tryz.prog 119:=⟨Tryz.f119,Tryz.func119,by kernel_rfl,by kernel_rfl⟩
theorem qI:Named Tryz.prog 120:=⟨Tryz.f120,Tryz.func120,by kernel_rfl,by kernel_rfl⟩
theorem zO:Named Tryz.prog 121:=⟨Tryz.f121,Tryz.func121,by kernel_rfl,by kernel_rfl⟩
theorem JS:Named Tryz.prog 122:=⟨Tryz.f122,Tryz.func122,by kernel_rfl,by kernel_rfl⟩
theorem JR:Named Tryz.prog 123:=⟨Tryz.f123,Tryz.func123,by kernel_rfl,by kernel_rfl⟩
theorem MN:Named Tryz.prog 124:=⟨Tryz.f124,Tryz.func124,by kernel_rfl,by kernel_rfl⟩
theorem JQ:Named Tryz.prog 125:=⟨Tryz.f125,Tryz.func125,by kernel_rfl,by kernel_rfl⟩
theorem JP:Named Tryz.prog 126:=⟨Tryz.f126,Tryz.func126,by kernel_rfl,by kernel_rfl⟩
theorem Pi:Named Tryz.prog 127:=⟨Tryz.f127,Tryz.func127,by kernel_rfl,by kernel_rfl⟩
theorem Ph:Named Tryz.prog 128:=⟨Tryz.f128,Tryz.func128,by kernel_rfl,by kernel_rfl⟩
theorem GK:Named Tryz.prog 129:=⟨Tryz.f129,Tryz.func129,by kernel_rfl,by kernel_rfl⟩
theorem Pg:Named Tryz.prog 130:=⟨Tryz.f130,Tryz.func130,by kernel_rfl,by kernel_rfl⟩
theorem Pf:Named Tryz.prog 131:=⟨Tryz.f131,Tryz.func131,by kernel_rfl,by kernel_rfl⟩
theorem Pe:Named Tryz.prog 132:=⟨Tryz.f132,Tryz.func132,by kernel_rfl,by kernel_rfl⟩
theorem MM:Named Tryz.prog 133:=⟨Tryz.f133,Tryz.func133,by kernel_rfl,by kernel_rfl⟩
theorem Pd:Named Tryz.prog 135:=⟨Tryz.f135,Tryz.func135,by kernel_rfl,by kernel_rfl⟩
theorem Pc:Named Tryz.prog 136:=⟨Tryz.f136,Tryz.func136,by kernel_rfl,by kernel_rfl⟩
theorem Pb:Named Tryz.prog 137:=⟨Tryz.f137,Tryz.func137,by kernel_rfl,by kernel_rfl⟩
theorem Pa:Named Tryz.prog 138:=⟨Tryz.f138,Tryz.func138,by kernel_rfl,by kernel_rfl⟩
theorem O9:Named Tryz.prog 139:=⟨Tryz.f139,Tryz.func139,by kernel_rfl,by kernel_rfl⟩
theorem O8:Named Tryz.prog 140:=⟨Tryz.f140,Tryz.func140,by kernel_rfl,by kernel_rfl⟩
theorem MK:Named Tryz.prog 141:=⟨Tryz.f141,Tryz.func141,by kernel_rfl,by kernel_rfl⟩
theorem MJ:Named Tryz.prog 142:=⟨Tryz.f142,Tryz.func142,by kernel_rfl,by kernel_rfl⟩
theorem MI:Named Tryz.prog 143:=⟨Tryz.f143,Tryz.func143,by kernel_rfl,by kernel_rfl⟩
theorem GJ:Named Tryz.prog 144:=⟨Tryz.f144,Tryz.func144,by kernel_rfl,by kernel_rfl⟩
theorem MH:Named Tryz.prog 145:=⟨Tryz.f145,Tryz.func145,by kernel_rfl,by kernel_rfl⟩
theorem O7:Named Tryz.prog 146:=⟨Tryz.f146,Tryz.func146,by kernel_rfl,by kernel_rfl⟩
theorem O6:Named Tryz.prog 147:=⟨Tryz.f147,Tryz.func147,by kernel_rfl,by kernel_rfl⟩
theorem ky:Named Tryz.prog 148:=⟨Tryz.f148,Tryz.func148,by kernel_rfl,by kernel_rfl⟩
theorem JO:Named Tryz.prog 149:=⟨Tryz.f149,Tryz.func149,by kernel_rfl,by kernel_rfl⟩
theorem zN:Named Tryz.prog 150:=⟨Tryz.f150,Tryz.func150,by kernel_rfl,by kernel_rfl⟩
theorem JN:Named Tryz.prog 151:=⟨Tryz.f151,Tryz.func151,by kernel_rfl,by kernel_rfl⟩
theorem JM:Named Tryz.prog 152:=⟨Tryz.f152,Tryz.func152,by kernel_rfl,by kernel_rfl⟩
theorem nH:Named Tryz.prog 153:=⟨Tryz.f153,Tryz.func153,by kernel_rfl,by kernel_rfl⟩
theorem MG:Named Tryz.prog 155:=⟨Tryz.f155,Tryz.func155,by kernel_rfl,by kernel_rfl⟩
theorem MF:Named Tryz.prog 156:=⟨Tryz.f156,Tryz.func156,by kernel_rfl,by kernel_rfl⟩
theorem xr:Named Tryz.prog 157:=⟨Tryz.f157,Tryz.func157,by kernel_rfl,by kernel_rfl⟩
theorem O4:Named Tryz.prog 158:=⟨Tryz.f158,Tryz.func158,by kernel_rfl,by kernel_rfl⟩
theorem ME:Named Tryz.prog 159:=⟨Tryz.f159,Tryz.func159,by kernel_rfl,by kernel_rfl⟩
theorem O2:Named Tryz.prog 160:=⟨Tryz.f160,Tryz.func160,by kernel_rfl,by kernel_rfl⟩
theorem MD:Named Tryz.prog 161:=⟨Tryz.f161,Tryz.func161,by kernel_rfl,by kernel_rfl⟩
theorem O1:Named Tryz.prog 179:=⟨Tryz.f179,Tryz.func179,by kernel_rfl,by kernel_rfl⟩
theorem O0:Named Tryz.prog 180:=⟨Tryz.f180,Tryz.func180,by kernel_rfl,by kernel_rfl⟩
theorem OY:Named Tryz.prog 181:=⟨Tryz.f181,Tryz.func181,by kernel_rfl,by kernel_rfl⟩
theorem OX:Named Tryz.prog 182:=⟨Tryz.f182,Tryz.func182,by kernel_rfl,by kernel_rfl⟩
abbrev DT:=Leg.Does Tryz.prog
abbrev NM:=Leg.Named Tryz.prog
theorem nk {f : FuncId} {fn : Func} (h : Tryz.prog.funcs[f]? = some fn) (a : (fn.name == "runtime.NumGoroutine") = false := by kernel_rfl) (b : fn.body.isNone = false := by kernel_rfl) : NM f := ⟨fn, h, a, b⟩
end Go.Proofs.YtmcjhkbcmmddgaaGreat
end

section
namespace Leg
open Go
section
variable {P:Program} {w0:World} {F:Hl} {n:Nat} {ops:Array Oper} {Q:QQ} {D:List Deferred} {L:List (Nat×Value)} {H:List HP} {o:Oper} {l:List Oper} {d:Nat} {S:World→Prop}
def DoesD(P:Program)(f:FuncId)(args:Array Value)(u:FrameMode)(R:Hl→Prop)(H:List HP)(post:Ending→FrameMode→List HP→Prop):Prop:=
 ∀w F,R F→Sat H F w→CallsD P f args u w λe u' w'=>Same w w'∧∃H',Sat H' F w'∧post e u' H'
def JD(P:Program)(fn:Func)(c0:Frame)(cs:List Frame)(post:Ending→FrameMode→List HP→Prop)(w0:World)(F:Hl)(u':FrameMode):QQ:=λe a w=>
 bodyPostS P fn c0 cs (λe u w'=>Same w0 w'∧∃H',Sat H' F w'∧post e u H') e a ({c0 with mode:=u'}::cs) w
theorem DoesD.recover2{f:FuncId}{fn:Func}{id d0 d1:Nat}{o0 o1:Oper}{rest:Code}{vs:List Value}{u u':FrameMode}{rv:Value}{R:Hl→Prop}{post:Ending→FrameMode→List HP→Prop}
 (hf:P.funcs[f]?=some fn) (hb:fn.body=some (.seq (.region id #[o0,o1] false) rest)) (hm:fn.ntmps=n) (hl:Nat.ble vs.length n=true)
 (h0:o0.op= .call {callee:= .builtin .recover,args:=#[],argTypes:=#[]}) (hg0:o0.guard=none) (hd0:o0.dst=some d0) (hn0:Nat.blt d0 n=true)
 (h1:o1.op= .assign (.tmp d0)) (hg1:o1.guard=none) (hd1:o1.dst=some d1) (hn1:Nat.blt d1 n=true)
 (hrec: ∀(c0:Frame) (cs:List Frame),c0.mode=u→(match recoverD (c0::cs)with|some (v,cs')=>(v,cs')|none=>(Value.nilIface,c0::cs))=(rv,{c0 with mode:=u'}::cs))
 (h: ∀w0 F c0 cs,R F→TC P w0 F n rest (JD P fn c0 cs post w0 F u') [] ((d1,rv)::(d0,rv)::oy 0 vs) H):DoesD P f vs.toArray u R H post:=by
 intro w F r m;refine callsD_of_wpS hf hb λc0 cs hu=>?_
 refine wpS_seq ?_;refine wpS_region ?_;subst hm;have hn:vs.length≤fn.ntmps:=fh hl
 have fr:Fr fn.ntmps [] (oy 0 vs) {tmps:=vs.toArray++Array.replicate (fn.ntmps-vs.toArray.size) undef,defers:=[]}:=⟨by simp;omega,rfl,λt v e=>by
  obtain⟨_,h2⟩:=q8 vs 0 t v e
  exact getElem?_args _ _ _ _ (by simpa using h2)⟩
 generalize hA:({tmps:=vs.toArray++Array.replicate (fn.ntmps-vs.toArray.size) undef,defers:=[]}:Act)=A at fr ⊢;have hr:=hrec c0 cs hu;have e0:(execOp A.eval o0).run P w= .ok .recover w:=by simp[execOp,h0,resolve,invoke,builtin]
 have main:(λ(a:Act) (cs':List Frame)=>wpOpsS P #[o0,o1] (Exit.thenS (rest.wpS P (bodyPostS P fn c0 cs λe u w'=>Same w w'∧∃H',Sat H' F w'∧post e u H')) (bodyPostS P fn c0 cs λe u w'=>Same w w'∧∃H',Sat H' F w'∧post e u H')) [1] a cs' w) (A.put (some d0) rv) ({c0 with mode:=u'}::cs):=by
  have f1:=fr.put (lb hn0) rv
  have e1:(execOp (A.put (some d0) rv).eval o1).run P w= .ok (.value rv) w:=by
   have:=f1.eval (x:= .tmp d0) (v:=rv) (by simp[cK,lk]);simp[execOp,h1,this]
  simp only[wpOpsS,show(#[o0,o1]:Array Oper)[1]?=some o1 from rfl];rw[if_pos (by simp[Region.wanted,hg1])];rw[e1];simp only[Oper.upon,hd1];exact wpS_of_wp (h w F c0 cs r _ w (f1.put (lb hn1) rv) (sF w) m)
 show wpOpsS P #[o0,o1] _ [0,1] A (c0::cs) w;rw[wpOpsS];simp only[show(#[o0,o1]:Array Oper)[0]?=some o0 from rfl];rw[if_pos (by simp[Region.wanted,hg0])];rw[e0];simp only[hd0];split at hr
 · rename_i v cs' hh
   simp only[hh];cases hr;exact main
 · rename_i hh
   simp only[hh];injection hr with hr1 hr2
   subst hr1;rw[hr2];exact main
theorem TE.retS0{fn:Func}{c0:Frame}{cs:List Frame}{post:Ending→FrameMode→List HP→Prop}{u':FrameMode}(hr:fn.results=#[])(h:post (.returned (.tuple #[])) u' H):TE w0 F n (JD P fn c0 cs post w0 F u') .ret [] L H:=
 λa w f s m=>⟨f.2.1,u',rfl,_,results_none hr _ _ _,s,H,m,h⟩
theorem TE.endS0{fn:Func}{c0:Frame}{cs:List Frame}{post:Ending→FrameMode→List HP→Prop}{u':FrameMode}(hr:fn.results=#[])(h:post (.returned (.tuple #[])) u' H):TE w0 F n (JD P fn c0 cs post w0 F u') .normal [] L H:=
 λa w f s m=>⟨f.2.1,u',rfl,_,results_none hr _ _ _,s,H,m,h⟩
theorem TL.deferFn{x:Operand}{fv:Fn}{cap:Array Value}(hw:Want n D ops o L)(ho:o.op= .defer {callee:= .value x,args:=#[],argTypes:=#[]})(hd:o.dst=none)(hx:cK L x=some (.func fv #[] cap))
 (h:TL P w0 F n ops Q l ({target:= .fn fv cap,args:=#[]}::D) L H):TL P w0 F n ops Q (o::l) D L H:=
 mJ hw λa w f s m=>by
  unfold Oper.wp;have r:(execOp a.eval o).run P w= .ok (.defer {target:= .fn fv cap,args:=#[]}) w:=by simp[execOp,ho,resolve,f.eval hx,Deferred.ofValue]
  rw[r,Oper.upon_defer,hd];exact h _ w ⟨f.1,by simp[Act.put,f.2.1],f.2.2⟩ s m
theorem Does.bodyD{f:FuncId}{fn:Func}{c:Code}{vs:List Value}{R:Hl→Prop}{post:Ending→List HP→Prop}
 (hf:P.funcs[f]?=some fn) (hb:fn.body=some c) (hm:fn.ntmps=n) (hl:Nat.ble vs.length n=true)
 (h: ∀w0 F,R F→TC P w0 F n c (bodyPostD P fn (jD post w0 F)) [] (oy 0 vs) H):Does P f vs.toArray R H post:=by
 intro w F r m;subst hm;have hn:vs.length≤fn.ntmps:=fh hl;refine calls_of_wp_defers hf hb (h w F r _ w ⟨?_,rfl,λt v e=>?_⟩ (sF w) m)
 · simp;omega
 · obtain⟨_,h2⟩:=q8 vs 0 t v e
   exact getElem?_args _ _ _ _ (by simpa using h2)
theorem sh{fn:Func}{post:Ending→List HP→Prop}{f:FuncId}{cap:Array Value}{u:FrameMode}{R:Hl→Prop}{A B H':List HP}{p:List HP→Prop}{t ty b e:Nat}{dt:TypeDesc}{a:Act}{w:World}
 (fr:Fr n [{target:= .fn (.func f) cap,args:=#[]}] L a) (sm:Same w0 w) (m:Sat H F w) (hu:u≠ .run) (hf:Named P f)
 (sp:DoesD P f cap u R A (λe u' H=>e= .returned (.tuple #[])∧settle u'= .returning∧p H)) (hp: ∀h,bz H h→bz (A++B) h) (hR: ∀g,Dj g F→bz B g→R (jn g F))
 (hr:fn.results=#[.cell t ty]) (he:lk L t=some (.pointer (some ⟨b,0,none⟩))) (ht:P.underlying ty=some dt) (hpl:dR dt=true)
 (hpost: ∀H1,p H1→∃(cs:List Value) (v:Value),Rd (Sat (H1++B) F) b (.cells cs.toArray e (0,0))∧cs[0]?=some v∧(∀h,bz (H1++B) h→bz H' h)∧post (.returned v) H'):
 Leaves P fn a.tmps (jD post w0 F) a.defers u w:=by
 rw[fr.2.1];refine leaves_cons (f:=f) (args:=cap) hu (by simp[invoke,mY hf]) ?_;obtain⟨g,dg,sb,m'⟩:=Sat.split (m.mono hp);refine(sp w _ (hR g dg sb) m').mono ?_
 rintro e u' w' ⟨s',H1,m1,rfl,h2,h3⟩
 obtain⟨cs,v,q1,q2,q3,q4⟩:=hpost H1 h3;have m2:=m1.merge dg sb;show Leaves P fn a.tmps _ [] (settle u') w';rw[h2];have h1:a.tmps.getD t undef= .pointer (some ⟨b,0,none⟩):=fr.eval (x:= .tmp t) he;have h1':a.tmps[t]?.getD undef= .pointer (some ⟨b,0,none⟩):=by simpa using h1
 have hc':w'.cell? ⟨b,0,none⟩=some v:=by rw[oX (q1 w' m2)];exact q2
 exact⟨v,by simp[results,hr,h1',asAddr,loadVar,nD ht,hpl,load,Sem.run,hc'],sm.trans s',H',m2.mono q3,q4⟩
theorem TL.callv{x:Operand}{f:FuncId}{cap:List Value}{xs:Array Operand}{ts:Array TypeId}{vs:List Value}{R:Hl→Prop}{A B:List HP}{post:Ending→List HP→Prop}(hw:Want n D ops o L)
 (ho:o.op= .call {callee:= .value x,args:=xs,argTypes:=ts}) (hd:o.dst=some d) (hn:Nat.blt d n=true) (hxf:cK L x=some (.func (.func f) #[] cap.toArray)) (hf:Named P f) (hx:Bu L xs.toList=some vs)
 (sp:Does P f (vs++cap).toArray R A post) (hp: ∀h,bz H h→bz (A++B) h) (hR: ∀g,Dj g F→bz B g→R (jn g F))
 (hout: ∀H',¬post .outgrown H')
 (hpan: ∀c H',post (.panicked c) H'→TE w0 F n Q (.panic c) D L (H'++B))
 (hret: ∀v H',post (.returned v) H'→TL P w0 F n ops Q l D ((d,v)::L) (H'++B)):TL P w0 F n ops Q (o::l) D L H:=
 TL.callw hw (λa w g=>by
  have e:xs.map a.eval=vs.toArray:=g.evals hx
  simp[execOp,ho,resolve,g.eval hxf,Deferred.ofValue,invoke,e,mY hf])
  sp hp hR (λv H' q a g w s m=>by rw[hd];exact hret v H' q _ w (g.put (lb hn) v) s m) hpan hout
theorem TL.callRv{x:Operand}{f:FuncId}{cap:List Value}{xs:Array Operand}{ts:Array TypeId}{vs:List Value}{R:Hl→Prop}{A B:List HP}{p:Value→List HP→Prop}(hw:Want n D ops o L)
 (ho:o.op= .call {callee:= .value x,args:=xs,argTypes:=ts}) (hd:o.dst=some d) (hn:Nat.blt d n=true) (hxf:cK L x=some (.func (.func f) #[] cap.toArray)) (hf:Named P f) (hx:Bu L xs.toList=some vs)
 (sp:Does P f (vs++cap).toArray R A (dH p)) (hp: ∀h,bz H h→bz (A++B) h) (hR: ∀g,Dj g F→bz B g→R (jn g F))
 (hret: ∀v H',p v H'→TL P w0 F n ops Q l D ((d,v)::L) (H'++B)):TL P w0 F n ops Q (o::l) D L H:=
 TL.callv hw ho hd hn hxf hf hx sp hp hR (λ_ h=>h) (λ_ _ h=>h.elim) hret
theorem TL.callPv{x:Operand}{f:FuncId}{cap:List Value}{xs:Array Operand}{ts:Array TypeId}{vs:List Value}{R:Hl→Prop}{A B:List HP}{p:Value→List HP→Prop}{q:List PanicEntry→List HP→Prop}(hw:Want n D ops o L)
 (ho:o.op= .call {callee:= .value x,args:=xs,argTypes:=ts}) (hd:o.dst=some d) (hn:Nat.blt d n=true) (hxf:cK L x=some (.func (.func f) #[] cap.toArray)) (hf:Named P f) (hx:Bu L xs.toList=some vs)
 (sp:Does P f (vs++cap).toArray R A (vY p q)) (hp: ∀h,bz H h→bz (A++B) h) (hR: ∀g,Dj g F→bz B g→R (jn g F))
 (hpan: ∀c H',q c H'→TE w0 F n Q (.panic c) D L (H'++B))
 (hret: ∀v H',p v H'→TL P w0 F n ops Q l D ((d,v)::L) (H'++B)):TL P w0 F n ops Q (o::l) D L H:=
 TL.callv hw ho hd hn hxf hf hx sp hp hR (λ_ h=>h) hpan hret
theorem rE{w:World}(k:Nat){t u:TypeId}{v:Value}{ms:Array (String×TypeId)}(ht:P.underlying t=some (.interface ms)):(Op.equalIn (k+1) t (.iface u v) .nilIface).run P w= .ok false w:=by
 simp[Op.equalIn,run_underlying ht]
theorem DR{w:World}(k:Nat){t:TypeId}{ms:Array (String×TypeId)}(ht:P.underlying t=some (.interface ms)):(Op.equalIn (k+1) t .nilIface .nilIface).run P w= .ok true w:=by
 simp[Op.equalIn,run_underlying ht]
theorem Bv{w:World}(k:Nat){t:TypeId}{f:Fn}{c e:Array Value}{ps rs:Array TypeId}{vr:Bool}(ht:P.underlying t=some (.func ps rs vr)):(Op.equalIn (k+1) t (.func f c e) .nilFunc).run P w= .ok false w:=by
 simp[Op.equalIn,run_underlying ht]
theorem PV.ifaceNil{t t' u:TypeId}{x:Operand}{v:Value}{ms:Array (String×TypeId)}(ho:o.op= .binOp .eql t x (.const .nilIface) t')(ht:P.underlying t=some (.interface ms))(hx:cK L x=some (.iface u v)):PV P n D L S o (.bool false):=
 gT ho hx rfl λw=>by
  have:=rE (P:=P) (w:=w) 9999 (u:=u) (v:=v) ht;simp[eqGuard,binOp,Op.equal,Op.maxDepth,this]
theorem PV.nilNil{t t':TypeId}{x:Operand}{ms:Array (String×TypeId)}(ho:o.op= .binOp .eql t x (.const .nilIface) t')(ht:P.underlying t=some (.interface ms))(hx:cK L x=some .nilIface):PV P n D L S o (.bool true):=
 gT ho hx rfl λw=>by
  have:=DR (P:=P) (w:=w) 9999 ht;simp[eqGuard,binOp,Op.equal,Op.maxDepth,this]
theorem PV.funcNeqNil{t t':TypeId}{x:Operand}{f:Fn}{c e:Array Value}{ps rs:Array TypeId}{vr:Bool}(ho:o.op= .binOp .neq t x (.const .nilFunc) t')(ht:P.underlying t=some (.func ps rs vr))(hx:cK L x=some (.func f c e)):PV P n D L S o (.bool true):=
 gT ho hx rfl λw=>by
  have:=Bv (P:=P) (w:=w) 9999 (f:=f) (c:=c) (e:=e) ht;simp[eqGuard,binOp,Op.equal,Op.maxDepth,this]
theorem PV.assert{t u:TypeId}{x:Operand}{v:Value}{dt:TypeDesc}(ho:o.op= .typeAssert x t u true)(ht:P.underlying u=some dt)(hc:(match dt with| .interface _=>false|_=>true)=true)(hx:cK L x=some (.iface u v)):PV P n D L S o (.tuple #[v, .bool true]):=λa w g _=>by
 cases dt<;>simp_all [execOp,g.eval hx,Instr.typeAssert,run_underlying ht]
theorem PV.extract{x:Operand}{i:Nat}{vs:List Value}{v:Value}(ho:o.op= .extract x i)(hx:cK L x=some (.tuple vs.toArray))(hv:vs[i]?=some v):PV P n D L S o v:=λa w g _=>by
 simp[execOp,ho,g.eval hx,Instr.extract,hv]
abbrev iy:= @PV.extract
theorem TL.ownNil(e:Nat)(h:True→TL P w0 F n ops Q l D L (dZ (.slice none 0 0) [] e::H)):TL P w0 F n ops Q l D L H:=λa w f s m=>
 h trivial a w f s (m.mono λg x=>⟨em,g,Ex g,(rG g).symm,⟨rfl, .inl ⟨rfl,rfl,rfl⟩⟩,x⟩)
def all(H:List HP):HP:=λh=>bz H h
theorem Lu{H:List HP}{h:Hl}(s:bz H h):bz [all H] h:=⟨h,em,Dj.em h,(MV h).symm,s,trivial⟩
theorem rW{p:HP}{h:Hl}(x:p h):bz [p] h:=⟨h,em,Dj.em h,(MV h).symm,x,trivial⟩
theorem Ms{H:List HP}{h:Hl}(s:bz [all H] h):bz H h:=by
 obtain⟨h1,h2,d,rfl,a,_⟩:=s;exact lY H a d
theorem w3{p:HP}{H H':List HP}{h:Hl}(s:bz (p::H) h)(f: ∀h,bz H h→bz H' h):bz (p::H') h:=cF s (λ_ x=>x) f
theorem Does.conv{f:FuncId}{args:Array Value}{R:Hl→Prop}{A A':List HP}{post post':Ending→List HP→Prop}(s:Does P f args R A post)(hA: ∀h,bz A' h→bz A h)
 (hpost: ∀e H F w,post e H→Sat H F w→∃H',Sat H' F w∧post' e H'):Does P f args R A' post':=λw F r m=>
 (s w F r (m.mono hA)).mono λe w' ⟨a,H',b,c⟩=>let ⟨H2,m2,c2⟩:=hpost e H' F w' c b;⟨a,H2,m2,c2⟩
def Frm(F:Hl)(w:World):Prop:=∀b o,F b=some o→w.heap[b]?=some o
theorem Frm.of{w:World}(s:Sat H F w):Frm F w:=λ_ _ e=>s.frame e
abbrev fE:= @Frm.of
def pU(v:Value)(m:Nat):Prop:=∃a c,v= .slice a m c
theorem PV.lenV{t:TypeId}{e:TypeId}{x:Operand}{v:Value}{m:Nat}(ho:o.op= .call {callee:= .builtin .len,args:=#[x],argTypes:=#[t]})(ht:P.underlying t=some (.slice e))(hx:cK L x=some v)(hv:pU v m):
 PV P n D L S o (.int .i64 m):=λb w g _=>by
 obtain⟨a,c,rfl⟩:=hv;simp[execOp,ho,resolve,g.eval hx,invoke,builtin,Builtin.len_,run_underlying ht,goInt]
abbrev eA:= @PV.lenV
end
variable {P:Program} {w0:World} {F:Hl} {n:Nat} {ops:Array Oper} {Q:QQ} {D:List Deferred} {L:List (Nat×Value)} {H:List HP} {d:Nat} {o:Oper} {l:List Oper}
theorem PU{P:Program}{n:Nat}{D:List Deferred}{L:List (Nat×Value)}{S:World→Prop}{o:Oper}{v:Value}(h:PV P n D L S o v:=by first|exact kn rfl rfl|exact Rn rfl rfl|exact gR rfl rfl|exact PF rfl rfl rfl|exact yV rfl rfl rfl|exact PV.lss rfl rfl rfl|exact PV.neq rfl rfl rfl|exact PV.gtr rfl rfl rfl|exact PV.geq rfl rfl rfl|exact PV.leq rfl rfl rfl|exact iy rfl rfl rfl|exact nc (r:=true) rfl rfl rfl|exact nc (r:=false) rfl rfl rfl):PV P n D L S o v:=h
theorem PS{v:Value}(h:TL P w0 F n ops Q l D ((d,v)::L) H)(hw:Want n D ops o L:=by first|exact ab rfl|exact cd rfl rfl rfl)(hd:o.dst=some d:=by exact rfl)(hn:Nat.blt d n=true:=by exact rfl)(h1:PV P n D L (Sat H F) o v:=by exact PU):TL P w0 F n ops Q (o::l) D L H:=ml hw hd hn h1 h
theorem PD{S:World→Prop}{d fuel:Nat}{listed:Array Bool}{o:Oper}{v:Value}(i:Nat)(h:TD P w0 F n ops Q S fuel (listed.setIfInBounds i true) D ((d,v)::L) H)(hi:ops[i]?=some o:=by exact rfl)(hw:Want n D ops o L:=by first|exact ab rfl|exact cd rfl rfl rfl)(hd:o.dst=some d:=by exact rfl)(hn:Nat.blt d n=true:=by exact rfl)(h1:PV P n D L S o v:=by exact PU)(hs:(Region.noSelect ops&&Region.free .any ops listed i&&(Region.ready .any ops listed).contains i)=true:=by kernel_rfl)(hQ: ∀c a v w,Q (.panic c) (a.put o.dst v) w→Q (.panic c) a w:=by exact λ_ _ _ _ h=>h):TD P w0 F n ops Q S (fuel+1) listed D L H:=by
  rw[an,an]at hs;exact KJ hi hs.1.1 hs.1.2 hs.2 hQ hw hd hn h1 h
theorem FA{t ft:TypeId}{x:Operand}{i b j m:Nat}{fs:Array Field}{f:Field}(r:Nat)(ht:P.underlying t=some (.struct fs))(hz:(P.info? ft).map (·.size)=some (m+1))(h:TL P w0 F n ops Q l D ((d, .pointer (some ⟨b,r,none⟩))::L) H)(hw:Want n D ops o L:=by first|exact ab rfl|exact cd rfl rfl rfl)(hd:o.dst=some d:=by exact rfl)(hn:Nat.blt d n=true:=by exact rfl)(ho:o.op= .fieldAddr t x i:=by exact rfl)(hf:fs[i]?=some f:=by exact rfl)(hty:f.type=ft:=by exact rfl)(hx:cK L x=some (.pointer (some ⟨b,j,none⟩)):=by exact rfl)(hr:j+f.offset=r:=by exact rfl):TL P w0 F n ops Q (o::l) D L H:=by
  subst hty;exact ml hw hd hn (bc ho ht hf hz hx hr) h
theorem FD{S:World→Prop}{d fuel:Nat}{listed:Array Bool}{o:Oper}{t ft:TypeId}{x:Operand}{i b j m:Nat}{fs:Array Field}{f:Field}(k r:Nat)(ht:P.underlying t=some (.struct fs))(hz:(P.info? ft).map (·.size)=some (m+1))(h:TD P w0 F n ops Q S fuel (listed.setIfInBounds k true) D ((d, .pointer (some ⟨b,r,none⟩))::L) H)(hi:ops[k]?=some o:=by exact rfl)(hw:Want n D ops o L:=by first|exact ab rfl|exact cd rfl rfl rfl)(hd:o.dst=some d:=by exact rfl)(hn:Nat.blt d n=true:=by exact rfl)(ho:o.op= .fieldAddr t x i:=by exact rfl)(hf:fs[i]?=some f:=by exact rfl)(hty:f.type=ft:=by exact rfl)(hx:cK L x=some (.pointer (some ⟨b,j,none⟩)):=by exact rfl)(hr:j+f.offset=r:=by exact rfl)(hs:(Region.noSelect ops&&Region.free .any ops listed k&&(Region.ready .any ops listed).contains k)=true:=by kernel_rfl)(hQ: ∀c a v w,Q (.panic c) (a.put o.dst v) w→Q (.panic c) a w:=by exact λ_ _ _ _ h=>h):TD P w0 F n ops Q S (fuel+1) listed D L H:=by
  subst hty;rw[an,an]at hs;exact KJ hi hs.1.1 hs.1.2 hs.2 hQ hw hd hn (bc ho ht hf hz hx hr) h
theorem RO{F:Hl}{H:List HP}{b:Nat}{cs:List Value}{e:TypeId}(k:Nat)(hk:Nat.blt k H.length=true:=by exact rfl)(hH:H.getD k (λ_=>True)=ah b cs e:=by exact rfl):Rd (Sat H F) b (.cells cs.toArray e (0,0)):=fD k hk hH
theorem UT{j d':Nat}(h:TL P w0 F n ops Q l D ((d,undef)::L) H)(hg:o.guard=some (j,false):=by exact rfl)(hj:(ops[j]?).bind (·.dst)=some d':=by exact rfl)(e:lk L d'=some (.bool true):=by exact rfl)(hd:o.dst=some d:=by exact rfl)(hn:Nat.blt d n=true:=by exact rfl):TL P w0 F n ops Q (o::l) D L H:=qT (b:=true) hg hj e hd (lb hn) h
theorem UF{j d':Nat}(h:TL P w0 F n ops Q l D ((d,undef)::L) H)(hg:o.guard=some (j,true):=by exact rfl)(hj:(ops[j]?).bind (·.dst)=some d':=by exact rfl)(e:lk L d'=some (.bool false):=by exact rfl)(hd:o.dst=some d:=by exact rfl)(hn:Nat.blt d n=true:=by exact rfl):TL P w0 F n ops Q (o::l) D L H:=qT (b:=false) hg hj e hd (lb hn) h
theorem NT{S:World→Prop}{d fuel j e:Nat}{b:Bool}{listed:Array Bool}{o:Oper}(i:Nat)(h:TD P w0 F n ops Q S fuel (listed.setIfInBounds i true) D ((d,undef)::L) H)(hi:ops[i]?=some o:=by exact rfl)(hg:o.guard=some (j,b):=by exact rfl)(hj:(ops[j]?).bind (·.dst)=some e:=by exact rfl)(he:lk L e=some (.bool (!b)):=by exact rfl)(hd:o.dst=some d:=by exact rfl)(hn:Nat.blt d n=true:=by exact rfl)(hs:(Region.noSelect ops&&Region.free .any ops listed i&&(Region.ready .any ops listed).contains i)=true:=by kernel_rfl)(hQ: ∀c a v w,Q (.panic c) (a.put o.dst v) w→Q (.panic c) a w:=by exact λ_ _ _ _ h=>h):TD P w0 F n ops Q S (fuel+1) listed D L H:=by
  rw[an,an]at hs;exact TD.takeNot (b:= !b) hi hs.1.1 hs.1.2 hs.2 hQ (by rw[Bool.not_not];exact hg) hj he hd hn h
theorem LB{l:List Value}{j n:Nat}(h:l.length=n)(hj:Nat.blt j n=true:=by first|exact rfl|exact Nat.ble_eq_true_of_le (by omega)):j<l.length:=h▸lb hj
theorem LC{l v:List Value}{j n m:Nat}(h:l.length=n)(g:v.length=m)(hj:Nat.ble (j+m) n=true:=by first|exact rfl|exact Nat.ble_eq_true_of_le (by omega)):j+v.length≤l.length:=by rw[h,g];exact fh hj
theorem WK{e:Exit}(is:List Nat)(h:TE w0 F n Q e D L ((C3 H is).take is.length))(hk:LK H.length is=true:=by exact rfl):TE w0 F n Q e D L H:=aF (dV _) (λ_ s=>ak is hk s) h
theorem SM{H:List HP}(is:List Nat)(hk:LK H.length is=true:=by exact rfl): ∀h,bz H h→bz (C3 H is) h:=λ_ s=>az is hk s
theorem CR{f:FuncId}{xs:Array Operand}{ts:Array TypeId}{vs:List Value}{A B:List HP}{p:Value→List HP→Prop}(hf:Named P f)(sp:Does P f vs.toArray (λ_=>True) A (dH p))(hp: ∀h,bz H h→bz (A++B) h)(hret: ∀v H',p v H'→TL P w0 F n ops Q l D ((d,v)::L) (H'++B))(hw:Want n D ops o L:=by first|exact ab rfl|exact cd rfl rfl rfl)(hd:o.dst=some d:=by exact rfl)(hn:Nat.blt d n=true:=by exact rfl)(ho:o.op= .call {callee:= .value (.func f),args:=xs,argTypes:=ts}:=by exact rfl)(hx:Bu L xs.toList=some vs:=by exact rfl):TL P w0 F n ops Q (o::l) D L H:=lC hw ho hd hn hf hx sp hp (λ_ _ _=>trivial) hret
theorem CQ{f:FuncId}{xs:Array Operand}{ts:Array TypeId}{vs:List Value}{R:Hl→Prop}{A B:List HP}{p:Value→List HP→Prop}(hf:Named P f)(sp:Does P f vs.toArray R A (dH p))(hp: ∀h,bz H h→bz (A++B) h)(hR: ∀g,Dj g F→bz B g→R (jn g F))(hret: ∀v H',p v H'→TL P w0 F n ops Q l D ((d,v)::L) (H'++B))(hw:Want n D ops o L:=by first|exact ab rfl|exact cd rfl rfl rfl)(hd:o.dst=some d:=by exact rfl)(hn:Nat.blt d n=true:=by exact rfl)(ho:o.op= .call {callee:= .value (.func f),args:=xs,argTypes:=ts}:=by exact rfl)(hx:Bu L xs.toList=some vs:=by exact rfl):TL P w0 F n ops Q (o::l) D L H:=lC hw ho hd hn hf hx sp hp hR hret
theorem D0{id m:Nat}{l:List Oper}(hm:P.follows .mixedOrders=true)(h:TD P w0 F n l.toArray Q (λw=>Frm F w∧True) m (Array.replicate m false) D L H)(hl:l.toArray.size=m:=by exact rfl):TC P w0 F n (.region id l.toArray true) Q D L H:=oZ _ hm hl (λ_ s=>⟨fE s,trivial⟩) h
theorem D1{id m:Nat}{l:List Oper}{b:Nat}{cs:List Value}{e:TypeId}(k:Nat)(hm:P.follows .mixedOrders=true)(h:TD P w0 F n l.toArray Q (λw=>Frm F w∧w.heap[b]?=some (.cells cs.toArray e (0,0))∧True) m (Array.replicate m false) D L H)(hl:l.toArray.size=m:=by exact rfl)(hk:Nat.blt k H.length=true:=by exact rfl)(hH:H.getD k (λ_=>True)=ah b cs e:=by exact rfl):TC P w0 F n (.region id l.toArray true) Q D L H:=oZ _ hm hl (λ_ s=>⟨fE s,s.block k (lb hk) hH,trivial⟩) h
theorem D2{id m:Nat}{l:List Oper}{b b':Nat}{cs cs':List Value}{e e':TypeId}(k k':Nat)(hm:P.follows .mixedOrders=true)(h:TD P w0 F n l.toArray Q (λw=>Frm F w∧w.heap[b]?=some (.cells cs.toArray e (0,0))∧w.heap[b']?=some (.cells cs'.toArray e' (0,0))∧True) m (Array.replicate m false) D L H)(hl:l.toArray.size=m:=by exact rfl)(hk:Nat.blt k H.length=true:=by exact rfl)(hH:H.getD k (λ_=>True)=ah b cs e:=by exact rfl)(hk':Nat.blt k' H.length=true:=by exact rfl)(hH':H.getD k' (λ_=>True)=ah b' cs' e':=by exact rfl):TC P w0 F n (.region id l.toArray true) Q D L H:=oZ _ hm hl (λ_ s=>⟨fE s,s.block k (lb hk) hH,s.block k' (lb hk') hH',trivial⟩) h
theorem AL{S:World→Prop}{fuel:Nat}{listed:Array Bool}{o:Oper}(i:Nat)(h:TL P w0 F n ops (Exit.then (Kd P ops Q S fuel listed i) Q) [o] D L H)(hr:Region.ready .any ops listed=[i]:=by kernel_rfl)(hi:ops[i]?=some o:=by exact rfl):TD P w0 F n ops Q S (fuel+1) listed D L H:=cT [i] hr rfl (aG hi h bJ)
theorem E0{fuel i:Nat}{listed:Array Bool}(h:TD P w0 F n ops Q (λw=>Frm F w∧True) fuel (listed.setIfInBounds i true) D L H):TE w0 F n (Exit.then (Kd P ops Q (λw=>Frm F w∧True) fuel listed i) Q) .normal D L H:=vJ (λ_ s=>⟨fE s,trivial⟩) h
theorem E1{fuel i:Nat}{listed:Array Bool}{b:Nat}{cs:List Value}{e:TypeId}(k:Nat)(h:TD P w0 F n ops Q (λw=>Frm F w∧w.heap[b]?=some (.cells cs.toArray e (0,0))∧True) fuel (listed.setIfInBounds i true) D L H)(hk:Nat.blt k H.length=true:=by exact rfl)(hH:H.getD k (λ_=>True)=ah b cs e:=by exact rfl):TE w0 F n (Exit.then (Kd P ops Q (λw=>Frm F w∧w.heap[b]?=some (.cells cs.toArray e (0,0))∧True) fuel listed i) Q) .normal D L H:=vJ (λ_ s=>⟨fE s,s.block k (lb hk) hH,trivial⟩) h
theorem E2{fuel i:Nat}{listed:Array Bool}{b b':Nat}{cs cs':List Value}{e e':TypeId}(k k':Nat)(h:TD P w0 F n ops Q (λw=>Frm F w∧w.heap[b]?=some (.cells cs.toArray e (0,0))∧w.heap[b']?=some (.cells cs'.toArray e' (0,0))∧True) fuel (listed.setIfInBounds i true) D L H)(hk:Nat.blt k H.length=true:=by exact rfl)(hH:H.getD k (λ_=>True)=ah b cs e:=by exact rfl)(hk':Nat.blt k' H.length=true:=by exact rfl)(hH':H.getD k' (λ_=>True)=ah b' cs' e':=by exact rfl):TE w0 F n (Exit.then (Kd P ops Q (λw=>Frm F w∧w.heap[b]?=some (.cells cs.toArray e (0,0))∧w.heap[b']?=some (.cells cs'.toArray e' (0,0))∧True) fuel listed i) Q) .normal D L H:=vJ (λ_ s=>⟨fE s,s.block k (lb hk) hH,s.block k' (lb hk') hH',trivial⟩) h
theorem S0{o:Oper}{l:List Oper}{t e:TypeId}{x y:Operand}{b j:Nat}{cs cs':List Value}{v:Value}(k:Nat)(hs:(P.info? t).map (·.size)=some 1)(h:TL P w0 F n ops Q l D L (H.set k (ah b cs' e)))(hw:Want n D ops o L:=by first|exact ab rfl|exact cd rfl rfl rfl)(hd:o.dst=none:=by exact rfl)(ho:o.op= .store t x y:=by exact rfl)(hx:cK L x=some (.pointer (some ⟨b,j,none⟩)):=by exact rfl)(hy:cK L y=some v:=by exact rfl)(h1:v.oneCell'=true:=by exact rfl)(hk:Nat.blt k H.length=true:=by exact rfl)(hH:H.getD k (λ_=>True)=ah b cs e:=by exact rfl)(hl:Nat.blt j cs.length=true:=by exact rfl)(hcs:cs.set j v=cs':=by exact rfl):TL P w0 F n ops Q (o::l) D L H:=bO hw ho hd hx hy h1 hs hk hH (lb hl) hcs rfl h
theorem LA{t e:TypeId}{x:Operand}{dt:TypeDesc}{b j:Nat}{cs:List Value}{v:Value}(k:Nat)(ht:P.underlying t=some dt)(h:TL P w0 F n ops Q l D ((d,v)::L) H)(hw:Want n D ops o L:=by first|exact ab rfl|exact cd rfl rfl rfl)(hd:o.dst=some d:=by exact rfl)(hn:Nat.blt d n=true:=by exact rfl)(ho:o.op= .load t x:=by exact rfl)(hp:dR dt=true:=by exact rfl)(hx:cK L x=some (.pointer (some ⟨b,j,none⟩)):=by exact rfl)(hk:Nat.blt k H.length=true:=by exact rfl)(hH:H.getD k (λ_=>True)=ah b cs e:=by exact rfl)(hc:cs[j]?=some v:=by exact rfl):TL P w0 F n ops Q (o::l) D L H:=ml hw hd hn (ii ho ht hp hx (fD k hk hH) hc) h
theorem CE{f:FuncId}{xs:Array Operand}{ts:Array TypeId}{vs:List Value}{A B G:List HP}{v:Value}(hf:Named P f)(sp:Does P f vs.toArray (λ_=>True) A (dH λr H'=>r=v∧H'=G))(hp: ∀h,bz H h→bz (A++B) h)(h:TL P w0 F n ops Q l D ((d,v)::L) (G++B))(hw:Want n D ops o L:=by first|exact ab rfl|exact cd rfl rfl rfl)(hd:o.dst=some d:=by exact rfl)(hn:Nat.blt d n=true:=by exact rfl)(ho:o.op= .call {callee:= .value (.func f),args:=xs,argTypes:=ts}:=by exact rfl)(hx:Bu L xs.toList=some vs:=by exact rfl):TL P w0 F n ops Q (o::l) D L H:=lC hw ho hd hn hf hx sp hp (λ_ _ _=>trivial) (λ_ _ e=>by obtain⟨rfl,rfl⟩:=e;exact h)
theorem CF{f:FuncId}{xs:Array Operand}{ts:Array TypeId}{vs:List Value}{R:Hl→Prop}{A B G:List HP}{v:Value}(hf:Named P f)(sp:Does P f vs.toArray R A (dH λr H'=>r=v∧H'=G))(hp: ∀h,bz H h→bz (A++B) h)(hR: ∀g,Dj g F→bz B g→R (jn g F))(h:TL P w0 F n ops Q l D ((d,v)::L) (G++B))(hw:Want n D ops o L:=by first|exact ab rfl|exact cd rfl rfl rfl)(hd:o.dst=some d:=by exact rfl)(hn:Nat.blt d n=true:=by exact rfl)(ho:o.op= .call {callee:= .value (.func f),args:=xs,argTypes:=ts}:=by exact rfl)(hx:Bu L xs.toList=some vs:=by exact rfl):TL P w0 F n ops Q (o::l) D L H:=lC hw ho hd hn hf hx sp hp hR (λ_ _ e=>by obtain⟨rfl,rfl⟩:=e;exact h)
theorem CZ{f:FuncId}{xs:Array Operand}{ts:Array TypeId}{vs:List Value}{A B G:List HP}(hf:Named P f)(sp:Does P f vs.toArray (λ_=>True) A (dH λ_ H'=>H'=G))(hp: ∀h,bz H h→bz (A++B) h)(h: ∀v,TL P w0 F n ops Q l D ((d,v)::L) (G++B))(hw:Want n D ops o L:=by first|exact ab rfl|exact cd rfl rfl rfl)(hd:o.dst=some d:=by exact rfl)(hn:Nat.blt d n=true:=by exact rfl)(ho:o.op= .call {callee:= .value (.func f),args:=xs,argTypes:=ts}:=by exact rfl)(hx:Bu L xs.toList=some vs:=by exact rfl):TL P w0 F n ops Q (o::l) D L H:=lC hw ho hd hn hf hx sp hp (λ_ _ _=>trivial) (λv _ e=>by obtain rfl:=e;exact h v)
theorem XA{t:TypeId}{z:Value}(hz:(P.info? t).map (·.zero)=some (some z))(h: ∀b,TL P w0 F n ops Q l D ((d, .pointer (some ⟨b,0,none⟩))::L) (Bh b (.cells z.cells t)::H))(hw:Want n D ops o L:=by first|exact ab rfl|exact cd rfl rfl rfl)(hd:o.dst=some d:=by exact rfl)(hn:Nat.blt d n=true:=by exact rfl)(ho:o.op= .alloc t:=by exact rfl):TL P w0 F n ops Q (o::l) D L H:=qU hw ho hd hn hz h
theorem XB{t:TypeId}{x:Operand}{v:Value}(h: ∀b,TL P w0 F n ops Q l D ((d, .pointer (some ⟨b,0,none⟩))::L) (Bh b (.cells v.cells t)::H))(hw:Want n D ops o L:=by first|exact ab rfl|exact cd rfl rfl rfl)(hd:o.dst=some d:=by exact rfl)(hn:Nat.blt d n=true:=by exact rfl)(ho:o.op= .box t x:=by exact rfl)(hx:cK L x=some v:=by exact rfl):TL P w0 F n ops Q (o::l) D L H:=TL.box hw ho hd hn hx h
theorem DN{S:World→Prop}{fuel:Nat}{listed:Array Bool}(h:TE w0 F n Q .normal D L H)(hr:Region.ready .any ops listed=[]:=by kernel_rfl):TD P w0 F n ops Q S fuel listed D L H:=TD.done hr h
theorem SB{L L':List (Nat×Value)}(h:Sub L L':=by repeat (first|exact N6 _|refine aT ?_|refine bE rfl (by simp) ?_|refine bE rfl (by congr 1) ?_)):Sub L L':=h
theorem CY{c:Operand}{x y:Code}(h:TC P w0 F n x Q D L H)(e:cK L c=some (.bool true):=by exact rfl):TC P w0 F n (.cond c x y) Q D L H:=nZ e h
theorem CN{c:Operand}{x y:Code}(h:TC P w0 F n y Q D L H)(e:cK L c=some (.bool false):=by exact rfl):TC P w0 F n (.cond c x y) Q D L H:=Ha e h
theorem qx{y:Code}{K:Act→World→Prop}(hK:KS P y Q K)(h:TC P w0 F n y Q D L H):TC P w0 F n .skip (Exit.then K Q) D L H:=aS (ac hK h)
end Leg
end
section
namespace Leg
open Go
variable {P:Program} {w0:World} {F:Hl} {n:Nat} {ops:Array Oper} {Q:QQ} {D:List Deferred} {L:List (Nat×Value)} {H:List HP} {d:Nat} {o:Oper} {l:List Oper}
theorem EN{S:World→Prop}{fuel i:Nat}{listed:Array Bool}(h:TD P w0 F n ops Q S fuel (listed.setIfInBounds i true) D L H)(hS: ∀w,Sat H F w→S w:=by intro _ s;refine⟨fE s,?_⟩;repeat (first|exact trivial|refine⟨by first|exact s.block 0 (lb rfl) rfl|exact s.block 1 (lb rfl) rfl|exact s.block 2 (lb rfl) rfl|exact s.block 3 (lb rfl) rfl|exact s.block 4 (lb rfl) rfl|exact s.block 5 (lb rfl) rfl|exact s.block 6 (lb rfl) rfl|exact s.block 7 (lb rfl) rfl|exact s.block 8 (lb rfl) rfl|exact s.block 9 (lb rfl) rfl|exact cY 0 rfl rfl _ s|exact cY 1 rfl rfl _ s|exact cY 2 rfl rfl _ s|exact cY 3 rfl rfl _ s|exact cY 4 rfl rfl _ s|exact cY 5 rfl rfl _ s|exact cY 6 rfl rfl _ s|exact cY 7 rfl rfl _ s,?_⟩)):TL P w0 F n ops (Exit.then (Kd P ops Q S fuel listed i) Q) [] D L H:=aw (vJ hS h)
theorem BL{H:List HP}{F:Hl}{b:Nat}{x:Obj}(i:Nat)(hi:Nat.blt i H.length=true:=by exact rfl)(e:H.getD i (λ_=>True)=Bh b x:=by exact rfl): ∀w,Sat H F w→w.heap[b]?=some x:=λ_ s=>s.block i (lb hi) e
theorem DB{id m:Nat}{l:List Oper}{P1:World→Prop}(hm:P.follows .mixedOrders=true)(h1: ∀w,Sat H F w→P1 w)(h:TD P w0 F n l.toArray Q (λw=>Frm F w∧P1 w∧True) m (Array.replicate m false) D L H)(hl:l.toArray.size=m:=by exact rfl):TC P w0 F n (.region id l.toArray true) Q D L H:=oZ _ hm hl (λw s=>⟨fE s,h1 w s,trivial⟩) h
theorem DC{id m:Nat}{l:List Oper}{P1 P2:World→Prop}(hm:P.follows .mixedOrders=true)(h1: ∀w,Sat H F w→P1 w)(h2: ∀w,Sat H F w→P2 w)(h:TD P w0 F n l.toArray Q (λw=>Frm F w∧P1 w∧P2 w∧True) m (Array.replicate m false) D L H)(hl:l.toArray.size=m:=by exact rfl):TC P w0 F n (.region id l.toArray true) Q D L H:=oZ _ hm hl (λw s=>⟨fE s,h1 w s,h2 w s,trivial⟩) h
theorem ID{H:List HP}: ∀h,bz H h→bz H h:=λ_ s=>s
theorem LX{S:World→Prop}{d fuel:Nat}{listed:Array Bool}{o:Oper}{t e:TypeId}{x:Operand}{dt:TypeDesc}{b j:Nat}{cs:List Value}{z:Nat×Nat}(i:Nat)(ht:P.underlying t=some dt)(v:Value)(h:TD P w0 F n ops Q S fuel (listed.setIfInBounds i true) D ((d,v)::L) H)(hi:ops[i]?=some o:=by exact rfl)(hw:Want n D ops o L:=by first|exact ab rfl|exact cd rfl rfl rfl)(hd:o.dst=some d:=by exact rfl)(hn:Nat.blt d n=true:=by exact rfl)(hs:(Region.noSelect ops&&Region.free .any ops listed i&&(Region.ready .any ops listed).contains i)=true:=by kernel_rfl)(hQ: ∀c a v w,Q (.panic c) (a.put o.dst v) w→Q (.panic c) a w:=by exact λ_ _ _ _ h=>h)(ho:o.op= .load t x:=by exact rfl)(hp:dR dt=true:=by exact rfl)(hx:cK L x=some (.pointer (some ⟨b,j,none⟩)):=by exact rfl)(hR:Rd S b (.cells cs.toArray e z):=by first|exact λ_ h=>h.2.1|exact λ_ h=>h.2.2.1|exact λ_ h=>h.2.2.2.1|exact λ_ h=>h.2.2.2.2.1|exact λ_ h=>h.2.2.2.2.2.1)(hc:cs[j]?=some v):TD P w0 F n ops Q S (fuel+1) listed D L H:=by
  rw[an,an]at hs;exact KJ hi hs.1.1 hs.1.2 hs.2 hQ hw hd hn (ii ho ht hp hx hR hc) h
theorem XZ{t:TypeId}{z:Value}(hz:(P.info? t).map (·.zero)=some (some z))(cs:List Value)(h: ∀b,TL P w0 F n ops Q l D ((d, .pointer (some ⟨b,0,none⟩))::L) (ah b cs t::H))(hw:Want n D ops o L:=by first|exact ab rfl|exact cd rfl rfl rfl)(hd:o.dst=some d:=by exact rfl)(hn:Nat.blt d n=true:=by exact rfl)(ho:o.op= .alloc t:=by exact rfl)(hc:z.cells=cs.toArray:=by exact rfl):TL P w0 F n ops Q (o::l) D L H:=XA hz (λb=>by rw[hc];exact h b) hw hd hn ho
theorem XY{t:TypeId}{x:Operand}{v:Value}(cs:List Value)(h: ∀b,TL P w0 F n ops Q l D ((d, .pointer (some ⟨b,0,none⟩))::L) (ah b cs t::H))(hw:Want n D ops o L:=by first|exact ab rfl|exact cd rfl rfl rfl)(hd:o.dst=some d:=by exact rfl)(hn:Nat.blt d n=true:=by exact rfl)(ho:o.op= .box t x:=by exact rfl)(hx:cK L x=some v:=by exact rfl)(hc:v.cells=cs.toArray:=by exact rfl):TL P w0 F n ops Q (o::l) D L H:=XB (λb=>by rw[hc];exact h b) hw hd hn ho hx
theorem P2{l:List Oper}{o0:Oper}{d0:Nat}{v0:Value}{o1:Oper}{d1:Nat}{v1:Value}(h:TL P w0 F n ops Q l D ((d1,v1)::((d0,v0)::L)) H)(hw0:Want n D ops o0 L:=by first|exact ab rfl|exact cd rfl rfl rfl)(hd0:o0.dst=some d0:=by exact rfl)(hn0:Nat.blt d0 n=true:=by exact rfl)(hp0:PV P n D L (Sat H F) o0 v0:=by exact PU)(hw1:Want n D ops o1 ((d0,v0)::L):=by first|exact ab rfl|exact cd rfl rfl rfl)(hd1:o1.dst=some d1:=by exact rfl)(hn1:Nat.blt d1 n=true:=by exact rfl)(hp1:PV P n D ((d0,v0)::L) (Sat H F) o1 v1:=by exact PU):TL P w0 F n ops Q (o0::o1::l) D L H:=(ml hw0 hd0 hn0 hp0 (ml hw1 hd1 hn1 hp1 h))
theorem P3{l:List Oper}{o0:Oper}{d0:Nat}{v0:Value}{o1:Oper}{d1:Nat}{v1:Value}{o2:Oper}{d2:Nat}{v2:Value}(h:TL P w0 F n ops Q l D ((d2,v2)::((d1,v1)::((d0,v0)::L))) H)(hw0:Want n D ops o0 L:=by first|exact ab rfl|exact cd rfl rfl rfl)(hd0:o0.dst=some d0:=by exact rfl)(hn0:Nat.blt d0 n=true:=by exact rfl)(hp0:PV P n D L (Sat H F) o0 v0:=by exact PU)(hw1:Want n D ops o1 ((d0,v0)::L):=by first|exact ab rfl|exact cd rfl rfl rfl)(hd1:o1.dst=some d1:=by exact rfl)(hn1:Nat.blt d1 n=true:=by exact rfl)(hp1:PV P n D ((d0,v0)::L) (Sat H F) o1 v1:=by exact PU)(hw2:Want n D ops o2 ((d1,v1)::((d0,v0)::L)):=by first|exact ab rfl|exact cd rfl rfl rfl)(hd2:o2.dst=some d2:=by exact rfl)(hn2:Nat.blt d2 n=true:=by exact rfl)(hp2:PV P n D ((d1,v1)::((d0,v0)::L)) (Sat H F) o2 v2:=by exact PU):TL P w0 F n ops Q (o0::o1::o2::l) D L H:=(ml hw0 hd0 hn0 hp0 (ml hw1 hd1 hn1 hp1 (ml hw2 hd2 hn2 hp2 h)))
theorem P4{l:List Oper}{o0:Oper}{d0:Nat}{v0:Value}{o1:Oper}{d1:Nat}{v1:Value}{o2:Oper}{d2:Nat}{v2:Value}{o3:Oper}{d3:Nat}{v3:Value}(h:TL P w0 F n ops Q l D ((d3,v3)::((d2,v2)::((d1,v1)::((d0,v0)::L)))) H)(hw0:Want n D ops o0 L:=by first|exact ab rfl|exact cd rfl rfl rfl)(hd0:o0.dst=some d0:=by exact rfl)(hn0:Nat.blt d0 n=true:=by exact rfl)(hp0:PV P n D L (Sat H F) o0 v0:=by exact PU)(hw1:Want n D ops o1 ((d0,v0)::L):=by first|exact ab rfl|exact cd rfl rfl rfl)(hd1:o1.dst=some d1:=by exact rfl)(hn1:Nat.blt d1 n=true:=by exact rfl)(hp1:PV P n D ((d0,v0)::L) (Sat H F) o1 v1:=by exact PU)(hw2:Want n D ops o2 ((d1,v1)::((d0,v0)::L)):=by first|exact ab rfl|exact cd rfl rfl rfl)(hd2:o2.dst=some d2:=by exact rfl)(hn2:Nat.blt d2 n=true:=by exact rfl)(hp2:PV P n D ((d1,v1)::((d0,v0)::L)) (Sat H F) o2 v2:=by exact PU)(hw3:Want n D ops o3 ((d2,v2)::((d1,v1)::((d0,v0)::L))):=by first|exact ab rfl|exact cd rfl rfl rfl)(hd3:o3.dst=some d3:=by exact rfl)(hn3:Nat.blt d3 n=true:=by exact rfl)(hp3:PV P n D ((d2,v2)::((d1,v1)::((d0,v0)::L))) (Sat H F) o3 v3:=by exact PU):TL P w0 F n ops Q (o0::o1::o2::o3::l) D L H:=(ml hw0 hd0 hn0 hp0 (ml hw1 hd1 hn1 hp1 (ml hw2 hd2 hn2 hp2 (ml hw3 hd3 hn3 hp3 h))))
theorem AC{S:World→Prop}{fuel:Nat}{listed:Array Bool}{o:Oper}{i:Nat}{rs:List Nat}(h:TL P w0 F n ops (Exit.then (Kd P ops Q S fuel listed i) Q) [o] D L H)(r:AllT P w0 F n ops Q S fuel listed D L H rs)(hr:Region.ready .any ops listed=i::rs:=by kernel_rfl)(hi:ops[i]?=some o:=by exact rfl):TD P w0 F n ops Q S (fuel+1) listed D L H:=cT (i::rs) hr rfl (aG hi h r)
theorem CP{f:FuncId}{xs:Array Operand}{ts:Array TypeId}{vs:List Value}{R:Hl→Prop}{A B:List HP}{p:Value→List HP→Prop}{q:List PanicEntry→List HP→Prop}(hf:Named P f)(sp:Does P f vs.toArray R A (vY p q))(hp: ∀h,bz H h→bz (A++B) h)(hR: ∀g,Dj g F→bz B g→R (jn g F))(hpan: ∀c H',q c H'→TE w0 F n Q (.panic c) D L (H'++B))(hret: ∀v H',p v H'→TL P w0 F n ops Q l D ((d,v)::L) (H'++B))(hw:Want n D ops o L:=by first|exact ab rfl|exact cd rfl rfl rfl)(hd:o.dst=some d:=by exact rfl)(hn:Nat.blt d n=true:=by exact rfl)(ho:o.op= .call {callee:= .value (.func f),args:=xs,argTypes:=ts}:=by exact rfl)(hx:Bu L xs.toList=some vs:=by exact rfl):TL P w0 F n ops Q (o::l) D L H:=TL.callP hw ho hd hn hf hx sp hp hR hpan hret
end Leg
end
section
namespace Leg
open Go
variable {P:Program} {w0:World} {F:Hl} {n:Nat} {ops:Array Oper} {Q:QQ} {D:List Deferred} {L:List (Nat×Value)} {H:List HP} {d:Nat} {o:Oper} {l:List Oper}
abbrev T0:Hl→Prop:=λ_=>True
abbrev RI(v:Value)(G:List HP):=dH λr H=>r=v∧H=G
theorem LU{t e:TypeId}{x:Operand}{dt:TypeDesc}{b j:Nat}{cs:List Value}{v:Value}(k:Nat)(ht:P.underlying t=some dt)(hc:cs[j]?=some v)(h:TL P w0 F n ops Q l D ((d,v)::L) H)(hw:Want n D ops o L:=by first|exact ab rfl|exact cd rfl rfl rfl)(hd:o.dst=some d:=by exact rfl)(hn:Nat.blt d n=true:=by exact rfl)(ho:o.op= .load t x:=by exact rfl)(hp:dR dt=true:=by exact rfl)(hx:cK L x=some (.pointer (some ⟨b,j,none⟩)):=by exact rfl)(hk:Nat.blt k H.length=true:=by exact rfl)(hH:H.getD k (λ_=>True)=ah b cs e:=by exact rfl):TL P w0 F n ops Q (o::l) D L H:=ml hw hd hn (ii ho ht hp hx (fD k hk hH) hc) h
theorem LR{S:World→Prop}{d fuel:Nat}{listed:Array Bool}{o:Oper}{t e:TypeId}{x:Operand}{dt:TypeDesc}{b j:Nat}{cs:List Value}{z:Nat×Nat}{v:Value}(i:Nat)(ht:P.underlying t=some dt)(hc:cs[j]?=some v)(h:TD P w0 F n ops Q S fuel (listed.setIfInBounds i true) D ((d,v)::L) H)(hi:ops[i]?=some o:=by exact rfl)(hw:Want n D ops o L:=by first|exact ab rfl|exact cd rfl rfl rfl)(hd:o.dst=some d:=by exact rfl)(hn:Nat.blt d n=true:=by exact rfl)(hs:(Region.noSelect ops&&Region.free .any ops listed i&&(Region.ready .any ops listed).contains i)=true:=by kernel_rfl)(hQ: ∀c a v w,Q (.panic c) (a.put o.dst v) w→Q (.panic c) a w:=by exact λ_ _ _ _ h=>h)(ho:o.op= .load t x:=by exact rfl)(hp:dR dt=true:=by exact rfl)(hx:cK L x=some (.pointer (some ⟨b,j,none⟩)):=by exact rfl)(hR:Rd S b (.cells cs.toArray e z):=by first|exact λ_ h=>h.2.1|exact λ_ h=>h.2.2.1|exact λ_ h=>h.2.2.2.1|exact λ_ h=>h.2.2.2.2.1):TD P w0 F n ops Q S (fuel+1) listed D L H:=LX i ht v h hi hw hd hn hs hQ ho hp hx hR hc
theorem IX{t e:TypeId}{x y:Operand}{b j m s:Nat}{k:IntKind}{i:Int}(r:Nat)(ht:P.underlying t=some (.array m e))(hs:(P.info? e).map (·.size)=some s)(h:TL P w0 F n ops Q l D ((d, .pointer (some ⟨b,r,none⟩))::L) H)(hw:Want n D ops o L:=by first|exact ab rfl|exact cd rfl rfl rfl)(hd:o.dst=some d:=by exact rfl)(hn:Nat.blt d n=true:=by exact rfl)(ho:o.op= .indexAddr t x y:=by exact rfl)(hx:cK L x=some (.pointer (some ⟨b,j,none⟩)):=by exact rfl)(hy:cK L y=some (.int k i):=by exact rfl)(h0:0≤i:=by first|exact lz rfl|omega)(h1:i<m:=by first|exact lz rfl|omega)(hr:j+i.toNat*s=r:=by first|exact rfl|omega):TL P w0 F n ops Q (o::l) D L H:=ml hw hd hn (oo ho ht hs hx hy h0 h1 hr) h
theorem IY{S:World→Prop}{d fuel:Nat}{listed:Array Bool}{o:Oper}{t e:TypeId}{x y:Operand}{b j m s:Nat}{k:IntKind}{i:Int}(q r:Nat)(ht:P.underlying t=some (.array m e))(hz:(P.info? e).map (·.size)=some s)(h:TD P w0 F n ops Q S fuel (listed.setIfInBounds q true) D ((d, .pointer (some ⟨b,r,none⟩))::L) H)(hi:ops[q]?=some o:=by exact rfl)(hw:Want n D ops o L:=by first|exact ab rfl|exact cd rfl rfl rfl)(hd:o.dst=some d:=by exact rfl)(hn:Nat.blt d n=true:=by exact rfl)(hs:(Region.noSelect ops&&Region.free .any ops listed q&&(Region.ready .any ops listed).contains q)=true:=by kernel_rfl)(hQ: ∀c a v w,Q (.panic c) (a.put o.dst v) w→Q (.panic c) a w:=by exact λ_ _ _ _ h=>h)(ho:o.op= .indexAddr t x y:=by exact rfl)(hx:cK L x=some (.pointer (some ⟨b,j,none⟩)):=by exact rfl)(hy:cK L y=some (.int k i):=by exact rfl)(h0:0≤i:=by first|exact lz rfl|omega)(h1:i<m:=by first|exact lz rfl|omega)(hr:j+i.toNat*s=r:=by first|exact rfl|omega):TD P w0 F n ops Q S (fuel+1) listed D L H:=by
  rw[an,an]at hs;exact KJ hi hs.1.1 hs.1.2 hs.2 hQ hw hd hn (oo ho ht hz hx hy h0 h1 hr) h
theorem BV{t:TypeId}{ps:Array (Nat×Operand)}{qs:List (Nat×Value)}(cells:Array Value)(h:TL P w0 F n ops Q l D ((d, .agg cells)::L) H)(hw:Want n D ops o L:=by first|exact ab rfl|exact cd rfl rfl rfl)(hd:o.dst=some d:=by exact rfl)(hn:Nat.blt d n=true:=by exact rfl)(ho:o.op= .build t ps:=by exact rfl)(hx:KW L ps.toList=some qs:=by exact rfl)(hb:P.built t qs=some cells:=by as_aux_lemma=>kernel_rfl):TL P w0 F n ops Q (o::l) D L H:=ml hw hd hn (kF ho hx hb) h
theorem RC{fn:Func}{post:Ending→List HP→Prop}{t ty e m b:Nat}{cs:List Value}{dt:TypeDesc}(k:Nat)(is:List Nat)(hu:P.underlying ty=some dt)(hm:(P.info? ty).map (·.size)=some m)(hl:cs.length=m)(h:post (.returned (.agg cs.toArray)) ((C3 H is).take is.length))(hr:fn.results=#[.cell t ty]:=by exact rfl)(he:lk L t=some (.pointer (some ⟨b,0,none⟩)):=by exact rfl)(hp:dR dt=false:=by exact rfl)(hk:Nat.blt k H.length=true:=by exact rfl)(hH:H.getD k (λ_=>True)=ah b cs e:=by exact rfl)(hs:LK H.length is=true:=by exact rfl):TE w0 F n (bodyPost P fn (jD post w0 F)) .ret [] L H:=TE.retC hr he hu hp hm (fD k hk hH) hl (λ_ s=>ak is hs s) h
theorem BD{P:Program}{H:List HP}(m:Nat){f:FuncId}{fn:Func}{c:Code}{vs:List Value}{R:Hl→Prop}{post:Ending→List HP→Prop}(hf:P.funcs[f]?=some fn)(hb:fn.body=some c)(hm:fn.ntmps=m)(hl:Nat.ble vs.length m=true)(h: ∀w0 F,R F→TC P w0 F m c (bodyPost P fn (jD post w0 F)) [] (oy 0 vs) H):Does P f vs.toArray R H post:=Does.body hf hb hm hl h
end Leg
end

section
namespace Codec
open Go Leg Api
def jF:Nat→Nat→List UInt8→Option (Nat×List UInt8)
 |_,_,[]=>none
 |k,acc,c::cs=>
  if k=9 then none
  else if 128≤c.toNat then jF (k+1) (acc+c.toNat%128*2^ (7*k)) cs
  else if c.toNat=0∧0<k then none
  else some (acc+c.toNat%128*2^ (7*k),cs)
theorem oW(bs:List UInt8)(k:Nat)(h:k<bs.length):bs.drop k=bs.getD k 0::bs.drop (k+1):=by
 rw[dI h];simp[List.getD_eq_getElem?_getD,List.getElem?_eq_getElem h]
theorem NW(c:Nat)(h:c<256):tS .u8 (c:Int) 127=((c%128:Nat):Int):=by
 have e:(BitVec.ofInt 8 (c:Int)&&& BitVec.ofInt 8 127).toNat=c%128:=by
  rw[BitVec.toNat_and];have h1:(BitVec.ofInt 8 (c:Int)).toNat=c:=by simp;omega
  have h2:(BitVec.ofInt 8 127).toNat=2^7-1:=by decide
  rw[h1,h2,Nat.and_two_pow_sub_one_eq_mod]
 show IntKind.u8.wrap ((BitVec.ofInt 8 (c:Int)&&& BitVec.ofInt 8 127).toNat:Int)=_;rw[e];exact Ay (by omega) (by omega)
theorem Ov(k:Nat)(h:k≤8):2^ (7*k)≤2^56:=Nat.pow_le_pow_right (by decide) (by omega)
theorem Ql(m k:Nat)(hm:m<128)(hk:k≤8):IntKind.i64.wrap ((m:Int)*2^min (7* (k:Int)).toNat IntKind.i64.bits)=((m*2^ (7*k):Nat):Int):=by
 have e:min (7* (k:Int)).toNat IntKind.i64.bits=7*k:=by simp only[IntKind.bits];omega
 have hp:=Ov k hk;have h2:m*2^ (7*k)≤127*2^56:=Nat.mul_le_mul (by omega) hp;have e2:((m:Int)*2^ (7*k))=((m*2^ (7*k):Nat):Int):=by simp
 rw[e,e2];exact bK (by omega) (by omega)
theorem Nl(a m k:Nat)(ha:a<2^ (7*k))(hm:m<128)(hk:k≤8):iP .i64 (a:Int) ((m*2^ (7*k):Nat):Int)=((a+m*2^ (7*k):Nat):Int):=by
 have hp:=Ov k hk;have h2:m*2^ (7*k)≤127*2^56:=Nat.mul_le_mul (by omega) hp;have hs:a+m*2^ (7*k)<2^63:=by omega
 have h1:(BitVec.ofInt 64 (a:Int)).toNat=a:=by simp;omega
 have h3:(BitVec.ofInt 64 ((m*2^ (7*k):Nat):Int)).toNat=m*2^ (7*k):=by rw[BitVec.toNat_ofInt];omega
 have e:(BitVec.ofInt 64 (a:Int)|||BitVec.ofInt 64 ((m*2^ (7*k):Nat):Int)).toNat=a+m*2^ (7*k):=by
  rw[BitVec.toNat_or,h1,h3,Nat.or_comm,←Nat.shiftLeft_eq,←Nat.shiftLeft_add_eq_or_of_lt ha,mL]
 show IntKind.i64.wrap ((BitVec.ofInt 64 (a:Int)|||BitVec.ofInt 64 ((m*2^ (7*k):Nat):Int)).toNat:Int)=_;rw[e];exact bK (by omega) (by omega)
theorem Pp(a m k:Nat)(ha:a<2^ (7*k))(hm:m<128):a+m*2^ (7*k)<2^ (7* (k+1)):=by
 have:2^ (7* (k+1))=128*2^ (7*k):=by rw[Nat.mul_add,Nat.pow_add];omega
 have:m*2^ (7*k)≤127*2^ (7*k):=mq _ (by omega);omega
def Mj:Value→Nat→Value
 | .slice (some a) n c,k=> .slice (some (Ak a c k)) (n-k) (c-k)
 |v,_=>v
def IsB(v:Value)(bs:List UInt8)(F:Hl):Prop:=
 (v= .slice none 0 0∧bs=[])∨∃b off cap cs T z,v= .slice (some ⟨b,off,none⟩) bs.length cap∧bs.length≤cap∧cap≤9223372036854775807∧
  F b=some (.cells (List.toArray cs) T z)∧∀j,j<bs.length→cs[off+j]?=some (.int .u8 ((bs.getD j 0).toNat:Nat))
theorem IsB.cut{v:Value}{bs:List UInt8}{F:Hl}(h:IsB v bs F)(k:Nat)(hk:k≤bs.length):IsB (Mj v k) (bs.drop k) F:=by
 rcases h with⟨rfl,rfl⟩| ⟨b,off,cap,cs,T,z,rfl,h1,h2,h3,h4⟩
 · exact .inl ⟨rfl,by simp⟩
 · refine .inr ?_
   by_cases e:cap=k
   · refine⟨b,off,cap-k,cs,T,z,by simp[Mj,Ak,e],by simp;omega,by omega,h3,λj hj=>?_⟩
     simp at hj;omega
   · refine⟨b,off+k,cap-k,cs,T,z,by simp[Mj,Ak,e,sz],by simp;omega,by omega,h3,λj hj=>?_⟩
     simp at hj;have:=h4 (k+j) (by omega);rw[nR,this];simp[List.getD_eq_getElem?_getD]
theorem IsB.more{v:Value}{bs:List UInt8}{F g:Hl}(h:IsB v bs F)(d:Dj g F):IsB v bs (jn g F):=by
 rcases h with h| ⟨b,off,cap,cs,T,z,h0,h1,h2,h3,h4⟩
 · exact .inl h
 · exact .inr ⟨b,off,cap,cs,T,z,h0,h1,h2,Le.right d _ _ h3,h4⟩
theorem IsB.len{v:Value}{bs:List UInt8}{F:Hl}(h:IsB v bs F):pU v bs.length:=by
 rcases h with⟨rfl,rfl⟩| ⟨b,off,cap,cs,T,z,rfl,_⟩
 · exact⟨_,_,rfl⟩
 · exact⟨_,_,rfl⟩
theorem IsB.src{v:Value}{bs:List UInt8}{F:Hl}(h:IsB v bs F){S:World→Prop}(hS: ∀w,S w→Frm F w):Src S v bs.length (ek bs) 1:=by
 refine⟨by simp[ek],?_⟩;rcases h with⟨rfl,rfl⟩| ⟨b,off,cap,cs,T,z,rfl,h1,h2,h3,h4⟩
 · exact .inl ⟨rfl,rfl⟩
 · refine .inr ⟨⟨b,off,none⟩,cap,rfl,λw s j u hj=>?_⟩
   rw[sz,oX (hS w s b _ h3)];have hl:=(List.getElem?_eq_some_iff.1 hj).1;rw[aZ]at hl;rw[h4 j hl];simp only[ek,List.getElem?_map,List.getElem?_eq_getElem hl,Option.map_some]at hj
   simpa [List.getD_eq_getElem?_getD,hl]using hj
theorem wm(i:Nat){v:Value}{bs:List UInt8}{e:Nat}{B:List HP}{F:Hl}(hi:Nat.blt i B.length=true)(hH:B.getD i (λ_=>True)=dZ v bs e): ∀g,Dj g F→bz B g→IsB v bs (jn g F):=λg _ s=>by
 obtain⟨h1,h2,d',rfl,a,_⟩:=fm i (lb hi) s;rw[hH]at a;rcases a with⟨_,⟨h0,hn,_⟩| ⟨g,cap,cur,hv,hh,h3,h4,h5,h6⟩⟩
 · exact .inl ⟨h0,List.eq_nil_of_length_eq_zero hn⟩
 · refine .inr ⟨g,0,cap,cur.toList,e,(0,0),hv,h3,by simp only[maxLen]at h4;omega,?_,λj hj=>?_⟩
   · exact iA (iA (by rw[hh];simp[sg]))
   · rw[gn]at h6
     have e1:(cur.toList.take bs.length)[j]?=some (.int .u8 ((bs.getD j 0).toNat:Nat)):=by
      rw[h6];simp[ek,List.getD_eq_getElem?_getD,hj]
     rw[List.getElem?_take,if_pos hj]at e1
     simpa using e1
theorem IsB.one{v:Value}{bs:List UInt8}{F:Hl}(h:IsB v bs F):v.oneCell'=true:=by
 rcases h with⟨rfl,_⟩| ⟨b,off,cap,cs,T,z,rfl,_⟩<;>rfl
def Tail(v:Value)(bs:List UInt8)(v':Value)(r:List UInt8):Prop:=∀F,IsB v bs F→IsB v' r F
theorem Tail.cut{v:Value}{bs:List UInt8}(k:Nat)(hk:k≤bs.length):Tail v bs (Mj v k) (bs.drop k):=λ_ h=>h.cut k hk
theorem Tail.trans{v v' v'':Value}{bs r r':List UInt8}(h:Tail v bs v' r)(g:Tail v' r v'' r'):Tail v bs v'' r':=λF x=>g F (h F x)
abbrev Ps(α:Type):=List UInt8→Option (α×List UInt8)
def pr{α:Type}(a:α):Ps α:=λbs=>some (a,bs)
def pf{α:Type}:Ps α:=λ_=>none
def pb{α β:Type}(p:Ps α)(q:α→Ps β):Ps β:=λbs=>match p bs with
 |none=>none
 |some (a,r)=>q a r
theorem au{α β:Type}{p:Ps α}{q:α→Ps β}{bs r:List UInt8}{a:α}(h:p bs=some (a,r)):pb p q bs=q a r:=by simp[pb,h]
theorem bV{α β:Type}{p:Ps α}{q:α→Ps β}{bs:List UInt8}(h:p bs=none):pb p q bs=none:=by simp[pb,h]
def m3:Ps Int:=λbs=>match jF 0 0 bs with
 |none=>none
 |some (n,r)=>some ((n:Int),r)
theorem Ig{bs r:List UInt8}{n:Nat}(h:jF 0 0 bs=some (n,r)):m3 bs=some ((n:Int),r):=by simp[m3,h]
theorem Ih{bs:List UInt8}(h:jF 0 0 bs=none):m3 bs=none:=by simp[m3,h]
def fo(lim:Int):Ps Int:=pb m3 λn=>if lim≤n then pf else pr n
def lB:Ps CellT:=pb (fo 1099511627777) λi=>pb (fo 1099511627777) λo=>pb (fo 1099511627777) λa=>pb (fo 1099511627777) λb=>pb (fo 1099511627777) λc=>pb (fo 1099511627777) λd=>pb (fo 1099511627777) λe=>pr ⟨i,o, #v[a,b,c,d,e]⟩
def lF:Ps ViewT:=pb m3 λi=>pb (fo 32) λo=>pb (fo 6) λa=>pb (fo 6) λb=>pb (fo 6) λc=>pb (fo 6) λd=>pb (fo 6) λe=>pr ⟨i,o, #v[a,b,c,d,e]⟩
def kN:Ps ChangeT:=pb (fo 2) λa=>pb (fo 5) λb=>pb (fo 5) λc=>pr ⟨a,b,c⟩
def js:Ps BallotT:=pb m3 λa=>pb (fo 5) λb=>pr ⟨a,b⟩
def lQ:(m k:Nat)→RowT→Ps RowT
 |0,_,x=>pr x
 |m+1,k,x=>pb lB λc=>lQ m (k+1) (if h:k<4 then {x with cells:=x.cells.set k c}else x)
def oT:(m i k:Nat)→RowT→Ps RowT
 |0,_,_,x=>pr x
 |m+1,i,k,x=>pb lB λc=>oT m i (k+1) (if h:i<5∧k<4 then {x with left:=x.left.set i ((x.left[i]'h.1).set k c h.2) h.1}else x)
def iU:(m i:Nat)→RowT→Ps RowT
 |0,_,x=>pr x
 |m+1,i,x=>pb m3 λn=>
  let y:RowT:=if h:i<5 then {x with heir:=x.heir.set i n}else x
  if 0<n then pb (oT 4 i 0 y) (iU m (i+1))else iU m (i+1) y
def th:Ps RowT:=pb m3 λn=>pb (lQ 4 0 {RowT.zero with version:=n}) (iU 5 0)
theorem GC{α β γ:Type}(p:Ps α)(q:α→Ps β)(t:β→Ps γ)(bs:List UInt8):pb (pb p q) t bs=pb p (λa=>pb (q a) t) bs:=by
 simp only[pb];cases p bs<;>rfl
section
variable {β:Type} {Q:RowT→Ps β} {x:RowT} {c:CellT} {r r':List UInt8} {i k:Nat}
theorem Eg(hk:k<4)(h:lB r=some (c,r')):pb (lQ (4-k) k x) Q r=pb (lQ (4- (k+1)) (k+1) {x with cells:=x.cells.set k c}) Q r':=by
 rw[show 4-k=(4- (k+1))+1 by omega];simp only[lQ];rw[GC,au h,dif_pos hk]
theorem Ef(hk:k<4)(h:lB r=none):pb (lQ (4-k) k x) Q r=none:=by
 rw[show 4-k=(4- (k+1))+1 by omega];simp only[lQ];rw[GC,bV h]
theorem F6(hk: ¬k<4):pb (lQ (4-k) k x) Q r=Q x r:=by
 rw[show 4-k=0 by omega];rfl
theorem FF(hi:i<5)(hk:k<4)(h:lB r=some (c,r')):pb (oT (4-k) i k x) Q r=pb (oT (4- (k+1)) i (k+1) {x with left:=x.left.set i ((x.left[i]).set k c)}) Q r':=by
 rw[show 4-k=(4- (k+1))+1 by omega];simp only[oT];rw[GC,au h,dif_pos ⟨hi,hk⟩]
theorem FE(hk:k<4)(h:lB r=none):pb (oT (4-k) i k x) Q r=none:=by
 rw[show 4-k=(4- (k+1))+1 by omega];simp only[oT];rw[GC,bV h]
theorem Il(hk: ¬k<4):pb (oT (4-k) i k x) Q r=Q x r:=by
 rw[show 4-k=0 by omega];rfl
theorem DK(hi:i<5)(h:m3 r=none):iU (5-i) i x r=none:=by
 rw[show 5-i=(5- (i+1))+1 by omega];simp only[iU];rw[bV h]
theorem FJ{n:Int}(hi:i<5)(h:m3 r=some (n,r'))(hn:0<n):iU (5-i) i x r=pb (oT (4-0) i 0 {x with heir:=x.heir.set i n}) (iU (5- (i+1)) (i+1)) r':=by
 rw[show 5-i=(5- (i+1))+1 by omega];simp only[iU];rw[au h,dif_pos hi,if_pos hn]
theorem Iu{n:Int}(hi:i<5)(h:m3 r=some (n,r'))(hn: ¬0<n):iU (5-i) i x r=iU (5- (i+1)) (i+1) {x with heir:=x.heir.set i n} r':=by
 rw[show 5-i=(5- (i+1))+1 by omega];simp only[iU];rw[au h,dif_pos hi,if_neg hn]
theorem FK(hi: ¬i<5):iU (5-i) i x r=some (x,r):=by
 rw[show 5-i=0 by omega];rfl
end
def oB{α:Type}(T:TypeId)(gu:List PanicEntry)(enc:α→Value)(p:Ps α)(v:Value)(bs:List UInt8)(rb:Nat):Ending→List HP→Prop:=
 vY (λx H=>∃a r v',x=enc a∧H=[ah rb [v'] T]∧p bs=some (a,r)∧Tail v bs v' r) (λc H=>∃v',c=gu∧H=[ah rb [v'] T]∧p bs=none)
end Codec
end

section
namespace Leg
open Go Go.ChangeShapes Go.WideShapes Go.RowKit Codec Api
theorem Lv(w:World):Sat [] (hp w) w:=⟨em,λ_=> .inl rfl,by funext b;rfl,trivial⟩
theorem Sat.below{H:List HP}{w w':World}(h:Same w w')(s:Sat H (hp w) w'):Below w.heap.size w w':=by
 refine⟨h.os,h.tape,h.output,h.size,λk hk=>?_⟩;have e:hp w k=some w.heap[k]:=by simp[hp,hk]
 rw[s.frame e];exact e.symm
theorem Does.row{P:Program}{f:FuncId}{args:Array Value}{R:Hl→Prop}{v:Value}(s:Does P f args R [] (dH λu H=>u=v∧H=[]))(w:World)(h:R (hp w)):
 Calls P f args w λe w'=>e= .returned v∧Below w.heap.size w w':=
 (s w (hp w) h (Lv w)).mono λe w' ⟨a,H',b,c⟩=>by
  cases e with
  |returned u=>obtain⟨rfl,_⟩:=c;exact⟨rfl,b.below a⟩
  |panicked _=>exact c.elim
  |outgrown=>exact c.elim
def IsI(k:IntKind)(v:Value)(l:List Int)(F:Hl):Prop:=
 (v= .slice none 0 0∧l=[])∨∃b off cap cs T z,v= .slice (some ⟨b,off,none⟩) l.length cap∧l.length≤cap∧cap≤9223372036854775807∧
  F b=some (.cells (List.toArray cs) T z)∧∀j,j<l.length→cs[off+j]?=some (.int k (l.getD j 0))
section
variable {P:Program} {W:World} {H:Type} {enc:TypeId×Value→H} {t e:TypeId} {k:IntKind} {v:Value} {d:DataW H} {ps:List MemPlace} {B B0:Nat} {spare:Nat→Bool} {held:Bool}
theorem int_in{P:Program}{W:World}{t:TypeId}{k:IntKind}{v:Value}{B:Nat}(ht:P.underlying t=some (.int k))(hv:Value.okWide P W .any B t v): ∃n,v= .int k n∧k.min≤n∧n≤k.max:=by
 obtain⟨n,rfl⟩:=okWide_int ht hv;simp only[Value.okWide,Cell.okWide,Cell.ok,ht,IntKind.has]at hv;exact⟨n,rfl,hv.2⟩
end
end Leg
end

section
namespace Codec
open Go Leg Api
def tI(n:Nat):List UInt8:=if n<128 then [UInt8.ofNat n]else UInt8.ofNat (n%128+128)::tI (n / 128)
termination_by n
decreasing_by omega
theorem m8{n:Nat}(h:n<128):tI n=[UInt8.ofNat n]:=by rw[tI,if_pos h]
theorem od{n:Nat}(h: ¬n<128):tI n=UInt8.ofNat (n%128+128)::tI (n / 128):=by rw[tI,if_neg h]
theorem qM(n:Nat):1≤(tI n).length:=by
 by_cases h:n<128
 · rw[m8 h];simp
 · rw[od h];simp
theorem DX: ∀(k n:Nat),n<2^ (7* (k+1))→(tI n).length≤k+1
 |0,n,h=>by rw[m8 (by simpa using h)];simp
 |k+1,n,h=>by
  by_cases h1:n<128
  · rw[m8 h1];simp
  · rw[od h1,ax]
    have:2^ (7* (k+1+1))=128*2^ (7* (k+1)):=by rw[Nat.mul_add,Nat.pow_add];omega
    have:=DX k (n / 128) (by omega);omega
def oz(n:Int):List UInt8:=tI (n%18446744073709551616).toNat
def bf(l:List Int):List UInt8:=l.flatMap oz
theorem xO(n:Int):(oz n).length≤10:=DX 9 _ (by omega)
theorem aU(l:List Int):(bf l).length≤10*l.length:=by
 induction l with
 |nil=>simp[bf]
 |cons n l ih=>have:=xO n;simp only[bf,db,ai,ax]at ih ⊢;omega
theorem eT(n:Int)(l:List Int):bf (n::l)=oz n++bf l:=rfl
theorem qL(a b:List Int):bf (a++b)=bf a++bf b:=by simp[bf]
theorem fS:bf []=[]:=rfl
theorem IB{l:List Int}{k:Nat}(h:k<l.length):bf (l.drop k)=oz (l.getD k 0)++bf (l.drop (k+1)):=by
 rw[dI h,eT];simp[List.getD_eq_getElem?_getD,h]
theorem Az(n:Int):IntKind.u64.wrap n=(((n%18446744073709551616).toNat:Nat):Int):=by
 simp only[IntKind.wrap,IntKind.signed,IntKind.bits];simp;omega
theorem Oz(n:Nat):iP .u8 (IntKind.u8.wrap (n:Int)) 128=(((UInt8.ofNat (n%128+128)).toNat:Nat):Int):=by
 have e1:IntKind.u8.wrap (n:Int)=((n%256:Nat):Int):=by
  simp only[IntKind.wrap,IntKind.signed,IntKind.bits];simp
 have e:(BitVec.ofInt 8 ((n%256:Nat):Int)|||BitVec.ofInt 8 128).toNat=n%128+128:=by
  have key: ∀m:Nat,m<256→(BitVec.ofInt 8 ((m:Nat):Int)|||BitVec.ofInt 8 128).toNat=m%128+128:=by decide+kernel
  rw[key _ (by omega)];omega
 rw[e1];show IntKind.u8.wrap ((BitVec.ofInt 8 ((n%256:Nat):Int)|||BitVec.ofInt 8 128).toNat:Int)=_;rw[e,Ay (by omega) (by omega)];simp;omega
theorem Mp{n:Nat}(h:n<128):IntKind.u8.wrap (n:Int)=(((UInt8.ofNat n).toNat:Nat):Int):=by
 rw[Ay (by omega) (by omega)];simp;omega
theorem Qk(n:Nat):((n:Nat):Int).fdiv (2^min (7:Int).toNat IntKind.u64.bits)=((n / 128:Nat):Int):=by
 have:min (7:Int).toNat IntKind.u64.bits=7:=by decide
 rw[this,Int.fdiv_eq_ediv_of_nonneg _ (by decide)];simp
def Re(v:Value)(l:List Int)(F:Hl):Prop:=
 (v= .slice none 0 0∧l=[])∨∃b off cap cs T z,v= .slice (some ⟨b,off,none⟩) l.length cap∧F b=some (.cells (List.toArray cs) T z)∧∀j,j<l.length→cs[off+j]?=some (.int .i64 (l.getD j 0))
theorem dP(i:Nat){b off cap T m:Nat}{cs:List Value}{l:List Int}{B:List HP}{F:Hl}(hi:Nat.blt i B.length=true)(e:B.getD i (λ_=>True)=ah b cs T)(hm:m=l.length)(hl:(cs.drop off).take l.length=ints l):
 ∀g,Dj g F→bz B g→Re (.slice (some ⟨b,off,none⟩) m cap) l (jn g F):=λg d s=>by
 subst hm;refine .inr ⟨b,off,cap,cs,T,(0,0),rfl,tj i hi e g d s,λj hj=>?_⟩;have h1:((cs.drop off).take l.length)[j]?=some (.int .i64 (l.getD j 0)):=by rw[hl];exact ints_get l j hj
 rw[List.getElem?_take,if_pos hj,List.getElem?_drop]at h1;exact h1
def fH(x:RowT):(m i:Nat)→List UInt8
 |0,_=>[]
 |m+1,i=>(if h:i<5 then oz (x.heir[i]'h)++(if 0<x.heir[i]'h then bf (bI (x.left[i]'h).toList)else [])else [])++fH x m (i+1)
def im(x:RowT):List UInt8:=oz x.version++(bf (bI x.cells.toList)++fH x 5 0)
theorem tK(x:RowT): ∀m i,(fH x m i).length≤290*m
 |0,_=>by simp[fH]
 |m+1,i=>by
  have ih:=tK x m (i+1);simp only[fH,ai]
  by_cases h:i<5
  · rw[dif_pos h,ai]
    have h1:=xO (x.heir[i]);have h2:=aU (bI (x.left[i]).toList);rw[dd]at h2;simp at h2;split<;>simp<;>omega
  · rw[dif_neg h];simp;omega
theorem iW(x:RowT):(im x).length≤1740:=by
 have h1:=xO x.version;have h2:=aU (bI x.cells.toList);have h3:=tK x 5 0;rw[dd]at h2;simp at h2;simp only[im,ai];omega
theorem lO{l:List CellT}{k:Nat}(h:k<l.length):bf (bI (l.drop k))=bf (l[k]).flat++bf (bI (l.drop (k+1))):=by
 rw[dI h,bI,db,qL];rfl
theorem rF{x:RowT}{i:Nat}(h:i<5):fH x (5-i) i=oz x.heir[i]++((if 0<x.heir[i]then bf (bI (x.left[i]).toList)else [])++fH x (5- (i+1)) (i+1)):=by
 rw[show 5-i=(5- (i+1))+1 by omega];simp only[fH];rw[dif_pos h,aE]
def qS(WR u8:TypeId)(wb:Nat)(bs:List UInt8):Ending→List HP→Prop:=
 dH (λx H=>∃v',x= .pointer (some ⟨wb,0,none⟩)∧H=[ah wb [v'] WR,dZ v' bs u8])
end Codec
end

section
namespace Leg
open Go Codec Api
section
variable {P:Program} {w0:World} {F:Hl} {n:Nat} {ops:Array Oper} {Q:QQ} {S:World→Prop} {D:List Deferred} {L:List (Nat×Value)} {H:List HP}
end
section
variable {P:Program} {n:Nat} {D:List Deferred} {L:List (Nat×Value)} {S:World→Prop} {o:Oper}
end
section
variable {P:Program} {w0:World} {F:Hl} {n:Nat} {ops:Array Oper} {Q:QQ} {D:List Deferred} {L:List (Nat×Value)} {H:List HP} {o:Oper} {l:List Oper} {d:Nat}
end
section
variable {P:Program} {w0:World} {F:Hl} {n:Nat} {ops:Array Oper} {Q:QQ} {D:List Deferred} {L:List (Nat×Value)} {H:List HP} {o:Oper} {l:List Oper} {d:Nat}
theorem TL.ownLen{v:Value}{nn e size:Nat}{xs:List Value}(k:Nat)(hk:Nat.blt k H.length=true)(hH:H.getD k (λ_=>True)=own v nn xs e size)
 (h:pU v nn→v.oneCell'=true→TL P w0 F n ops Q l D L H):TL P w0 F n ops Q l D L H:=λa w f s m=>by
 rcases m.own_form (lb hk) hH with⟨rfl,rfl,_⟩| ⟨g,cap,rfl⟩
 · exact h ⟨_,_,rfl⟩ rfl a w f s m
 · exact h ⟨_,_,rfl⟩ rfl a w f s m
abbrev iZ:= @TL.ownLen
theorem TL.ownNilI(e size:Nat)(h:True→TL P w0 F n ops Q l D L (own (.slice none 0 0) 0 [] e size::H)):TL P w0 F n ops Q l D L H:=λa w f s m=>
 h trivial a w f s (m.mono λg x=>⟨em,g,Ex g,(rG g).symm,⟨by simp, .inl ⟨rfl,rfl,rfl⟩⟩,x⟩)
abbrev PE:= @TL.ownNilI
end
theorem Gv{H:List HP}{g cap nn e:Nat}{cur xs:List Value}(i:Nat)(hi:Nat.blt i H.length=true)(hH:H.getD i (λ_=>True)=ah g cur e)(h1:nn≤cap)(h2:cap≤maxLen)(h3:cur.length=cap)(h4:cur.take nn=xs){h:Hl}(s:bz H h):
 bz (H.set i (own (.slice (some ⟨g,0,none⟩) nn cap) nn xs e 1)) h:=by
 obtain⟨x,y,d,rfl,a,b⟩:=fm i (lb hi) s;rw[hH]at a;refine lq i (lb hi) ⟨x,y,d,rfl,?_,b⟩;refine⟨?_, .inr ⟨g,cap,cur.toArray,rfl,a,h1,h2,by simp[h3],by simpa using h4⟩⟩;rw[←h4,bR];omega
theorem mask{k:Nat}(hk:k≤63)(n:Int):tS .i64 n (2^k-1)=n%2^k:=by
 have h2:(BitVec.ofInt 64 (2^k-1:Int)).toNat=2^k-1:=by
  have:(2:Int)^k=((2^k:Nat):Int):=by simp
  have hle:2^k≤2^63:=Nat.pow_le_pow_right (by decide) hk;have hpos:0<2^k:=Nat.pow_pos (by decide);rw[BitVec.toNat_ofInt,this];have e:((2^k:Nat):Int)-1=((2^k-1:Nat):Int):=by omega
  rw[e];have:((2^k-1:Nat):Int)% ((2^64:Nat):Int)=((2^k-1:Nat):Int):=Int.emod_eq_of_lt (by omega) (by omega);omega
 have h1:((BitVec.ofInt 64 n&&& BitVec.ofInt 64 (2^k-1:Int)).toNat:Int)=n%2^k:=by
  rw[BitVec.toNat_and,h2,Nat.and_two_pow_sub_one_eq_mod,BitVec.toNat_ofInt]
  have hd:((2^k:Nat):Int) ∣ ((2^64:Nat):Int):=by
   exact_mod_cast Nat.pow_dvd_pow 2 (by omega:k≤64)
  have hn:0≤n% ((2^64:Nat):Int):=Aw _ (by decide);rw[Int.natCast_emod,Int.toNat_of_nonneg hn,Int.emod_emod_of_dvd _ hd];simp
 show IntKind.i64.wrap ((BitVec.ofInt 64 n&&& BitVec.ofInt 64 (2^k-1:Int)).toNat:Int)=_;rw[h1]
 have hp:(0:Int)<2^k:=by
  have:(2:Int)^k=((2^k:Nat):Int):=by simp
  rw[this];exact_mod_cast Nat.pow_pos (by decide)
 have hq:(2:Int)^k≤9223372036854775808:=by
  have:(2:Int)^k=((2^k:Nat):Int):=by simp
  rw[this];have hle:2^k≤2^63:=Nat.pow_le_pow_right (by decide) hk;omega
 have ha:=Aw n (Int.ne_of_gt hp);have hb:=IZ n hp;exact bK (by omega) (by omega)
def KV(n:Int):Int:=n%1099511627776
theorem Q2(n:Int):tS .i64 n 1=n%2:=mask (k:=1) (by decide) n
theorem Gz{a c:Int}(h:0≤a):a.tmod c=a%c:=tX h
theorem NL(n:Int):0≤KV n∧KV n<1099511627776:=by unfold KV;omega
theorem Ni(m:Nat)(d:Nat)(h:m<9223372036854775808):IntKind.i64.wrap (((m:Nat):Int).tdiv ((d:Nat):Int))=((m / d:Nat):Int):=by
 have e:((m:Nat):Int).tdiv ((d:Nat):Int)=((m / d:Nat):Int):=by rw[Int.ofNat_tdiv]
 rw[e];have:=Nat.div_le_self m d;generalize m / d=q at*;exact bK (by omega) (by omega)
theorem IsI.len{k:IntKind}{v:Value}{l:List Int}{F:Hl}(h:IsI k v l F):pU v l.length:=by
 rcases h with⟨rfl,rfl⟩| ⟨b,off,cap,cs,T,z,rfl,_⟩
 · exact⟨_,_,rfl⟩
 · exact⟨_,_,rfl⟩
theorem IsI.more{k:IntKind}{v:Value}{l:List Int}{F g:Hl}(h:IsI k v l F)(d:Dj g F):IsI k v l (jn g F):=by
 rcases h with h| ⟨b,off,cap,cs,T,z,h0,h1,h2,h3,h4⟩
 · exact .inl h
 · exact .inr ⟨b,off,cap,cs,T,z,h0,h1,h2,Le.right d _ _ h3,h4⟩
theorem IsI.at{k:IntKind}{v:Value}{l:List Int}{F:Hl}(h:IsI k v l F){j:Nat}(hj:j<l.length):
 ∃b off cap cs T z,v= .slice (some ⟨b,off,none⟩) l.length cap∧F b=some (.cells (List.toArray cs) T z)∧cs[off+j]?=some (.int k (l.getD j 0))∧l.length≤cap:=by
 rcases h with⟨_,rfl⟩| ⟨b,off,cap,cs,T,z,h0,h1,h2,h3,h4⟩
 · simp at hj
 · exact⟨b,off,cap,cs,T,z,h0,h3,h4 j hj,h1⟩
def xL(P:Program)(g:TypeId→Option Nat):List Field→Nat→Option Nat
 | [],o=>some o
 |f::fs,o=>match g f.type with
  |some c=>if f.offset=o∧P.cellsOf f.type=c then xL P g fs (o+c)else none
  |none=>none
def oV(P:Program):Nat→TypeId→Option Nat
 |0,_=>none
 |d+1,t=>match P.underlying t with
  |some (.int .i64)=>some 1
  |some (.array n e)=>match oV P d e with
   |some c=>if P.cellsOf e=c∧P.cellsOf t=n*c then some (n*c)else none
   |none=>none
  |some (.struct fs)=>match xL P (oV P d) fs.toList 0 with
   | some m => if P.cellsOf t = m ∧ fs.all (·.name != "_") = true then some m else none
   |none=>none
  |_=>none
theorem uJ{α β:Type}{f:α→Option β}{g:α→β}: ∀{l:List α},(∀x∈l,f x=some (g x))→l.mapM f=some (l.map g)
 | [],_=>rfl
 |x::l,h=>by
  rw[List.mapM_cons,h x (by simp),uJ (l:=l) λy hy=>h y (by simp[hy])];rfl
theorem F4{α:Type}(c:Nat): ∀(n:Nat) (l:List α),l.length=n*c→((List.range n).map λi=>(l.drop (i*c)).take c).flatten=l
 |0,l,h=>by
  rw[iK]at h;rw[List.eq_nil_of_length_eq_zero h];rfl
 |n+1,l,h=>by
  have h1:(l.take (n*c)).length=n*c:=by rw[bR,h,gp];omega
  have ih:=F4 c n (l.take (n*c)) h1;rw[de,ec,List.flatten_append]
  have e:((List.range n).map λi=>(l.drop (i*c)).take c)=(List.range n).map λi=>((l.take (n*c)).drop (i*c)).take c:=by
   refine ff λi hi=>?_
   have hi':i<n:=eX.1 hi;have:(i+1)*c≤n*c:=mq c hi';rw[gp,Nat.one_mul]at this;rw[o8,List.take_take,show min c (n*c-i*c)=c by omega]
  rw[e,ih];simp only[fb,mN,List.flatten_cons,List.flatten_nil,aW];rw[aD (l:=l.drop (n*c)) (by rw[ej,h,gp];omega)];exact pV _ _
def pZ(l:List Int):List Lit:=l.map (Lit.int .i64)
def WF(l:List Int):Prop:=∀n∈l,(Lit.int .i64 n).wf=true
theorem WF.sub{l:List Int}(h:WF l)(a b:Nat):WF ((l.drop a).take b):=λn hn=>h n (List.mem_of_mem_drop (qX hn))
theorem DJ(l:List Int)(a b:Nat):((ints l).drop a).take b=ints ((l.drop a).take b):=by simp[ints,lD,qf]
theorem vB{P:Program}{d:Nat}(ih: ∀t m,oV P d t=some m→∀l:List Int,l.length=m→WF l→P.keyLits d t (ints l)=some (pZ l))(l:List Int)(hw:WF l):
 ∀(fs:List Field) (o:Nat),xL P (oV P d) fs o=some l.length→
  ∃L,(fs.mapM λf=>P.keyLits d f.type (((ints l).drop f.offset).take (P.cellsOf f.type)))=some L∧L.flatten=pZ (l.drop o)
 | [],o,h=>by
  simp only[xL,Option.some.injEq]at h;exact⟨[],rfl,by rw[dO (by omega)];rfl⟩
 |f::fs,o,h=>by
  simp only[xL]at h;split at h
  · rename_i c hc
    split at h
    · rename_i hh
      have hle:o+c≤l.length:=by
       clear ih;revert h;generalize o+c=q;intro h
       induction fs generalizing q with
       |nil=>simp only[xL,Option.some.injEq]at h;omega
       |cons f' fs ih=>
        simp only[xL]at h;split at h
        · split at h
          · have:=ih _ h;omega
          · cases h
        · cases h
      obtain⟨L,h1,h2⟩:=vB ih l hw fs (o+c) h
      have e:P.keyLits d f.type (((ints l).drop f.offset).take (P.cellsOf f.type))=some (pZ ((l.drop o).take c)):=by
       rw[DJ,hh.1,hh.2];exact ih f.type c hc _ (by rw[bR,ej];omega) (hw.sub _ _)
      refine⟨pZ ((l.drop o).take c)::L,by rw[List.mapM_cons,e,h1];rfl,?_⟩;rw[List.flatten_cons,h2,pZ,pZ,pZ,←ec];congr 1;rw[←mr];exact pV _ _
    · cases h
  · cases h
theorem ly{P:Program}: ∀(d:Nat) (t m:Nat),oV P d t=some m→∀l:List Int,l.length=m→WF l→P.keyLits d t (ints l)=some (pZ l)
 |0,_,_,h=>by simp[oV]at h
 |d+1,t,m,h=>λl hl hw=>by
  have ih:=ly (P:=P) d;simp only[oV]at h;split at h
  · rename_i hu
    simp only[Option.some.injEq]at h;subst h;obtain⟨n,rfl⟩:=y1.1 hl;have:=hw n (by simp);simp[Program.keyLits,hu,ints,pZ,this]
  · rename_i n e hu
    split at h
    · rename_i c hc
      split at h
      · rename_i hh
        simp only[Option.some.injEq]at h;subst h;have hlen:(ints l).length=P.cellsOf t:=by rw[ints_length,hl,hh.2]
        have hm:((List.range n).mapM λi=>P.keyLits d e (((ints l).drop (i*P.cellsOf e)).take (P.cellsOf e)))=some ((List.range n).map λi=>pZ ((l.drop (i*c)).take c)):=by
         refine uJ λi hi=>?_
         have hi':i<n:=eX.1 hi;have:(i+1)*c≤n*c:=mq c hi';rw[gp,Nat.one_mul]at this;rw[hh.1,DJ];exact ih e c hc _ (by rw[bR,ej,hl];omega) (hw.sub _ _)
        have hf:(((List.range n).map λi=>pZ ((l.drop (i*c)).take c))).flatten=pZ l:=by
         have:=congrArg pZ (F4 c n l hl);rw[←this,pZ,List.map_flatten,List.map_map];rfl
        unfold Program.keyLits;simp only[hu];rw[if_pos hlen,hm,Option.map_some,hf]
      · cases h
    · cases h
  · rename_i fs hu
    split at h
    · rename_i m' hc
      split at h
      · rename_i hh
        simp only[Option.some.injEq]at h;subst h;have hlen:(ints l).length=P.cellsOf t:=by rw[ints_length,hl,hh.1]
        obtain⟨L,h1,h2⟩:=vB (P:=P) (d:=d) (λt m h l=>ih t m h l) l hw fs.toList 0 (by rw[hc,hl]);unfold Program.keyLits;simp only[hu];rw[if_pos ⟨hlen,hh.2⟩,h1,Option.map_some,h2];rfl
      · cases h
    · cases h
  · cases h
section
variable {P:Program} {n:Nat} {D:List Deferred} {L:List (Nat×Value)} {S:World→Prop} {o:Oper}
theorem PV.eqlAgg{t t':TypeId}{x y:Operand}{a b:List Int}{m c:Nat}(hg:P.eqGuardType P.depth t=false)(hk:P.keyTypeAt m t=true)(hm:Nat.ble m 10000=true)(hF:oV P m t=some c)(ha:a.length=c)(hb:b.length=c)
 (hf:(agI a).formed P t=true∧(agI b).formed P t=true) (wa:WF a) (wb:WF b)
 (ho:o.op= .binOp .eql t x y t') (hx:cK L x=some (agI a)) (hy:cK L y=some (agI b)):PV P n D L S o (.bool (decide (a=b))):=
 gT ho hx hy λw=>by
  have hm':m≤10000:=fh hm;obtain⟨r,hr,hi⟩:=run_equalIn_deep (10000-m) m t hk w m m (agI a) (agI b) (pZ a) (pZ b) hf.1 hf.2 (by simpa [agI,Value.cells]using ly m t c hF a ha wa) (by simpa [agI,Value.cells]using ly m t c hF b hb wb);rw[show 10000-m+m=10000 by omega]at hr
  have e:r=decide (a=b):=by
   rw[Ax,hi,decide_eq_true_iff];constructor
   · intro h
     have hj:Function.Injective (Lit.int IntKind.i64):=λu v h=>by injection h
     exact(IW λu v h=>hj h).1 h
   · rintro rfl;rfl
  subst e;simp only[agI]at hr ⊢;rw[Sem.run_bind,run_eqGuard_agg w .eql t x y _ _ hg,Result.andThen_ok,run_eql_struct,hr];rfl
end
section
variable {P:Program} {n:Nat} {D:List Deferred} {L:List (Nat×Value)} {S:World→Prop} {o:Oper}
end
theorem Ir{F:Hl}(i:Nat){g cap nn T:Nat}{cur:List Value}{bs:List UInt8}{B:List HP}(m:Nat)(hm:m≤bs.length)(hc:bs.length≤cap)(h2:cap≤maxLen)(hl:cur.take nn=ek bs)(hn:nn=bs.length)(hi:Nat.blt i B.length=true)(e:B.getD i (λ_=>True)=ah g cur T):
 ∀h,Dj h F→bz B h→IsB (.slice (some ⟨g,0,none⟩) m cap) (bs.take m) (jn h F):=λh d s=>by
 have hlen:(bs.take m).length=m:=by rw[bR];omega
 refine .inr ⟨g,0,cap,cur,T,(0,0),by rw[hlen],by omega,by simp only[maxLen]at h2;omega,tj i hi e h d s,λj hj=>?_⟩;rw[hlen]at hj;have e1:=congrArg (λl=>l[j]?) hl;simp only[List.getElem?_take]at e1;rw[if_pos (by omega)]at e1;rw[bq,e1];simp[ek,List.getD_eq_getElem?_getD,List.getElem?_take,hj,show j<bs.length by omega]
def Iq(l:List (Int×Value))(k:Int):Option Value:=match l with
 | []=>none
 | (a,v)::l=>if k=a then some v else Iq l k
def vU(l:List (Int×Value))(k:Int)(v:Value):List (Int×Value):=match l with
 | []=>[(k,v)]
 | (a,u)::l=>if k=a then(a,v)::l else(a,u)::vU l k v
def lH(es:List MapEntry):List (Value×Value):=es.map λe=>(e.key,e.val)
def lI(l:List (Int×Value)):List (Value×Value):=l.map λp=>(.int .i64 p.1,p.2)
def Stamps(es:List MapEntry)(clock:Nat):Prop:=(∀b∈es.map (·.born),b<clock)∧(es.map (·.born)).Nodup
theorem vG(f:MapEntry→MapEntry)(h: ∀e,(f e).born=e.born): ∀(es:List MapEntry) (j:Nat),(es.modify j f).map (·.born)=es.map (·.born)
 | [],_=>by simp
 |e::es,0=>by simp[h]
 |e::es,j+1=>by simp[vG f h es j]
theorem Stamps.snoc{es:List MapEntry}{c:Nat}(s:Stamps es c){e:MapEntry}(h:e.born=c):Stamps (es++[e]) (c+1):=by
 obtain⟨h1,h2⟩:=s;unfold Stamps;rw[ec];refine⟨λb hb=>?_,List.nodup_append.2 ⟨h2,by simp,λa ha b hb q=>?_⟩⟩
 · rcases eY.1 hb with hb|hb
   · have:=h1 b hb;omega
   · simp only[fb,mN,fu]at hb;omega
 · simp only[fb,mN,fu]at hb
   have:=h1 a ha;omega
def jK(m:Nat)(l:List (Int×Value)):HP:=λh=>∃es clock,h=sg m (.map (List.toArray es) clock)∧lH es=lI l∧Stamps es clock
def uN(k:Int):List (Int×Value)→Nat→Option (Nat×Value)
 | [],_=>none
 | (a,v)::l,i=>if k=a then some (i,v)else uN k l (i+1)
theorem DG(k:Int): ∀(l:List (Int×Value)) (i:Nat),(uN k l i).map (·.2)=Iq l k
 | [],_=>rfl
 | (a,v)::l,i=>by
  simp only[uN,Iq]
  by_cases h:k=a
  · simp[h]
  · rw[if_neg h,if_neg h];exact DG k l (i+1)
theorem tG(k:Int): ∀(es:List MapEntry) (l:List (Int×Value)) (i:Nat),lH es=lI l→Instr.findNow (.int .i64) (.int .i64 k) es i=some (uN k l i)
 | [],[],i,_=>rfl
 | [],_::_,i,h=>by simp[lH,lI]at h
 |_::_,[],i,h=>by simp[lH,lI]at h
 |e::es,(a,v)::l,i,h=>by
  simp only[lH,lI,fb,List.cons.injEq,Prod.mk.injEq]at h;obtain⟨⟨h1,h2⟩,h3⟩:=h;simp only[Instr.findNow,h1,h2,Instr.sameNow,uN]
  by_cases q:k=a
  · subst q;simp
  · have e1:(k==a)=false:=by simpa using q
    simp only[e1,if_neg q,if_true];exact tG k es l (i+1) h3
theorem zY(k:Int)(v:Value): ∀(l:List (Int×Value)) (i:Nat),uN k l i=none→vU l k v=l++[(k,v)]
 | [],_,_=>rfl
 | (a,u)::l,i,h=>by
  simp only[uN]at h
  by_cases q:k=a
  · rw[if_pos q]at h;cases h
  · rw[if_neg q]at h
    simp only[vU,if_neg q,zY k v l (i+1) h,kI]
theorem zX(k:Int)(v:Value): ∀(es:List MapEntry) (l:List (Int×Value)) (i j:Nat) (u:Value),lH es=lI l→uN k l i=some (j,u)→
 i≤j∧∃e,es[j-i]?=some e∧e.key= .int .i64 k∧lH (es.modify (j-i) λe=> {e with key:= .int .i64 k,val:=v})=lI (vU l k v)
 |_,[],_,_,_,_,h=>by simp[uN]at h
 | [],_::_,i,_,_,h,_=>by simp[lH,lI]at h
 |e::es,(a,w)::l,i,j,u,h,hk=>by
  simp only[lH,lI,fb,List.cons.injEq,Prod.mk.injEq]at h;obtain⟨⟨h1,h2⟩,h3⟩:=h;simp only[uN]at hk
  by_cases q:k=a
  · rw[if_pos q]at hk
    simp only[Option.some.injEq,Prod.mk.injEq]at hk;obtain⟨rfl,rfl⟩:=hk;refine⟨aH _,e,by simp,by rw[h1,q],?_⟩;rw[yZ];subst q;have e0:vU ((k,w)::l) k v=(k,v)::l:=by simp[vU]
    rw[e0];simp only[List.modify_zero_cons,lH,lI,fb,h3]
  · rw[if_neg q]at hk
    obtain⟨i1,e',i2,i3,i4⟩:=zX k v es l (i+1) j u h3 hk;have e1:j-i=(j- (i+1))+1:=by omega
    refine⟨by omega,e',by rw[e1];simpa using i2,i3,?_⟩;rw[e1,List.modify_succ_cons];simp only[vU,if_neg q,lH,lI,fb,h1,h2]at i4 ⊢;rw[i4]
theorem td{P:Program}{w:World}(b:Bool)(d:Nat){t:TypeId}{kk:IntKind}{k:Int}(h:P.underlying t=some (.int kk)):(Instr.checkKey b (d+1) t (.int .i64 k)).run P w= .ok () w:=by
 simp[Instr.checkKey,run_underlying h]
theorem vi{P:Program}{w:World}{t:TypeId}{k:Int}{es:List MapEntry}{l:List (Int×Value)}(h:P.underlying t=some (.int .i64))(hp:lH es=lI l):(Instr.findKey t (.int .i64 k) es).run P w= .ok (uN k l 0) w:=by
 simp[Instr.findKey,run_underlying h,tG k es l 0 hp]
section
variable {P:Program} {w0:World} {F:Hl} {n:Nat} {ops:Array Oper} {Q:QQ} {D:List Deferred} {L:List (Nat×Value)} {H:List HP} {o:Oper} {l:List Oper} {d:Nat} {S:World→Prop}
theorem Sat.mapS{w:World}{m:Nat}{kv:List (Int×Value)}(s:Sat H F w)(i:Nat)(hi:Nat.blt i H.length=true)(e:H.getD i (λ_=>True)=jK m kv): ∃es clock,w.heap[m]?=some (.map (List.toArray es) clock)∧lH es=lI kv∧Stamps es clock:=by
 obtain⟨h,d,e',x⟩:=s;obtain⟨h1,h2,d',rfl,a,_⟩:=fm i (lb hi) x;rw[e]at a;obtain⟨es,clock,h3,h4⟩:=a;refine⟨es,clock,?_,h4⟩
 have:hp w m=some (.map (List.toArray es) clock):=by
  rw[e',jL];exact iA (by rw[h3];simp[sg])
 exact this
theorem Sat.map{w:World}{m:Nat}{kv:List (Int×Value)}(s:Sat H F w)(i:Nat)(hi:Nat.blt i H.length=true)(e:H.getD i (λ_=>True)=jK m kv): ∃es clock,w.heap[m]?=some (.map (List.toArray es) clock)∧lH es=lI kv:=let ⟨es,c,h1,h2,_⟩:=s.mapS i hi e;⟨es,c,h1,h2⟩
def RdM(S:World→Prop)(m:Nat)(kv:List (Int×Value)):Prop:=∀w,S w→∃es clock,w.heap[m]?=some (.map (List.toArray es) clock)∧lH es=lI kv
theorem RdM.own{m:Nat}{kv:List (Int×Value)}(i:Nat)(hi:Nat.blt i H.length=true)(e:H.getD i (λ_=>True)=jK m kv):RdM (Sat H F) m kv:=λ_ s=>s.map i hi e
theorem PV.lookup{t kt et m:Nat}{x y:Operand}{k:Int}{kv:List (Int×Value)}{z v:Value}(ho:o.op= .lookup t x y false)(ht:P.underlying t=some (.map kt et))(hk:P.underlying kt=some (.int .i64))(hz:(P.info? et).map (·.zero)=some (some z))
 (hx:cK L x=some (.map (some m))) (hy:cK L y=some (.int .i64 k)) (hR:RdM S m kv) (hv:(Iq kv k).getD z=v):PV P n D L S o v:=λa w f s=>by
 obtain⟨es,clock,h1,h2⟩:=hR w s;subst hv;have hc:=td (P:=P) (w:=w) (List.toArray es).isEmpty 9999 (k:=k) hk;have hf:=vi (P:=P) (w:=w) (k:=k) hk h2;have hg:(getObj m).run P w= .ok (.map (List.toArray es) clock) w:=by simp[getObj,Sem.run,h1]
 simp only[execOp,ho,f.eval hx,f.eval hy,Instr.lookup,Sem.run_bind,run_underlying ht,Result.andThen_ok,hg,hc,hf,Sem.run_pure];rw[←DG k kv 0];cases hq:uN k kv 0 with
 |none=>simp[hq,oN hz]
 |some p=>simp[hq]
theorem TL.makeMap{t:TypeId}(hw:Want n D ops o L)(ho:o.op= .makeMap t none)(hd:o.dst=some d)(hn:Nat.blt d n=true)
 (h: ∀m,TL P w0 F n ops Q l D ((d, .map (some m))::L) (jK m []::H)):TL P w0 F n ops Q (o::l) D L H:=
 mJ hw λa w f s m=>by
  unfold Oper.wp
  have r:(execOp a.eval o).run P w= .ok (.value (.map (some w.heap.size))) (w.alloc (.map #[] 0)):=by
   simp[execOp,ho,Instr.makeMap,newObj,Sem.run]
  rw[r,Oper.upon_value,hd];refine h _ _ _ (f.put (lb hn) _) (s.trans ⟨rfl,rfl,rfl,by simp⟩) ((m.alloc _).mono λh s=>cF s (λ_ x=>?_) λ_ x=>x);exact⟨[],0,x,rfl,(λb hb=>nomatch hb),List.nodup_nil⟩
theorem TL.mapUpd{H':List HP}{t kt et m i:Nat}{x y u:Operand}{k:Int}{kv:List (Int×Value)}{v:Value}(hw:Want n D ops o L)(ho:o.op= .mapUpdate t x y u∨o.op= .insert t x y u)(hd:o.dst=none)(ht:P.underlying t=some (.map kt et))(hk:P.underlying kt=some (.int .i64))
 (hx:cK L x=some (.map (some m))) (hy:cK L y=some (.int .i64 k)) (hu:cK L u=some v) (hi:Nat.blt i H.length=true) (hH:H.getD i (λ_=>True)=jK m kv) (hH':H.set i (jK m (vU kv k v))=H')
 (h:TL P w0 F n ops Q l D L H'):TL P w0 F n ops Q (o::l) D L H:=
 TL.eff hw hd (λa w f _ s=>by
  obtain⟨es,clock,h1,h2,hst⟩:=s.mapS i hi hH;have hc:=td (P:=P) (w:=w) false 9999 (k:=k) hk;have hf:=vi (P:=P) (w:=w) (k:=k) hk h2;have hg:(getObj m).run P w= .ok (.map (List.toArray es) clock) w:=by simp[getObj,Sem.run,h1]
  have turn: ∀es' c',lH es'=lI (vU kv k v)→Stamps es' c'→Sat H' F {w with heap:=w.heap.setIfInBounds m (.map (List.toArray es') c')}:=λes' c' he hs'=>by
   subst hH'
   have hm:m<w.heap.size:=by
    by_cases q:m<w.heap.size
    · exact q
    · rw[Array.getElem?_eq_none (by omega)]at h1;cases h1
   obtain⟨h0,d0,e0,x0⟩:=s;obtain⟨g1,g2,d',rfl,a0,y0⟩:=fm i (lb hi) x0;rw[hH]at a0;obtain⟨es0,c0,a1,_⟩:=a0;have s1:Sat (Bh m (.map (List.toArray es0) c0)::H.eraseIdx i) F w:=⟨_,d0,e0,⟨g1,g2,d',rfl,a1,y0⟩⟩;have s2:=s1.write (w':= {w with heap:=w.heap.setIfInBounds m (.map (List.toArray es') c')}) 0 (o':= .map (List.toArray es') c') (by simp) rfl (by simp[hm]) (λk hk=>by simp[Array.getElem?_setIfInBounds,Ne.symm hk]);obtain⟨h3,d3,e3,x3⟩:=s2;obtain⟨f1,f2,d4,rfl,a4,y4⟩:=x3;exact⟨_,d3,e3,lq i (lb hi) ⟨f1,f2,d4,rfl,⟨es',c',a4,he,hs'⟩,y4⟩⟩
  have hset:=λo=>MapKept.run_setObj_map (P:=P) o h1
  have hx':execOp a.eval o=(do Instr.mapUpdate t (.map (some m)) (.int .i64 k) v;pure .skip):=by
   rcases ho with ho|ho<;>simp only[execOp,ho,f.eval hx,f.eval hy,f.eval hu]
  simp only[hx',Instr.mapUpdate,Sem.run_bind,run_underlying ht,Result.andThen_ok,hg,hc,hf];cases q:uN k kv 0 with
  |none=>
   have e1:=zY k v kv 0 q;refine⟨{w with heap:=w.heap.setIfInBounds m (.map (List.toArray (es++[{key:= .int .i64 k,val:=v,born:=clock}])) (clock+1))},by simp[q,hset],⟨rfl,rfl,rfl,by simp⟩,?_⟩;exact turn _ _ (by rw[e1];simp only[lH,lI,ec]at h2 ⊢;rw[h2];rfl) (hst.snoc rfl)
  |some p=>
   obtain⟨j,u'⟩:=p;obtain⟨_,e,e1,e2,e3⟩:=zX k v es kv 0 j u' h2 q;rw[Rv]at e1 e3;refine⟨{w with heap:=w.heap.setIfInBounds m (.map (List.toArray (es.modify j λe=> {e with key:= .int .i64 k,val:=v})) clock)},by simp[q,hset,Instr.keyThatStays,Instr.sameBits,e1,e2],⟨rfl,rfl,rfl,by simp⟩,?_⟩
   exact turn _ _ e3 (by unfold Stamps;rw[vG (λe=> {e with key:= .int .i64 k,val:=v}) (λ_=>rfl)];exact hst)) h
theorem TL.mapUpdate{H':List HP}{t kt et m i:Nat}{x y u:Operand}{k:Int}{kv:List (Int×Value)}{v:Value}(hw:Want n D ops o L)(ho:o.op= .mapUpdate t x y u)(hd:o.dst=none)(ht:P.underlying t=some (.map kt et))(hk:P.underlying kt=some (.int .i64))
 (hx:cK L x=some (.map (some m))) (hy:cK L y=some (.int .i64 k)) (hu:cK L u=some v) (hi:Nat.blt i H.length=true) (hH:H.getD i (λ_=>True)=jK m kv) (hH':H.set i (jK m (vU kv k v))=H')
 (h:TL P w0 F n ops Q l D L H'):TL P w0 F n ops Q (o::l) D L H:=TL.mapUpd hw (.inl ho) hd ht hk hx hy hu hi hH hH' h
end
open Codec Api
section
variable {P:Program} {w0:World} {F:Hl} {n:Nat} {ops:Array Oper} {Q:QQ} {D:List Deferred} {L:List (Nat×Value)} {H:List HP} {o:Oper} {l:List Oper} {d:Nat} {S:World→Prop}
theorem TL.copy{H':List HP}{t t2 e et b off dl dc m i:Nat}{x y:Operand}{vy:Value}{cs cs' news:List Value}(hw:Want n D ops o L)
 (ho:o.op= .call {callee:= .builtin .copy,args:=#[x,y],argTypes:=#[t,t2]}) (hd:o.dst=some d) (hn:Nat.blt d n=true) (ht:P.underlying t=some (.slice e)) (hs:(P.info? e).map (·.size)=some 1)
 (hx:cK L x=some (.slice (some ⟨b,off,none⟩) dl dc)) (hy:cK L y=some vy) (hi:Nat.blt i H.length=true) (hH:H.getD i (λ_=>True)=ah b cs et)
 (hsrc: ∀w,Sat H F w→Src (Sat H F) vy m news 1) (h1: ∀u∈news,u.oneCell'=true) (hfit:off+min m dl≤cs.length) (hcs:wr cs off (news.take (min m dl))=cs') (hH':H.set i (ah b cs' et)=H')
 (h:TL P w0 F n ops Q l D ((d, .int .i64 ((min m dl:Nat):Int))::L) H'):TL P w0 F n ops Q (o::l) D L H:=
 mJ hw λa w f sm q=>by
  obtain⟨hl,hxx⟩:=hsrc w q;rw[gn]at hl;have hb:=q.block i (lb hi) hH;have hlen:(news.take (min m dl)).length=min m dl:=by rw[bR,hl];omega
  have hr:(Builtin.copy_ #[t,t2] o.type #[.slice (some ⟨b,off,none⟩) dl dc,vy]).run P w= .ok (.int .i64 ((min m dl:Nat):Int)) (w.setRow b (wr cs off (news.take (min m dl))).toArray):=by
   rcases hxx with⟨rfl,h0⟩| ⟨a0,c,rfl,hc⟩
   · subst h0
     have:=run_copy_nil (P:=P) w t t2 o.type e ⟨b,off,none⟩ dl dc ht (by rw[hs];rfl);rw[this];have hn0:news=[]:=List.eq_nil_of_length_eq_zero hl;subst hn0;simp only[Nat.zero_min,List.take_nil,wr,aW,aB,KO,pV];have:=setRow_self w b cs.toArray et (0,0) hb;simp only[goInt];congr 1;exact this.symm
   · have:=run_copy_row (P:=P) w t t2 o.type e b off dl dc a0 m c cs.toArray et (news.take (min m dl)) ht hs hb hlen (λj v hj=>by
      rw[List.getElem?_take]at hj;split at hj
      · exact hc w q j v hj
      · cases hj) (by rw[hlen];simpa using hfit) (λv hv=>by
      have:=h1 v (qX hv)
      cases v<;>simp_all [Value.oneCell'])
     rw[this,hlen];simp[goInt,wr,hlen]
  unfold Oper.wp execOp;simp only[ho,resolve,invoke,builtin,Sem.run_bind,Sem.run_pure,Result.andThen_ok,Mz,fb,mN,f.eval hx,f.eval hy,hr];rw[Oper.upon_value,hd];subst hcs;subst hH';refine h _ _ (f.put (lb hn) _) (sm.trans ⟨rfl,rfl,rfl,by simp⟩) (q.write i (lb hi) hH (setRow_heap w b cs.toArray _ et _ hb) (λk hk=>setRow_other w b k _ hk))
abbrev N5:= @TL.copy
theorem PV.maxI{t1 t2:TypeId}{x y:Operand}{k:IntKind}{a b:Int}(ho:o.op= .call {callee:= .builtin .max,args:=#[x,y],argTypes:=#[t1,t2]})(hx:cK L x=some (.int k a))(hy:cK L y=some (.int k b)):PV P n D L S o (.int k (max a b)):=λc w f _=>by
 simp[execOp,ho,resolve,invoke,builtin,f.eval hx,f.eval hy,Builtin.max_,Builtin.max2];split<;>(first|omega| (simp;omega)|simp_all)
abbrev yW:= @PV.maxI
theorem PV.minI{t1 t2:TypeId}{x y:Operand}{k:IntKind}{a b:Int}(ho:o.op= .call {callee:= .builtin .min,args:=#[x,y],argTypes:=#[t1,t2]})(hx:cK L x=some (.int k a))(hy:cK L y=some (.int k b)):PV P n D L S o (.int k (min a b)):=λc w f _=>by
 simp[execOp,ho,resolve,invoke,builtin,f.eval hx,f.eval hy,Builtin.min_,Builtin.min2];split<;>(first|omega| (simp;omega)|simp_all)
end
end Leg
end

/-
  Joined texts: what a statement's proof reaches.
-/
import Derived.WalkKit
import Derived.Deep.LoopGhost
import Derived.Deep.MidRow
import Derived.Deep.RegionHeld
import Derived.LoopN
import Derived.Great.BuildSlice
import Derived.Recover
import Derived.ProofKit
import Derived.ChangeOld
import Derived.Below
import Derived.Laws.StructEq
import Derived.DeepKeys
import Derived.MapKept
import Derived.Laws.CopyRow
set_option maxHeartbeats 8000000
set_option maxRecDepth 100000
set_option linter.unusedSimpArgs false
set_option linter.unusedVariables false
section
namespace Leg
open Go
abbrev Hl := Nat → Option Obj
abbrev HP := Hl → Prop
def hp (w : World) : Hl := fun b => w.heap[b]?
def Dj (h g : Hl) : Prop := ∀ b, h b = none ∨ g b = none
def jn (h g : Hl) : Hl := fun b => match h b with
 | some o => some o
 | none => g b
def em : Hl := fun _ => none
def sg (b : Nat) (o : Obj) : Hl := fun c => if c = b then some o else none
theorem jn_some {h g : Hl} {b : Nat} {o : Obj} (e : h b = some o) : jn h g b = some o := by simp [jn, e]
theorem jn_none {h g : Hl} {b : Nat} (e : h b = none) : jn h g b = g b := by simp [jn, e]
theorem Dj.symm {h g : Hl} (d : Dj h g) : Dj g h := fun b => (d b).symm
theorem jn_comm {h g : Hl} (d : Dj h g) : jn h g = jn g h := by
 funext b
 rcases d b with e | e <;> cases e1 : h b <;> cases e2 : g b <;> simp_all [jn]
theorem jn_assoc (h g k : Hl) : jn (jn h g) k = jn h (jn g k) := by
 funext b; cases e1 : h b <;> simp [jn, e1]
theorem Dj.jn_left {h g k : Hl} : Dj (jn h g) k ↔ Dj h k ∧ Dj g k := by
 constructor
 · intro d
   refine ⟨fun b => ?_, fun b => ?_⟩
   · rcases d b with e | e
     · cases e1 : h b <;> simp_all [jn]
     · exact .inr e
   · rcases d b with e | e
     · cases e1 : h b <;> simp_all [jn]
     · exact .inr e
 · rintro ⟨d1, d2⟩ b
   rcases d1 b with e | e
   · rcases d2 b with e' | e'
     · exact .inl (by simp [jn, e, e'])
     · exact .inr e'
   · exact .inr e
theorem Dj.jn_right {h g k : Hl} : Dj h (jn g k) ↔ Dj h g ∧ Dj h k :=
 ⟨fun d => let ⟨a, b⟩ := Dj.jn_left.1 d.symm; ⟨a.symm, b.symm⟩, fun ⟨a, b⟩ => (Dj.jn_left.2 ⟨a.symm, b.symm⟩).symm⟩
theorem jn_em (h : Hl) : jn h em = h := by funext b; cases e : h b <;> simp [jn, e, em]
theorem em_jn (h : Hl) : jn em h = h := by funext b; simp [jn, em]
theorem Dj.em (h : Hl) : Dj h em := fun _ => .inr rfl
theorem Dj.em' (h : Hl) : Dj Leg.em h := fun _ => .inl rfl
def Le (h g : Hl) : Prop := ∀ b o, h b = some o → g b = some o
theorem Le.left (h g : Hl) : Le h (jn h g) := fun _ _ e => jn_some e
theorem Le.right {h g : Hl} (d : Dj h g) : Le g (jn h g) := by rw [jn_comm d]; exact Le.left g h
def star (p q : HP) : HP := fun h => ∃ h1 h2, Dj h1 h2 ∧ h = jn h1 h2 ∧ p h1 ∧ q h2
def sep : List HP → HP
 | [] => fun _ => True
 | p :: ps => star p (sep ps)
theorem star_comm {p q : HP} {h : Hl} (s : star p q h) : star q p h := by
 obtain ⟨h1, h2, d, rfl, a, b⟩ := s
 exact ⟨h2, h1, d.symm, jn_comm d, b, a⟩
theorem star_assoc {p q r : HP} {h : Hl} : star (star p q) r h ↔ star p (star q r) h := by
 constructor
 · rintro ⟨_, h3, d, rfl, ⟨h1, h2, d', rfl, a, b⟩, c⟩
   obtain ⟨d1, d2⟩ := Dj.jn_left.1 d
   exact ⟨h1, jn h2 h3, Dj.jn_right.2 ⟨d', d1⟩, jn_assoc .., a, h2, h3, d2, rfl, b, c⟩
 · rintro ⟨h1, _, d, rfl, a, h2, h3, d', rfl, b, c⟩
   obtain ⟨d1, d2⟩ := Dj.jn_right.1 d
   exact ⟨jn h1 h2, h3, Dj.jn_left.2 ⟨d2, d'⟩, (jn_assoc ..).symm, ⟨h1, h2, d1, rfl, a, b⟩, c⟩
theorem star_mono {p p' q q' : HP} {h : Hl} (s : star p q h) (a : ∀ h, p h → p' h) (b : ∀ h, q h → q' h) : star p' q' h := by
 obtain ⟨h1, h2, d, e, x, y⟩ := s
 exact ⟨h1, h2, d, e, a _ x, b _ y⟩
theorem sep_more : ∀ (H : List HP) {h g : Hl}, sep H h → Dj h g → sep H (jn h g)
 | [], _, _, _, _ => trivial
 | p :: ps, h, g, s, d => by
  obtain ⟨h1, h2, d', rfl, a, b⟩ := s
  obtain ⟨d1, d2⟩ := Dj.jn_left.1 d
  exact ⟨h1, jn h2 g, Dj.jn_right.2 ⟨d', d1⟩, jn_assoc .., a, sep_more ps b d2⟩
theorem sep_append : ∀ (A B : List HP) {h : Hl}, sep (A ++ B) h ↔ star (sep A) (sep B) h
 | [], B, h => by
  constructor
  · intro s; exact ⟨em, h, Dj.em' h, (em_jn h).symm, trivial, s⟩
  · rintro ⟨h1, h2, d, rfl, _, s⟩
    rw [jn_comm d]; exact sep_more _ s d.symm
 | p :: ps, B, h => by
  show star p (sep (ps ++ B)) h ↔ star (star p (sep ps)) (sep B) h
  rw [star_assoc]
  constructor
  · intro s; exact star_mono s (fun _ x => x) fun _ x => (sep_append ps B).1 x
  · intro s; exact star_mono s (fun _ x => x) fun _ x => (sep_append ps B).2 x
theorem sep_perm {A B : List HP} (e : A.Perm B) : ∀ {h : Hl}, sep A h → sep B h := by
 induction e with
 | nil => intro h s; exact s
 | cons x _ ih => intro h s; exact star_mono s (fun _ y => y) fun _ y => ih y
 | swap x y l =>
  intro h s
  have t := star_assoc.2 s
  exact star_assoc.1 (star_mono t (fun _ z => star_comm z) fun _ z => z)
 | trans _ _ ih1 ih2 => intro h s; exact ih2 (ih1 s)
theorem perm_get {α : Type} (d : α) : ∀ (H : List α) (i : Nat), i < H.length → H.Perm (H.getD i d :: H.eraseIdx i)
 | [], i, h => by simp at h
 | x :: xs, 0, _ => by simp
 | x :: xs, i + 1, h => by
  have ih := perm_get d xs i (by simpa using h)
  simp only [List.getD_cons_succ, List.eraseIdx_cons_succ]
  exact (List.Perm.cons x ih).trans (List.Perm.swap ..)
theorem sep_get {H : List HP} {h : Hl} (i : Nat) (hi : i < H.length) (s : sep H h) : star (H.getD i (fun _ => True)) (sep (H.eraseIdx i)) h :=
 sep_perm (perm_get _ H i hi) s
theorem sep_put {H : List HP} {h : Hl} {p : HP} (i : Nat) (hi : i < H.length) (s : star p (sep (H.eraseIdx i)) h) : sep (H.set i p) h := by
 have e : (p :: H.eraseIdx i).Perm (H.set i p) := by
  have := perm_get (fun _ => True) (H.set i p) i (by simpa using hi)
  simp only [List.getD_eq_getElem?_getD, List.getElem?_set_self hi, Option.getD_some, List.eraseIdx_set_eq] at this
  exact this.symm
 exact sep_perm e s
def obj (b : Nat) (o : Obj) : HP := fun h => h = sg b o
structure Same (w w' : World) : Prop where
 os : w'.os = w.os
 tape : w'.tape = w.tape
 output : w'.output = w.output
 size : w.heap.size ≤ w'.heap.size
theorem Same.refl (w : World) : Same w w := ⟨rfl, rfl, rfl, Nat.le_refl _⟩
theorem Same.trans {a b c : World} (x : Same a b) (y : Same b c) : Same a c :=
 ⟨y.os.trans x.os, y.tape.trans x.tape, y.output.trans x.output, Nat.le_trans x.size y.size⟩
def Sat (H : List HP) (F : Hl) (w : World) : Prop := ∃ h, Dj h F ∧ hp w = jn h F ∧ sep H h
theorem Sat.mono {A B : List HP} {F : Hl} {w : World} (s : Sat A F w) (e : ∀ h, sep A h → sep B h) : Sat B F w := by
 obtain ⟨h, d, e', x⟩ := s
 exact ⟨h, d, e', e h x⟩
theorem Sat.drew {H : List HP} {F : Hl} {w : World} (s : Sat H F w) : Sat H F w.drew := s
theorem Sat.frame {H : List HP} {F : Hl} {w : World} (s : Sat H F w) {b : Nat} {o : Obj} (e : F b = some o) : w.heap[b]? = some o := by
 obtain ⟨h, d, e', _⟩ := s
 have : hp w b = some o := by
  rw [e']
  rcases d b with x | x
  · rw [jn_none x]; exact e
  · rw [x] at e; cases e
 exact this
theorem Sat.split {A B : List HP} {F : Hl} {w : World} (s : Sat (A ++ B) F w) : ∃ g, Dj g F ∧ sep B g ∧ Sat A (jn g F) w := by
 obtain ⟨h, d, e, x⟩ := s
 obtain ⟨h1, h2, d', rfl, a, b⟩ := (sep_append A B).1 x
 obtain ⟨d1, d2⟩ := Dj.jn_left.1 d
 exact ⟨h2, d2, b, h1, Dj.jn_right.2 ⟨d', d1⟩, by rw [e, jn_assoc], a⟩
theorem Sat.merge {A B : List HP} {F g : Hl} {w : World} (d : Dj g F) (b : sep B g) (s : Sat A (jn g F) w) : Sat (A ++ B) F w := by
 obtain ⟨h, d', e, a⟩ := s
 obtain ⟨d1, d2⟩ := Dj.jn_right.1 d'
 exact ⟨jn h g, Dj.jn_left.2 ⟨d2, d⟩, by rw [e, jn_assoc], (sep_append A B).2 ⟨h, g, d1, rfl, a, b⟩⟩
theorem Sat.block {H : List HP} {F : Hl} {w : World} (s : Sat H F w) (i : Nat) {b : Nat} {o : Obj} (hi : i < H.length) (e : H.getD i (fun _ => True) = obj b o) : w.heap[b]? = some o := by
 obtain ⟨h, d, e', x⟩ := s
 obtain ⟨h1, h2, d', rfl, a, _⟩ := sep_get i hi x
 rw [e] at a
 have : hp w b = some o := by
  rw [e', jn_assoc]
  exact jn_some (by rw [a]; simp [sg])
 exact this
theorem Sat.alloc {H : List HP} {F : Hl} {w : World} (s : Sat H F w) (o : Obj) : Sat (obj w.heap.size o :: H) F (w.alloc o) := by
 obtain ⟨h, d, e, x⟩ := s
 have hn : hp w w.heap.size = none := by simp [hp]
 rw [e] at hn
 have n1 : h w.heap.size = none := by cases k : h w.heap.size <;> simp_all [jn]
 have n2 : F w.heap.size = none := by rw [jn_none n1] at hn; exact hn
 have d1 : Dj (sg w.heap.size o) h := fun b => by
  by_cases k : b = w.heap.size
  · exact .inr (k ▸ n1)
  · exact .inl (by simp [sg, k])
 have d2 : Dj (sg w.heap.size o) F := fun b => by
  by_cases k : b = w.heap.size
  · exact .inr (k ▸ n2)
  · exact .inl (by simp [sg, k])
 refine ⟨jn (sg w.heap.size o) h, Dj.jn_left.2 ⟨d2, d⟩, ?_, sg w.heap.size o, h, d1, rfl, rfl, x⟩
 rw [jn_assoc, ← e]
 funext b
 show (w.heap.push o)[b]? = _
 rw [Array.getElem?_push]
 by_cases k : b = w.heap.size
 · subst k; simp [jn, sg]
 · simp [jn, sg, k, hp]
theorem Sat.write {H : List HP} {F : Hl} {w w' : World} (s : Sat H F w) (i : Nat) {b : Nat} {o o' : Obj} (hi : i < H.length) (e : H.getD i (fun _ => True) = obj b o)
 (hw : w'.heap[b]? = some o') (hother : ∀ k, k ≠ b → w'.heap[k]? = w.heap[k]?) : Sat (H.set i (obj b o')) F w' := by
 obtain ⟨h, d, e', x⟩ := s
 obtain ⟨h1, h2, d', rfl, a, y⟩ := sep_get i hi x
 rw [e] at a
 obtain ⟨d1, d2⟩ := Dj.jn_left.1 d
 have key : ∀ g : Hl, Dj h1 g → Dj (sg b o') g := fun g dg c => by
  by_cases k : c = b
  · subst k
    rcases dg c with z | z
    · rw [a] at z; simp [sg] at z
    · exact .inr z
  · exact .inl (by simp [sg, k])
 refine ⟨jn (sg b o') h2, Dj.jn_left.2 ⟨key _ d1, d2⟩, ?_, sep_put i hi ⟨_, h2, key _ d', rfl, rfl, y⟩⟩
 funext c
 show w'.heap[c]? = _
 by_cases k : c = b
 · subst k; rw [hw]; simp [jn, sg]
 · rw [hother c k]
   show hp w c = _
   rw [e', a]
   simp [jn, sg, k]
end Leg
end

section
namespace Leg
open Go
def lk : List (Nat × Value) → Nat → Option Value
 | [], _ => none
 | (k, v) :: r, t => bif Nat.beq k t then some v else lk r t
def evL (L : List (Nat × Value)) : Operand → Option Value
 | .tmp t => lk L t
 | .const v => some v
 | .global g => some (.pointer (some ⟨g, 0, none⟩))
 | .func f => some (.func (.func f) #[] #[])
def Fr (n : Nat) (D : List Deferred) (L : List (Nat × Value)) (a : Act) : Prop :=
 a.tmps.size = n ∧ a.defers = D ∧ ∀ t v, lk L t = some v → a.tmps[t]? = some v
theorem Fr.eval {n : Nat} {D : List Deferred} {L : List (Nat × Value)} {a : Act} (h : Fr n D L a) {x : Operand} {v : Value} (e : evL L x = some v) : a.eval x = v := by
 cases x with
 | tmp t =>
  have := h.2.2 t v e
  show a.tmps.getD t undef = v
  rw [Array.getD_eq_getD_getElem?, this]; rfl
 | const u => exact Option.some.inj e
 | global g => exact Option.some.inj e
 | func f => exact Option.some.inj e
theorem Fr.put {n : Nat} {D : List Deferred} {L : List (Nat × Value)} {a : Act} (h : Fr n D L a) {d : Nat} (hd : d < n) (v : Value) : Fr n D ((d, v) :: L) (a.put (some d) v) := by
 obtain ⟨h1, h2, h3⟩ := h
 refine ⟨by simpa [Act.put] using h1, h2, fun t u e => ?_⟩
 show (a.tmps.setIfInBounds d v)[t]? = some u
 rw [Array.getElem?_setIfInBounds]
 by_cases k : d = t
 · subst k
   have e' : some v = some u := by simpa [lk] using e
   rw [if_pos rfl, if_pos (by omega), e']
 · have b : Nat.beq d t = false := by
    cases hb : Nat.beq d t
    · rfl
    · exact absurd (Nat.eq_of_beq_eq_true hb) k
   rw [if_neg k]
   exact h3 t u (by simpa [lk, b] using e)
def Sub (L L' : List (Nat × Value)) : Prop := ∀ t v, lk L' t = some v → lk L t = some v
theorem Sub.nil (L : List (Nat × Value)) : Sub L [] := fun _ _ e => by cases e
theorem Sub.cons {L L' : List (Nat × Value)} {t : Nat} {u v : Value} (e : lk L t = some u) (q : u = v) (s : Sub L L') : Sub L ((t, v) :: L') := fun k x h => by
 by_cases b : Nat.beq t k = true
 · have : v = x := by simpa [lk, b] using h
   have kt := Nat.eq_of_beq_eq_true b
   subst kt; subst this; subst q; exact e
 · exact s k x (by simpa [lk, b] using h)
theorem Sub.r {L L' : List (Nat × Value)} {t : Nat} {u : Value} (s : Sub L L') (e : lk L t = some u := by rfl) : Sub L ((t, u) :: L') := Sub.cons e rfl s
theorem Fr.sub {n : Nat} {D : List Deferred} {L L' : List (Nat × Value)} {a : Act} (h : Fr n D L a) (s : Sub L L') : Fr n D L' a :=
 ⟨h.1, h.2.1, fun t v e => h.2.2 t v (s t v e)⟩
abbrev QQ := Exit → Act → World → Prop
section
variable (P : Program) (w0 : World) (F : Hl) (n : Nat)
def TC (c : Code) (Q : QQ) (D : List Deferred) (L : List (Nat × Value)) (H : List HP) : Prop :=
 ∀ a w, Fr n D L a → Same w0 w → Sat H F w → c.wp P Q a w
def TL (ops : Array Oper) (Q : QQ) (l : List Oper) (D : List Deferred) (L : List (Nat × Value)) (H : List HP) : Prop :=
 ∀ a w, Fr n D L a → Same w0 w → Sat H F w → wpList P ops Q l a w
def TE (Q : QQ) (e : Exit) (D : List Deferred) (L : List (Nat × Value)) (H : List HP) : Prop :=
 ∀ a w, Fr n D L a → Same w0 w → Sat H F w → Q e a w
end
def Hold (P : Program) (y : Code) (Q : QQ) (K : Act → World → Prop) : Prop := ∀ a w, y.wp P Q a w → K a w
section
variable {P : Program} {w0 : World} {F : Hl} {n : Nat} {ops : Array Oper} {Q : QQ} {D : List Deferred} {L : List (Nat × Value)} {H : List HP}
theorem TC.seq {x y : Code} (h : ∀ K, Hold P y Q K → TC P w0 F n x (Exit.then K Q) D L H) : TC P w0 F n (x.seq y) Q D L H :=
 fun a w f s m => wp_seq_k fun K hK => h K hK a w f s m
theorem TC.region {id : Nat} {l : List Oper} (h : TL P w0 F n l.toArray Q l D L H) : TC P w0 F n (.region id l.toArray false) Q D L H :=
 fun a w f s m => wp_region_lit (h a w f s m)
theorem TC.skip (h : TE w0 F n Q .normal D L H) : TC P w0 F n .skip Q D L H := fun a w f s m => wp_skip (h a w f s m)
theorem TC.exit {id : Nat} (h : TE w0 F n Q (.exit id) D L H) : TC P w0 F n (.exit id) Q D L H := fun a w f s m => wp_exit (h a w f s m)
theorem TC.ret (h : TE w0 F n Q .ret D L H) : TC P w0 F n .ret Q D L H := fun a w f s m => wp_ret (h a w f s m)
theorem TC.block {id : Nat} {c : Code} (h : TC P w0 F n c (Exit.inBlock id Q) D L H) : TC P w0 F n (.block id c) Q D L H := fun a w f s m => wp_block (h a w f s m)
theorem TC.yes {c : Operand} {x y : Code} (e : evL L c = some (.bool true)) (h : TC P w0 F n x Q D L H) : TC P w0 F n (.cond c x y) Q D L H :=
 fun a w f s m => wp_cond_true (f.eval e) (h a w f s m)
theorem TC.no {c : Operand} {x y : Code} (e : evL L c = some (.bool false)) (h : TC P w0 F n y Q D L H) : TC P w0 F n (.cond c x y) Q D L H :=
 fun a w f s m => wp_cond_false (f.eval e) (h a w f s m)
theorem TC.cond {c : Operand} {x y : Code} {b : Bool} (e : evL L c = some (.bool b)) (ht : b = true → TC P w0 F n x Q D L H) (hf : b = false → TC P w0 F n y Q D L H) : TC P w0 F n (.cond c x y) Q D L H :=
 fun a w f s m => wp_cond_split (f.eval e) (fun h => ht h a w f s m) (fun h => hf h a w f s m)
theorem TL.nil (h : TE w0 F n Q .normal D L H) : TL P w0 F n ops Q [] D L H := fun a w f s m => wpList_nil (h a w f s m)
theorem TE.next {y : Code} {K : Act → World → Prop} (hK : Hold P y Q K) (h : TC P w0 F n y Q D L H) : TE w0 F n (Exit.then K Q) .normal D L H :=
 fun a w f s m => hK a w (h a w f s m)
theorem TE.pass {K : Act → World → Prop} {id : Nat} (h : TE w0 F n Q (.exit id) D L H) : TE w0 F n (Exit.then K Q) (.exit id) D L H := h
theorem TE.passRet {K : Act → World → Prop} (h : TE w0 F n Q .ret D L H) : TE w0 F n (Exit.then K Q) .ret D L H := h
theorem TE.passPanic {K : Act → World → Prop} {c : List PanicEntry} (h : TE w0 F n Q (.panic c) D L H) : TE w0 F n (Exit.then K Q) (.panic c) D L H := h
theorem TE.hit {id : Nat} (h : TE w0 F n Q .normal D L H) : TE w0 F n (Exit.inBlock id Q) (.exit id) D L H := fun a w f s m => by
 show if id = id then _ else _
 rw [if_pos rfl]; exact h a w f s m
theorem TE.miss {id k : Nat} (e : k ≠ id) (h : TE w0 F n Q (.exit k) D L H) : TE w0 F n (Exit.inBlock id Q) (.exit k) D L H := fun a w f s m => by
 show if k = id then _ else _
 rw [if_neg e]; exact h a w f s m
theorem TE.blockEnd {id : Nat} (h : TE w0 F n Q .normal D L H) : TE w0 F n (Exit.inBlock id Q) .normal D L H := h
theorem TE.blockRet {id : Nat} (h : TE w0 F n Q .ret D L H) : TE w0 F n (Exit.inBlock id Q) .ret D L H := h
theorem TE.blockPanic {id : Nat} {c : List PanicEntry} (h : TE w0 F n Q (.panic c) D L H) : TE w0 F n (Exit.inBlock id Q) (.panic c) D L H := h
theorem TE.weak {e : Exit} {L' : List (Nat × Value)} {H' : List HP} (s : Sub L L') (m : ∀ h, sep H h → sep H' h) (h : TE w0 F n Q e D L' H') : TE w0 F n Q e D L H :=
 fun a w f s' m' => h a w (f.sub s) s' (m'.mono m)
theorem TL.weak {l : List Oper} {L' : List (Nat × Value)} {H' : List HP} (s : Sub L L') (m : ∀ h, sep H h → sep H' h) (h : TL P w0 F n ops Q l D L' H') : TL P w0 F n ops Q l D L H :=
 fun a w f s' m' => h a w (f.sub s) s' (m'.mono m)
theorem TC.ex {c : Code} {α : Sort _} {H' : α → List HP} (m : ∀ h, sep H h → ∃ x, sep (H' x) h) (h : ∀ x, TC P w0 F n c Q D L (H' x)) : TC P w0 F n c Q D L H :=
 fun a w f s ⟨g, d, e, t⟩ => let ⟨x, t'⟩ := m g t; h x a w f s ⟨g, d, e, t'⟩
theorem TL.ex {l : List Oper} {α : Sort _} {H' : α → List HP} (m : ∀ h, sep H h → ∃ x, sep (H' x) h) (h : ∀ x, TL P w0 F n ops Q l D L (H' x)) : TL P w0 F n ops Q l D L H :=
 fun a w f s ⟨g, d, e, t⟩ => let ⟨x, t'⟩ := m g t; h x a w f s ⟨g, d, e, t'⟩
def Head {α : Type} (w0 : World) (F : Hl) (n : Nat) (D : List Deferred) (Inv : α → Prop) (Lf : α → List (Nat × Value)) (Hf : α → List HP) (x : α) (a : Act) (w : World) : Prop :=
 Inv x ∧ Fr n D (Lf x) a ∧ Same w0 w ∧ Sat (Hf x) F w
def Round {α : Type} (w0 : World) (F : Hl) (n : Nat) (D : List Deferred) (Inv : α → Prop) (Lf : α → List (Nat × Value)) (Hf : α → List HP) (μ : α → Nat) (m : Nat) (a : Act) (w : World) : Prop :=
 ∃ x, μ x < m ∧ Head w0 F n D Inv Lf Hf x a w
theorem TC.loop {α : Type} {c : Code} (Inv : α → Prop) (Lf : α → List (Nat × Value)) (Hf : α → List HP) (μ : α → Nat) (x0 : α)
 (hi : Inv x0) (hs : Sub L (Lf x0)) (hm : ∀ h, sep H h → sep (Hf x0) h)
 (body : ∀ x, Inv x → TC P w0 F n c (Exit.then (Round w0 F n D Inv Lf Hf μ (μ x)) Q) D (Lf x) (Hf x)) : TC P w0 F n (.loop c) Q D L H := by
 intro a w f s m
 refine wp_loop_ghost (fun k a w => ∃ x, μ x = k ∧ Head w0 F n D Inv Lf Hf x a w) (μ x0) ⟨x0, rfl, hi, f.sub hs, s, m.mono hm⟩ ?_
 rintro k a w ⟨x, rfl, hx, f, s, m⟩
 refine wp_mono (body x hx a w f s m) ?_
 intro e a' w' q
 cases e with
 | normal => obtain ⟨y, hy, r⟩ := q; exact ⟨μ y, hy, y, rfl, r⟩
 | exit id => exact q
 | goto l => exact q
 | ret => exact q
 | panic ch => exact q
 | outgrown => exact q
theorem TE.round {α : Type} {Inv : α → Prop} {Lf : α → List (Nat × Value)} {Hf : α → List HP} {μ : α → Nat} {m : Nat} (x : α)
 (hi : Inv x) (hμ : μ x < m) (hs : Sub L (Lf x)) (hm : ∀ h, sep H h → sep (Hf x) h) : TE w0 F n (Exit.then (Round w0 F n D Inv Lf Hf μ m) Q) .normal D L H :=
 fun _ _ f s t => ⟨x, hμ, hi, f.sub hs, s, t.mono hm⟩
def Does (P : Program) (f : FuncId) (args : Array Value) (R : Hl → Prop) (H : List HP) (post : Ending → List HP → Prop) : Prop :=
 ∀ w F, R F → Sat H F w → Calls P f args w fun e w' => Same w w' ∧ ∃ H', Sat H' F w' ∧ post e H'
theorem Does.mono {f : FuncId} {args : Array Value} {R : Hl → Prop} {H : List HP} {post post' : Ending → List HP → Prop} (s : Does P f args R H post) (h : ∀ e H, post e H → post' e H) : Does P f args R H post' :=
 fun w F r m => (s w F r m).mono fun _ _ ⟨a, H', b, c⟩ => ⟨a, H', b, h _ _ c⟩
def postOf (post : Ending → List HP → Prop) (w0 : World) (F : Hl) (e : Ending) (w' : World) : Prop := Same w0 w' ∧ ∃ H', Sat H' F w' ∧ post e H'
theorem getElem?_args (args : Array Value) (m t : Nat) (v : Value) (h : args[t]? = some v) : (args ++ Array.replicate m undef)[t]? = some v := by
 rw [Array.getElem?_append]
 have := (Array.getElem?_eq_some_iff.1 h).1
 rw [if_pos this]; exact h
def frame0 : Nat → List Value → List (Nat × Value)
 | _, [] => []
 | i, v :: vs => (i, v) :: frame0 (i + 1) vs
theorem lk_frame0 : ∀ (vs : List Value) (i t : Nat) (v : Value), lk (frame0 i vs) t = some v → i ≤ t ∧ vs[t - i]? = some v
 | [], _, _, _, h => by cases h
 | u :: us, i, t, v, h => by
  by_cases b : Nat.beq i t = true
  · have := Nat.eq_of_beq_eq_true b
    subst this
    have e : u = v := by simpa [frame0, lk, b] using h
    simp [e]
  · have h' : lk (frame0 (i + 1) us) t = some v := by simpa [frame0, lk, b] using h
    obtain ⟨h1, h2⟩ := lk_frame0 us (i + 1) t v h'
    refine ⟨by omega, ?_⟩
    rw [show t - i = (t - (i + 1)) + 1 by omega]
    simpa using h2
theorem Does.body {f : FuncId} {fn : Func} {c : Code} {vs : List Value} {R : Hl → Prop} {H : List HP} {post : Ending → List HP → Prop}
 (hf : P.funcs[f]? = some fn) (hb : fn.body = some c) (hm : fn.ntmps = n) (hl : Nat.ble vs.length n = true)
 (h : ∀ w0 F, R F → TC P w0 F n c (bodyPost P fn (postOf post w0 F)) [] (frame0 0 vs) H) : Does P f vs.toArray R H post := by
 intro w F r m
 subst hm
 have hn : vs.length ≤ fn.ntmps := Nat.le_of_ble_eq_true hl
 refine calls_of_wp hf hb (h w F r _ w ⟨?_, rfl, fun t v e => ?_⟩ (Same.refl w) m)
 · simp; omega
 · obtain ⟨_, h2⟩ := lk_frame0 vs 0 t v e
   exact getElem?_args _ _ _ _ (by simpa using h2)
theorem TE.ret1 {fn : Func} {post : Ending → List HP → Prop} {t : Nat} {v : Value} (hr : fn.results = #[.tmp t]) (e : lk L t = some v) (h : post (.returned v) H) :
 TE w0 F n (bodyPost P fn (postOf post w0 F)) .ret [] L H := fun a w f s m => by
 refine bodyPost_ret (results_tmp hr _ _ _) f.2.1 ⟨s, H, m, ?_⟩
 have := f.eval (x := .tmp t) e
 rw [show a.tmps.getD t undef = v from this]; exact h
theorem TE.ret2 {fn : Func} {post : Ending → List HP → Prop} {t t' : Nat} {v v' : Value} (hr : fn.results = #[.tmp t, .tmp t']) (e : lk L t = some v) (e' : lk L t' = some v') (h : post (.returned (.tuple #[v, v'])) H) :
 TE w0 F n (bodyPost P fn (postOf post w0 F)) .ret [] L H := fun a w f s m => by
 refine bodyPost_ret (results_tmp2 hr _ _ _) f.2.1 ⟨s, H, m, ?_⟩
 have h1 := f.eval (x := .tmp t) e
 have h2 := f.eval (x := .tmp t') e'
 rw [show a.tmps.getD t undef = v from h1, show a.tmps.getD t' undef = v' from h2]; exact h
theorem TE.ret0 {fn : Func} {post : Ending → List HP → Prop} (hr : fn.results = #[]) (h : post (.returned (.tuple #[])) H) :
 TE w0 F n (bodyPost P fn (postOf post w0 F)) .ret [] L H := fun _ _ f s m => bodyPost_ret (results_none hr _ _ _) f.2.1 ⟨s, H, m, h⟩
theorem TE.end0 {fn : Func} {post : Ending → List HP → Prop} (hr : fn.results = #[]) (h : post (.returned (.tuple #[])) H) :
 TE w0 F n (bodyPost P fn (postOf post w0 F)) .normal [] L H := fun _ _ f s m => bodyPost_end (results_none hr _ _ _) f.2.1 ⟨s, H, m, h⟩
theorem TE.panicked {fn : Func} {post : Ending → List HP → Prop} {c : List PanicEntry} (h : post (.panicked c) H) :
 TE w0 F n (bodyPost P fn (postOf post w0 F)) (.panic c) [] L H := fun _ _ f s m => ⟨f.2.1, s, H, m, h⟩
def Want (n : Nat) (D : List Deferred) (ops : Array Oper) (o : Oper) (L : List (Nat × Value)) : Prop := ∀ a, Fr n D L a → Region.wanted o (yielded ops a.tmps) = true
theorem Want.plain {o : Oper} (h : o.guard = none) : Want n D ops o L := fun _ _ => by simp [Region.wanted, h]
theorem Want.met {o : Oper} {j d : Nat} {b : Bool} (h : o.guard = some (j, b)) (hd : (ops[j]?).bind (·.dst) = some d) (e : lk L d = some (.bool b)) : Want n D ops o L := fun a f => by
 simp [Region.wanted, h, yielded, hd, f.2.2 d _ e]
theorem TL.step {o : Oper} {l : List Oper} (hw : Want n D ops o L) (h : ∀ a w, Fr n D L a → Same w0 w → Sat H F w → o.wp P a w (wpList P ops Q l) Q) : TL P w0 F n ops Q (o :: l) D L H := fun a w f s m => by
 unfold wpList
 rw [if_pos (hw a f)]
 exact .inl (h a w f s m)
theorem TL.unmet {o : Oper} {l : List Oper} {j d : Nat} {b : Bool} (hg : o.guard = some (j, !b)) (hd : (ops[j]?).bind (·.dst) = some d) (e : lk L d = some (.bool b)) {d' : Nat} (ho : o.dst = some d') (hn : d' < n)
 (h : TL P w0 F n ops Q l D ((d', undef) :: L) H) : TL P w0 F n ops Q (o :: l) D L H := fun a w f s m => by
 unfold wpList
 have : Region.wanted o (yielded ops a.tmps) = false := by
  simp [Region.wanted, hg, yielded, hd, f.2.2 d _ e]
 rw [this, ho]
 simpa using h _ w (f.put hn undef) s m
theorem TL.unmetU {o : Oper} {l : List Oper} {j d : Nat} {b : Bool} (hg : o.guard = some (j, b)) (hd : (ops[j]?).bind (·.dst) = some d) (e : lk L d = some undef) {d' : Nat} (ho : o.dst = some d') (hn : d' < n)
 (h : TL P w0 F n ops Q l D ((d', undef) :: L) H) : TL P w0 F n ops Q (o :: l) D L H := fun a w f s m => by
 unfold wpList
 have : Region.wanted o (yielded ops a.tmps) = false := by
  simp [Region.wanted, hg, yielded, hd, f.2.2 d _ e, undef]
 rw [this, ho]
 simpa using h _ w (f.put hn undef) s m
theorem TL.valw {o : Oper} {l : List Oper} {d : Nat} {v : Value} {H' : List HP} (hw : Want n D ops o L) (hd : o.dst = some d) (hn : d < n)
 (hr : ∀ a w, Fr n D L a → Same w0 w → Sat H F w → ∃ w', (execOp a.eval o).run P w = .ok (.value v) w' ∧ Same w w' ∧ Sat H' F w')
 (h : TL P w0 F n ops Q l D ((d, v) :: L) H') : TL P w0 F n ops Q (o :: l) D L H :=
 TL.step hw fun a w f s m => by
  obtain ⟨w', r, s', m'⟩ := hr a w f s m
  unfold Oper.wp
  rw [r, Oper.upon_value, hd]
  exact h _ w' (f.put hn v) (s.trans s') m'
theorem TL.val {o : Oper} {l : List Oper} {d : Nat} {v : Value} (hw : Want n D ops o L) (hd : o.dst = some d) (hn : d < n)
 (hr : ∀ a w, Fr n D L a → Sat H F w → (execOp a.eval o).run P w = .ok (.value v) w)
 (h : TL P w0 F n ops Q l D ((d, v) :: L) H) : TL P w0 F n ops Q (o :: l) D L H :=
 TL.valw hw hd hn (fun a w f _ m => ⟨w, hr a w f m, Same.refl w, m⟩) h
theorem TL.eff {o : Oper} {l : List Oper} {H' : List HP} (hw : Want n D ops o L) (hd : o.dst = none)
 (hr : ∀ a w, Fr n D L a → Same w0 w → Sat H F w → ∃ w', (execOp a.eval o).run P w = .ok .skip w' ∧ Same w w' ∧ Sat H' F w')
 (h : TL P w0 F n ops Q l D L H') : TL P w0 F n ops Q (o :: l) D L H :=
 TL.step hw fun a w f s m => by
  obtain ⟨w', r, s', m'⟩ := hr a w f s m
  unfold Oper.wp
  rw [r, Oper.upon_skip, hd]
  exact h _ w' f (s.trans s') m'
theorem TL.panic {o : Oper} {l : List Oper} {v : Value} {H' : List HP} (hw : Want n D ops o L)
 (hr : ∀ a w, Fr n D L a → Same w0 w → Sat H F w → ∃ w', (execOp a.eval o).run P w = .halt (.panic v) w' ∧ Same w w' ∧ Sat H' F w')
 (h : TE w0 F n Q (.panic [{ v, recovered := false }]) D L H') : TL P w0 F n ops Q (o :: l) D L H :=
 TL.step hw fun a w f s m => by
  obtain ⟨w', r, s', m'⟩ := hr a w f s m
  unfold Oper.wp
  rw [r, Oper.upon_panic]
  exact h a w' f (s.trans s') m'
theorem TL.callw {o : Oper} {l : List Oper} {f : FuncId} {args : Array Value} {R : Hl → Prop} {A B : List HP} {post : Ending → List HP → Prop} (hw : Want n D ops o L)
 (hr : ∀ a w, Fr n D L a → (execOp a.eval o).run P w = .ok (.enter f args) w)
 (sp : Does P f args R A post) (hp : ∀ h, sep H h → sep (A ++ B) h) (hR : ∀ g, Dj g F → sep B g → R (jn g F))
 (hret : ∀ v H', post (.returned v) H' → ∀ a, Fr n D L a → ∀ w, Same w0 w → Sat (H' ++ B) F w → wpList P ops Q l (a.put o.dst v) w)
 (hpan : ∀ c H', post (.panicked c) H' → TE w0 F n Q (.panic c) D L (H' ++ B))
 (hout : ∀ H', ¬ post .outgrown H') : TL P w0 F n ops Q (o :: l) D L H :=
 TL.step hw fun a w fr s m => by
  unfold Oper.wp
  rw [hr a w fr, Oper.upon_enter]
  obtain ⟨g, d, b, m'⟩ := Sat.split (m.mono hp)
  refine (sp w _ (hR g d b) m').mono ?_
  rintro e w' ⟨s', H', m'', q⟩
  cases e with
  | returned v => exact hret v H' q a fr w' (s.trans s') (m''.merge d b)
  | panicked c => exact hpan c H' q a w' fr (s.trans s') (m''.merge d b)
  | outgrown => exact (hout H' q).elim
end
end Leg
end

section
namespace Leg
open Go
def evs (L : List (Nat × Value)) : List Operand → Option (List Value)
 | [] => some []
 | x :: xs => match evL L x with
  | none => none
  | some v => match evs L xs with
   | none => none
   | some vs => some (v :: vs)
def evp (L : List (Nat × Value)) : List (Nat × Operand) → Option (List (Nat × Value))
 | [] => some []
 | x :: xs => match evL L x.2 with
  | none => none
  | some v => match evp L xs with
   | none => none
   | some vs => some ((x.1, v) :: vs)
theorem Fr.evl {n : Nat} {D : List Deferred} {L : List (Nat × Value)} {a : Act} (g : Fr n D L a) : ∀ (l : List Operand) (q : List Value), evs L l = some q → l.map a.eval = q
 | [], q, e => by simp [evs] at e; simp [e]
 | x :: xs, q, e => by
  simp only [evs] at e
  split at e
  · cases e
  · rename_i v hv
    split at e
    · cases e
    · rename_i vs hvs
      cases e
      simp [g.evl xs vs hvs, g.eval hv]
theorem Fr.evpl {n : Nat} {D : List Deferred} {L : List (Nat × Value)} {a : Act} (g : Fr n D L a) : ∀ (l : List (Nat × Operand)) (q : List (Nat × Value)), evp L l = some q → l.map (fun p => (p.1, a.eval p.2)) = q
 | [], q, e => by simp [evp] at e; simp [e]
 | x :: xs, q, e => by
  simp only [evp] at e
  split at e
  · cases e
  · rename_i v hv
    split at e
    · cases e
    · rename_i vs hvs
      cases e
      simp [g.evpl xs vs hvs, g.eval hv]
theorem Fr.evals {n : Nat} {D : List Deferred} {L : List (Nat × Value)} {a : Act} (g : Fr n D L a) {xs : Array Operand} {vs : List Value} (hx : evs L xs.toList = some vs) : xs.map a.eval = vs.toArray := by
 rw [← g.evl _ _ hx, ← Array.toList_map]
theorem Fr.evparts {n : Nat} {D : List Deferred} {L : List (Nat × Value)} {a : Act} (g : Fr n D L a) {xs : Array (Nat × Operand)} {vs : List (Nat × Value)} (hx : evp L xs.toList = some vs) : (xs.map fun x => (x.1, a.eval x.2)).toList = vs := by
 rw [Array.toList_map]; exact g.evpl _ _ hx
section
variable {P : Program} {w : World}
def plainT : TypeDesc → Bool
 | .struct _ => false
 | .array _ _ => false
 | _ => true
theorem run_isAggL {t : TypeId} {d : TypeDesc} (h : P.underlying t = some d) : (isAgg t).run P w = .ok (!plainT d) w := by
 unfold isAgg
 cases d <;> simp [run_underlying h, plainT]
theorem run_infoL {t : TypeId} {i : TypeInfo} (h : P.info? t = some i) : (typeInfo t).run P w = .ok i w := by simp [typeInfo, h]
theorem run_sizeL {t : TypeId} {s : Nat} (h : (P.info? t).map (·.size) = some s) : (Go.sizeOf t).run P w = .ok s w := by
 obtain ⟨i, hi, hs⟩ := Option.map_eq_some_iff.1 h
 simp [Go.sizeOf, run_infoL hi, hs]
theorem run_zeroL {t : TypeId} {v : Value} (h : (P.info? t).map (·.zero) = some (some v)) : (zeroValue t).run P w = .ok v w := by
 obtain ⟨i, hi, hs⟩ := Option.map_eq_some_iff.1 h
 simp [zeroValue, run_infoL hi, hs]
theorem cell_ofL {b j : Nat} {cs : List Value} {t : TypeId} {z : Nat × Nat} (h : w.heap[b]? = some (.cells cs.toArray t z)) : w.cell? ⟨b, j, none⟩ = cs[j]? := by
 simp [World.cell?, h]
theorem addL (b o n : Nat) : (⟨b, o, none⟩ : Addr).add n = ⟨b, o + n, none⟩ := Addr.add_mid b o n
theorem run_load1 {t : TypeId} {d : TypeDesc} (h : P.underlying t = some d) (hp : plainT d = true) {a : Addr} {v : Value} (hc : w.cell? a = some v) : (Instr.loadAt t (.pointer (some a))).run P w = .ok v w := by
 simp [Instr.loadAt, Instr.sureAddr, loadVar, run_isAggL h, hp, load, Sem.run, hc]
theorem run_loadN {t : TypeId} {d : TypeDesc} (h : P.underlying t = some d) (hp : plainT d = false) {b o m : Nat} (hm : (P.info? t).map (·.size) = some m) {vs : List Value} (hl : vs.length = m)
 (hc : ∀ j v, vs[j]? = some v → w.cell? ⟨b, o + j, none⟩ = some v) : (Instr.loadAt t (.pointer (some ⟨b, o, none⟩))).run P w = .ok (.agg vs.toArray) w := by
 subst hl
 have := run_loadCells_list (P := P) (w := w) ⟨b, o, none⟩ vs (fun j v e => by rw [addL]; exact hc j v e)
 simp [Instr.loadAt, Instr.sureAddr, loadVar, run_isAggL h, hp, run_sizeL hm, this]
end
theorem wrap_i64 {x : Int} (h1 : -9223372036854775808 ≤ x) (h2 : x ≤ 9223372036854775807) : IntKind.i64.wrap x = x := IntWalk.i64_in x ⟨h1, h2⟩
theorem wrap_u8 {x : Int} (h1 : 0 ≤ x) (h2 : x ≤ 255) : IntKind.u8.wrap x = x := by
 simp only [IntKind.wrap, IntKind.signed, IntKind.bits]; simp; omega
theorem wrap_u32 {x : Int} (h1 : 0 ≤ x) (h2 : x ≤ 4294967295) : IntKind.u32.wrap x = x := by
 simp only [IntKind.wrap, IntKind.signed, IntKind.bits]; simp; omega
theorem lb {a b : Nat} (h : Nat.blt a b = true) : a < b := by simpa [Nat.blt_eq] using h
theorem lbe {a b : Nat} (h : Nat.ble a b = true) : a ≤ b := Nat.le_of_ble_eq_true h
theorem lz {a b : Int} (h : decide (a ≤ b) = true) : a ≤ b := of_decide_eq_true h
theorem Sub.refl (L : List (Nat × Value)) : Sub L L := fun _ _ h => h
def selR (H : List HP) : List Nat → List HP
 | [] => H
 | i :: is => H.getD i (fun _ => True) :: selR (H.eraseIdx i) is
def okR : Nat → List Nat → Bool
 | _, [] => true
 | m, i :: is => Nat.blt i m && okR (m - 1) is
theorem sep_selR : ∀ (is : List Nat) {H : List HP} {h : Hl}, okR H.length is = true → sep H h → sep (selR H is) h
 | [], _, _, _, s => s
 | i :: is, H, h, k, s => by
  simp only [okR, Bool.and_eq_true] at k
  have hi := lb k.1
  exact star_mono (sep_get i hi s) (fun _ x => x) fun _ x => sep_selR is (by rw [List.length_eraseIdx, if_pos hi]; exact k.2) x
theorem sep_take : ∀ (m : Nat) {H : List HP} {h : Hl}, sep H h → sep (H.take m) h
 | 0, _, _, _ => trivial
 | _ + 1, [], _, s => s
 | m + 1, _ :: _, _, s => star_mono s (fun _ x => x) fun _ x => sep_take m x
theorem sep_keep (is : List Nat) {H : List HP} {h : Hl} (k : okR H.length is = true) (s : sep H h) : sep ((selR H is).take is.length) h := sep_take _ (sep_selR is k s)
def Ret (p : Value → List HP → Prop) : Ending → List HP → Prop
 | .returned v, H => p v H
 | _, _ => False
def RetP (p : Value → List HP → Prop) (q : List PanicEntry → List HP → Prop) : Ending → List HP → Prop
 | .returned v, H => p v H
 | .panicked c, H => q c H
 | .outgrown, _ => False
def Rd (S : World → Prop) (b : Nat) (o : Obj) : Prop := ∀ w, S w → w.heap[b]? = some o
theorem Rd.own {H : List HP} {F : Hl} {b : Nat} {o : Obj} (i : Nat) (hi : Nat.blt i H.length = true) (e : H.getD i (fun _ => True) = obj b o) : Rd (Sat H F) b o := fun _ s => s.block i (lb hi) e
theorem Rd.ro {H : List HP} {F : Hl} {b : Nat} {o : Obj} (e : F b = some o) : Rd (Sat H F) b o := fun _ s => s.frame e
def PV (P : Program) (n : Nat) (D : List Deferred) (L : List (Nat × Value)) (S : World → Prop) (o : Oper) (v : Value) : Prop :=
 ∀ a w, Fr n D L a → S w → (execOp a.eval o).run P w = .ok (.value v) w
abbrev blkA (b : Nat) (cs : List Value) (t : TypeId) : HP := obj b (.cells cs.toArray t (0, 0))
def wr (cs : List Value) (o : Nat) (vs : List Value) : List Value := cs.take o ++ vs ++ cs.drop (o + vs.length)
section
variable {P : Program} {w0 : World} {F : Hl} {n : Nat} {ops : Array Oper} {Q : QQ} {D : List Deferred} {L : List (Nat × Value)} {H : List HP} {o : Oper} {l : List Oper} {d : Nat} {S : World → Prop}
theorem TL.v {v : Value} (hw : Want n D ops o L) (hd : o.dst = some d) (hn : Nat.blt d n = true) (h1 : PV P n D L (Sat H F) o v) (h : TL P w0 F n ops Q l D ((d, v) :: L) H) : TL P w0 F n ops Q (o :: l) D L H :=
 TL.val hw hd (lb hn) h1 h
theorem PV.move {x : Operand} {v : Value} (ho : o.op = .move x) (hx : evL L x = some v) : PV P n D L S o (v) :=
 fun a w f _ => by simp [execOp, ho, f.eval hx]
theorem PV.assign {x : Operand} {v : Value} (ho : o.op = .assign x) (hx : evL L x = some v) : PV P n D L S o (v) :=
 fun a w f _ => by simp [execOp, ho, f.eval hx]
theorem PV.pick {c x y : Operand} {b : Bool} {v : Value} (ho : o.op = .pick c x y) (hc : evL L c = some (.bool b)) (hx : evL L (bif b then x else y) = some v) : PV P n D L S o (v) :=
 fun a w f _ => by
  cases b
  · have := f.eval hx; simp at this; simp [execOp, ho, f.eval hc, asBool, this]
  · have := f.eval hx; simp at this; simp [execOp, ho, f.eval hc, asBool, this]
theorem PV.bin {op : BinOp} {t t' : TypeId} {x y : Operand} {u u' v : Value} (ho : o.op = .binOp op t x y t') (hx : evL L x = some u) (hy : evL L y = some u')
 (hr : ∀ w, (do eqGuard op t x y u u'; binOp op t u u' : Sem Value).run P w = .ok v w) : PV P n D L S o (v) :=
 fun a w f _ => by
  have := hr w
  simp only [execOp, ho, f.eval hx, f.eval hy, Sem.run_bind] at this ⊢
  rw [this]; simp
theorem run_binI {op : BinOp} {t : TypeId} {x y : Operand} {k k' : IntKind} {a b : Int} {w : World} :
 (do eqGuard op t x y (.int k a) (.int k' b); binOp op t (.int k a) (.int k' b) : Sem Value).run P w = (binOp op t (.int k a) (.int k' b)).run P w := by
 simp only [Sem.run_bind, eqGuard]
 split <;> simp
theorem PV.add {t t' : TypeId} {x y : Operand} {k : IntKind} {a b r : Int} (ho : o.op = .binOp .add t x y t') (hx : evL L x = some (.int k a)) (hy : evL L y = some (.int k b)) (hr : k.wrap (a + b) = r) : PV P n D L S o (.int k r) :=
 PV.bin ho hx hy (fun w => by rw [run_binI]; subst hr; simp [binOp, Op.intArith])
theorem PV.sub {t t' : TypeId} {x y : Operand} {k : IntKind} {a b r : Int} (ho : o.op = .binOp .sub t x y t') (hx : evL L x = some (.int k a)) (hy : evL L y = some (.int k b)) (hr : k.wrap (a - b) = r) : PV P n D L S o (.int k r) :=
 PV.bin ho hx hy (fun w => by rw [run_binI]; subst hr; simp [binOp, Op.intArith])
theorem PV.mul {t t' : TypeId} {x y : Operand} {k : IntKind} {a b r : Int} (ho : o.op = .binOp .mul t x y t') (hx : evL L x = some (.int k a)) (hy : evL L y = some (.int k b)) (hr : k.wrap (a * b) = r) : PV P n D L S o (.int k r) :=
 PV.bin ho hx hy (fun w => by rw [run_binI]; subst hr; simp [binOp, Op.intArith])
theorem PV.quo {t t' : TypeId} {x y : Operand} {k : IntKind} {a b r : Int} (ho : o.op = .binOp .quo t x y t') (hx : evL L x = some (.int k a)) (hy : evL L y = some (.int k b)) (hb : b ≠ 0) (hr : k.wrap (a.tdiv b) = r) : PV P n D L S o (.int k r) :=
 PV.bin ho hx hy (fun w => by rw [run_binI]; subst hr; simp [binOp, Op.intDiv, hb])
theorem PV.rem {t t' : TypeId} {x y : Operand} {k : IntKind} {a b r : Int} (ho : o.op = .binOp .rem t x y t') (hx : evL L x = some (.int k a)) (hy : evL L y = some (.int k b)) (hb : b ≠ 0) (hr : a.tmod b = r) : PV P n D L S o (.int k r) :=
 PV.bin ho hx hy (fun w => by rw [run_binI]; subst hr; simp [binOp, Op.intDiv, hb])
def andI (k : IntKind) (a b : Int) : Int := k.wrap (BitVec.ofInt k.bits a &&& BitVec.ofInt k.bits b).toNat
def orI (k : IntKind) (a b : Int) : Int := k.wrap (BitVec.ofInt k.bits a ||| BitVec.ofInt k.bits b).toNat
def xorI (k : IntKind) (a b : Int) : Int := k.wrap (BitVec.ofInt k.bits a ^^^ BitVec.ofInt k.bits b).toNat
theorem PV.and {t t' : TypeId} {x y : Operand} {k : IntKind} {a b r : Int} (ho : o.op = .binOp .and t x y t') (hx : evL L x = some (.int k a)) (hy : evL L y = some (.int k b)) (hr : andI k a b = r) : PV P n D L S o (.int k r) :=
 PV.bin ho hx hy (fun w => by rw [run_binI]; subst hr; simp [binOp, Op.intBits, andI])
theorem PV.or {t t' : TypeId} {x y : Operand} {k : IntKind} {a b r : Int} (ho : o.op = .binOp .or t x y t') (hx : evL L x = some (.int k a)) (hy : evL L y = some (.int k b)) (hr : orI k a b = r) : PV P n D L S o (.int k r) :=
 PV.bin ho hx hy (fun w => by rw [run_binI]; subst hr; simp [binOp, Op.intBits, orI])
theorem PV.xor {t t' : TypeId} {x y : Operand} {k : IntKind} {a b r : Int} (ho : o.op = .binOp .xor t x y t') (hx : evL L x = some (.int k a)) (hy : evL L y = some (.int k b)) (hr : xorI k a b = r) : PV P n D L S o (.int k r) :=
 PV.bin ho hx hy (fun w => by rw [run_binI]; subst hr; simp [binOp, Op.intBits, xorI])
theorem PV.shl {t t' : TypeId} {x y : Operand} {k k' : IntKind} {a b r : Int} (ho : o.op = .binOp .shl t x y t') (hx : evL L x = some (.int k a)) (hy : evL L y = some (.int k' b)) (hb : 0 ≤ b) (hr : k.wrap (a * 2 ^ min b.toNat k.bits) = r) : PV P n D L S o (.int k r) :=
 PV.bin ho hx hy (fun w => by rw [run_binI]; subst hr; simp [binOp, Op.shift, show ¬ b < 0 by omega])
theorem PV.shr {t t' : TypeId} {x y : Operand} {k k' : IntKind} {a b r : Int} (ho : o.op = .binOp .shr t x y t') (hx : evL L x = some (.int k a)) (hy : evL L y = some (.int k' b)) (hb : 0 ≤ b) (hr : a.fdiv (2 ^ min b.toNat k.bits) = r) : PV P n D L S o (.int k r) :=
 PV.bin ho hx hy (fun w => by rw [run_binI]; subst hr; simp [binOp, Op.shift, show ¬ b < 0 by omega])
theorem PV.lss {t t' : TypeId} {x y : Operand} {k : IntKind} {a b : Int} (ho : o.op = .binOp .lss t x y t') (hx : evL L x = some (.int k a)) (hy : evL L y = some (.int k b)) : PV P n D L S o (.bool (decide (a < b))) :=
 PV.bin ho hx hy (fun w => by rw [run_binI]; simp [binOp, Op.intCmp])
theorem PV.leq {t t' : TypeId} {x y : Operand} {k : IntKind} {a b : Int} (ho : o.op = .binOp .leq t x y t') (hx : evL L x = some (.int k a)) (hy : evL L y = some (.int k b)) : PV P n D L S o (.bool (decide (a ≤ b))) :=
 PV.bin ho hx hy (fun w => by rw [run_binI]; simp [binOp, Op.intCmp])
theorem PV.gtr {t t' : TypeId} {x y : Operand} {k : IntKind} {a b : Int} (ho : o.op = .binOp .gtr t x y t') (hx : evL L x = some (.int k a)) (hy : evL L y = some (.int k b)) : PV P n D L S o (.bool (decide (b < a))) :=
 PV.bin ho hx hy (fun w => by rw [run_binI]; simp [binOp, Op.intCmp])
theorem PV.geq {t t' : TypeId} {x y : Operand} {k : IntKind} {a b : Int} (ho : o.op = .binOp .geq t x y t') (hx : evL L x = some (.int k a)) (hy : evL L y = some (.int k b)) : PV P n D L S o (.bool (decide (b ≤ a))) :=
 PV.bin ho hx hy (fun w => by rw [run_binI]; simp [binOp, Op.intCmp])
theorem PV.eql {t t' : TypeId} {x y : Operand} {k : IntKind} {a b : Int} (ho : o.op = .binOp .eql t x y t') (hx : evL L x = some (.int k a)) (hy : evL L y = some (.int k b)) : PV P n D L S o (.bool (decide (a = b))) :=
 PV.bin ho hx hy (fun w => by rw [run_binI]; simp [binOp, Op.intCmp]; by_cases q : a = b <;> simp [q])
theorem PV.neq {t t' : TypeId} {x y : Operand} {k : IntKind} {a b : Int} (ho : o.op = .binOp .neq t x y t') (hx : evL L x = some (.int k a)) (hy : evL L y = some (.int k b)) : PV P n D L S o (.bool (decide (a ≠ b))) :=
 PV.bin ho hx hy (fun w => by rw [run_binI]; simp [binOp, Op.intCmp]; by_cases q : a = b <;> simp [q])
theorem PV.not {t : TypeId} {x : Operand} {b r : Bool} (ho : o.op = .unOp .not t x) (hx : evL L x = some (.bool b)) (hr : (!b) = r) : PV P n D L S o (.bool r) :=
 fun a w f _ => by subst hr; simp [execOp, ho, f.eval hx, Op.unary]
theorem PV.com {t : TypeId} {x : Operand} {k : IntKind} {a r : Int} (ho : o.op = .unOp .xor t x) (hx : evL L x = some (.int k a)) (hr : xorI k (if k.signed then -1 else k.max) a = r) : PV P n D L S o (.int k r) :=
 fun a w f _ => by subst hr; simp [execOp, ho, f.eval hx, Op.unary, Op.intBits, xorI]
theorem PV.convI {s t : TypeId} {x : Operand} {ds : TypeDesc} {k k' : IntKind} {a r : Int} (ho : o.op = .convert s t x) (hs : P.underlying s = some ds) (ht : P.underlying t = some (.int k))
 (hx : evL L x = some (.int k' a)) (hr : k.wrap a = r) : PV P n D L S o (.int k r) :=
 fun b w f _ => by
  subst hr
  simp [execOp, ho, f.eval hx, convert, run_underlying hs, run_underlying ht, Conv.intToInt]
theorem TL.dec {p : Prop} [Decidable p] (ht : p → TL P w0 F n ops Q l D ((d, .bool true) :: L) H) (hf : ¬ p → TL P w0 F n ops Q l D ((d, .bool false) :: L) H) : TL P w0 F n ops Q l D ((d, .bool (decide p)) :: L) H := by
 by_cases q : p
 · rw [decide_eq_true q]; exact ht q
 · rw [decide_eq_false q]; exact hf q
theorem TL.decB {b : Bool} (ht : b = true → TL P w0 F n ops Q l D ((d, .bool true) :: L) H) (hf : b = false → TL P w0 F n ops Q l D ((d, .bool false) :: L) H) : TL P w0 F n ops Q l D ((d, .bool b) :: L) H := by
 cases b
 · exact hf rfl
 · exact ht rfl
theorem PV.nilCheck {x : Operand} {a : Addr} (ho : o.op = .nilCheck x) (hx : evL L x = some (.pointer (some a))) : PV P n D L S o (.pointer (some a)) :=
 fun b w f _ => by simp [execOp, ho, f.eval hx]
theorem TL.alloc {t : TypeId} {z : Value} (hw : Want n D ops o L) (ho : o.op = .alloc t) (hd : o.dst = some d) (hn : Nat.blt d n = true) (hz : (P.info? t).map (·.zero) = some (some z))
 (h : ∀ b, TL P w0 F n ops Q l D ((d, .pointer (some ⟨b, 0, none⟩)) :: L) (obj b (.cells z.cells t) :: H)) : TL P w0 F n ops Q (o :: l) D L H :=
 TL.step hw fun a w f s m => by
  unfold Oper.wp
  have r : (execOp a.eval o).run P w = .ok (.value (.pointer (some ⟨w.heap.size, 0, none⟩))) (w.alloc (.cells z.cells t)) := by
   simp [execOp, ho, Instr.alloc, run_zeroL hz, newVar, newRow, newObj, Sem.run]
  rw [r, Oper.upon_value, hd]
  exact h _ _ _ (f.put (lb hn) _) (s.trans ⟨rfl, rfl, rfl, by simp⟩) (m.alloc _)
theorem TL.box {t : TypeId} {x : Operand} {v : Value} (hw : Want n D ops o L) (ho : o.op = .box t x) (hd : o.dst = some d) (hn : Nat.blt d n = true) (hx : evL L x = some v)
 (h : ∀ b, TL P w0 F n ops Q l D ((d, .pointer (some ⟨b, 0, none⟩)) :: L) (obj b (.cells v.cells t) :: H)) : TL P w0 F n ops Q (o :: l) D L H :=
 TL.step hw fun a w f s m => by
  unfold Oper.wp
  have r : (execOp a.eval o).run P w = .ok (.value (.pointer (some ⟨w.heap.size, 0, none⟩))) (w.alloc (.cells v.cells t)) := by
   simp [execOp, ho, f.eval hx, Instr.box, newVar, newRow, newObj, Sem.run]
  rw [r, Oper.upon_value, hd]
  exact h _ _ _ (f.put (lb hn) _) (s.trans ⟨rfl, rfl, rfl, by simp⟩) (m.alloc _)
theorem PV.load1 {t e : TypeId} {x : Operand} {dt : TypeDesc} {b j : Nat} {cs : List Value} {z : Nat × Nat} {v : Value} (ho : o.op = .load t x) 
 (ht : P.underlying t = some dt) (hp : plainT dt = true) (hx : evL L x = some (.pointer (some ⟨b, j, none⟩))) (hR : Rd S b (.cells cs.toArray e z)) (hc : cs[j]? = some v) : PV P n D L S o (v) :=
 fun a w f m => by
  simp [execOp, ho, f.eval hx, run_load1 ht hp (show w.cell? ⟨b, j, none⟩ = some v by rw [cell_ofL (hR w m)]; exact hc)]
theorem PV.loadN {t e : TypeId} {x : Operand} {dt : TypeDesc} {b j m : Nat} {cs vs : List Value} {z : Nat × Nat} (ho : o.op = .load t x) 
 (ht : P.underlying t = some dt) (hp : plainT dt = false) (hm : (P.info? t).map (·.size) = some m) (hx : evL L x = some (.pointer (some ⟨b, j, none⟩))) (hR : Rd S b (.cells cs.toArray e z))
 (hl : vs.length = m) (hc : (cs.drop j).take m = vs) : PV P n D L S o (.agg vs.toArray) :=
 fun a w f s => by
  have := run_loadN (P := P) (w := w) ht hp (b := b) (o := j) hm hl (fun i v e => by
   rw [cell_ofL (hR w s)]
   subst hc
   rw [List.getElem?_take] at e
   split at e
   · simpa using e
   · cases e)
  simp [execOp, ho, f.eval hx, this]
theorem run_storeL {w : World} {t e : TypeId} {b j : Nat} {cs : List Value} {v : Value} {vs : List Value} (hv : v.cells = vs.toArray) (hs : (P.info? t).map (·.size) = some vs.length) (h1 : ∀ u ∈ vs, u.oneCell' = true)
 (hb : w.heap[b]? = some (.cells cs.toArray e (0, 0))) (hl : j + vs.length ≤ cs.length) :
 (Instr.storeAt t (.pointer (some ⟨b, j, none⟩)) v).run P w = .ok () (w.setRow b (wr cs j vs).toArray) := by
 have := run_storeCells_at P b j e vs 0 cs.toArray w hb (by simpa using hl) h1
 simp only [Nat.add_zero] at this
 simp [Instr.storeAt, Instr.sureAddr, storeVar, run_sizeL hs, hv, this, wr]
theorem TL.store {H' : List HP} {t e : TypeId} {x y : Operand} {b j i : Nat} {cs cs' : List Value} {v : Value} {vs : List Value} (hw : Want n D ops o L) (ho : o.op = .store t x y) (hd : o.dst = none)
 (hx : evL L x = some (.pointer (some ⟨b, j, none⟩))) (hy : evL L y = some v) (hv : v.cells = vs.toArray) (hs : (P.info? t).map (·.size) = some vs.length) (h1 : ∀ u ∈ vs, u.oneCell' = true)
 (hi : Nat.blt i H.length = true) (hH : H.getD i (fun _ => True) = blkA b cs e) (hl : j + vs.length ≤ cs.length) (hcs : wr cs j vs = cs') (hH' : H.set i (blkA b cs' e) = H')
 (h : TL P w0 F n ops Q l D L H') : TL P w0 F n ops Q (o :: l) D L H :=
 TL.eff hw hd (fun a w f _ m => by
  have hb := m.block i (lb hi) hH
  refine ⟨w.setRow b (wr cs j vs).toArray, by simp [execOp, ho, f.eval hx, f.eval hy, run_storeL hv hs h1 hb hl], ⟨rfl, rfl, rfl, by simp⟩, ?_⟩
  subst hcs; subst hH'
  exact m.write i (lb hi) hH (setRow_heap w b cs.toArray _ e _ hb) (fun k hk => setRow_other w b k _ hk)) h
theorem TL.store1 {H' : List HP} {t e : TypeId} {x y : Operand} {b j i : Nat} {cs cs' : List Value} {v : Value} (hw : Want n D ops o L) (ho : o.op = .store t x y) (hd : o.dst = none)
 (hx : evL L x = some (.pointer (some ⟨b, j, none⟩))) (hy : evL L y = some v) (h1 : v.oneCell' = true) (hs : (P.info? t).map (·.size) = some 1)
 (hi : Nat.blt i H.length = true) (hH : H.getD i (fun _ => True) = blkA b cs e) (hl : j < cs.length) (hcs : cs.set j v = cs') (hH' : H.set i (blkA b cs' e) = H')
 (h : TL P w0 F n ops Q l D L H') : TL P w0 F n ops Q (o :: l) D L H :=
 TL.store (vs := [v]) hw ho hd hx hy (by cases v <;> simp [Value.cells, Value.oneCell'] at h1 ⊢) hs (by simpa using h1) hi hH (by simp; omega)
  (by rw [← hcs, wr, List.set_eq_take_append_cons_drop, if_pos hl]; simp) hH' h
theorem fieldPlaceL {w : World} {b j : Nat} {f : Field} {m : Nat} (hs : (P.info? f.type).map (·.size) = some (m + 1)) : (fieldPlace ⟨b, j, none⟩ f).run P w = .ok ⟨b, j + f.offset, none⟩ w := by
 simp [fieldPlace, run_sizeL hs, addL]
theorem PV.fieldAddr {t : TypeId} {x : Operand} {i b j r m : Nat} {fs : Array Field} {f : Field} (ho : o.op = .fieldAddr t x i) (ht : P.underlying t = some (.struct fs)) (hf : fs[i]? = some f)
 (hs : (P.info? f.type).map (·.size) = some (m + 1)) (hx : evL L x = some (.pointer (some ⟨b, j, none⟩))) (hr : j + f.offset = r) : PV P n D L S o (.pointer (some ⟨b, r, none⟩)) :=
 fun a w g _ => by
  subst hr
  simp [execOp, ho, g.eval hx, Instr.fieldAt, run_underlying ht, hf, Instr.sureAddr, fieldPlaceL hs]
theorem PV.indexArr {t e : TypeId} {x y : Operand} {b j len s r : Nat} {k : IntKind} {i : Int} (ho : o.op = .indexAddr t x y) (ht : P.underlying t = some (.array len e))
 (hs : (P.info? e).map (·.size) = some s) (hx : evL L x = some (.pointer (some ⟨b, j, none⟩))) (hy : evL L y = some (.int k i)) (h0 : 0 ≤ i) (h1 : i < len) (hr : j + i.toNat * s = r) : PV P n D L S o (.pointer (some ⟨b, r, none⟩)) :=
 fun a w g _ => by
  subst hr
  simp [execOp, ho, g.eval hx, g.eval hy, Instr.indexAt, asIntOf, run_underlying ht, Instr.sureAddr, h0, h1, run_sizeL hs, addL]
theorem PV.indexSl {t e : TypeId} {x y : Operand} {b j len cap s r : Nat} {k : IntKind} {i : Int} (ho : o.op = .indexAddr t x y) (ht : P.underlying t = some (.slice e))
 (hs : (P.info? e).map (·.size) = some s) (hx : evL L x = some (.slice (some ⟨b, j, none⟩) len cap)) (hy : evL L y = some (.int k i)) (h0 : 0 ≤ i) (h1 : i < len) (hr : j + i.toNat * s = r) : PV P n D L S o (.pointer (some ⟨b, r, none⟩)) :=
 fun a w g _ => by
  subst hr
  simp [execOp, ho, g.eval hx, g.eval hy, Instr.indexAt, asIntOf, run_underlying ht, h0, h1, run_sizeL hs, addL]
theorem PV.lenSl {t : TypeId} {e : TypeId} {x : Operand} {a : Option Addr} {len cap : Nat} (ho : o.op = .call { callee := .builtin .len, args := #[x], argTypes := #[t] }) (ht : P.underlying t = some (.slice e))
 (hx : evL L x = some (.slice a len cap)) : PV P n D L S o (.int .i64 len) :=
 fun b w g _ => by
  simp [execOp, ho, resolve, g.eval hx, invoke, builtin, Builtin.len_, run_underlying ht, goInt]
theorem PV.build {t : TypeId} {parts : Array (Nat × Operand)} {ps : List (Nat × Value)} {cells : Array Value} (ho : o.op = .build t parts) 
 (hx : evp L parts.toList = some ps) (hb : P.built t ps = some cells) : PV P n D L S o (.agg cells) :=
 fun a w f _ => by
  have e : (parts.map fun x => (x.1, a.eval x.2)).toList = ps := f.evparts hx
  have := run_build (P := P) w t (parts.map fun x => (x.1, a.eval x.2)) cells (by rw [e]; exact hb)
  simp [execOp, ho, this]
theorem cells_one {v : Value} (h : v.oneCell' = true) : v.cells = #[v] := by cases v <;> simp [Value.cells, Value.oneCell'] at h ⊢
theorem PV.mkIface {t : TypeId} {x : Operand} {v : Value} {dt : TypeDesc} (ho : o.op = .makeInterface t x) (ht : P.underlying t = some dt) (hc : (match dt with | .interface _ => false | _ => true) = true) (hx : evL L x = some v) : PV P n D L S o (.iface t v) :=
 fun a w f _ => by
  cases dt <;> simp_all [execOp, f.eval hx, Instr.makeInterface, run_underlying ht]
theorem TL.panicOp {x : Operand} {t : TypeId} {v : Value} (hw : Want n D ops o L) (ho : o.op = .panic x) (hx : evL L x = some (.iface t v))
 (h : TE w0 F n Q (.panic [{ v := .iface t v, recovered := false }]) D L H) : TL P w0 F n ops Q (o :: l) D L H :=
 TL.panic hw (fun a w f _ m => ⟨w, by simp [execOp, ho, f.eval hx, Instr.panic, goPanic], Same.refl w, m⟩) h
def cutLo (a : Addr) (c k : Nat) : Addr := if c = k then a else a.add k
theorem PV.mkFunc {f : Fn} {xs : Array Operand} {vs : List Value} (ho : o.op = .makeFunc f #[] xs) (hx : evs L xs.toList = some vs) : PV P n D L S o (.func f #[] vs.toArray) := fun a w g _ => by
 have e : xs.map a.eval = vs.toArray := g.evals hx
 simp [execOp, ho, Instr.makeFunc, e]
theorem PV.sliceLo {t e : TypeId} {x y : Operand} {a : Addr} {len cap k : Nat} {kk : IntKind} {v : Value} {i : Int} (ho : o.op = .slice t x (some y) none none) (ht : P.underlying t = some (.slice e))
 (hs : (P.info? e).map (·.size) = some 1) (hx : evL L x = some (.slice (some a) len cap)) (hy : evL L y = some (.int kk i)) (hk : i = (k : Int)) (h1 : k ≤ len) (hv : .slice (some (cutLo a cap k)) (len - k) (cap - k) = v) : PV P n D L S o (v) :=
 fun b w g _ => by
  subst hk; subst hv
  simp only [execOp, ho, g.eval hx, Option.map_some, Option.map_none, g.eval hy]
  by_cases q : cap = k
  · simp [Instr.sliceAt, Instr.slice, run_underlying ht, Instr.sliceBounds, Instr.sliceBound, asIntOf, h1, run_sizeL hs, cutLo, q]
  · simp [Instr.sliceAt, Instr.slice, run_underlying ht, Instr.sliceBounds, Instr.sliceBound, asIntOf, h1, run_sizeL hs, cutLo, q]
def Named (P : Program) (f : FuncId) : Prop := ∃ fn, P.funcs[f]? = some fn ∧ (fn.name == "runtime.NumGoroutine") = false ∧ fn.body.isNone = false
theorem run_callFunc {f : FuncId} (hf : Named P f) (args : Array Value) (w : World) : (callFunc f args).run P w = .ok (.enter f args) w := by
 obtain ⟨fn, h1, h2, h3⟩ := hf
 have h2' : fn.name ≠ "runtime.NumGoroutine" := by simpa using h2
 have h3' : fn.body ≠ none := by intro q; rw [q] at h3; cases h3
 simp [callFunc, h1, h2', h3']
theorem TL.call {f : FuncId} {xs : Array Operand} {ts : Array TypeId} {vs : List Value} {R : Hl → Prop} {A B : List HP} {post : Ending → List HP → Prop} (hw : Want n D ops o L)
 (ho : o.op = .call { callee := .value (.func f), args := xs, argTypes := ts }) (hd : o.dst = some d) (hn : Nat.blt d n = true) (hf : Named P f) (hx : evs L xs.toList = some vs)
 (sp : Does P f vs.toArray R A post) (hp : ∀ h, sep H h → sep (A ++ B) h) (hR : ∀ g, Dj g F → sep B g → R (jn g F))
 (hout : ∀ H', ¬ post .outgrown H')
 (hpan : ∀ c H', post (.panicked c) H' → TE w0 F n Q (.panic c) D L (H' ++ B))
 (hret : ∀ v H', post (.returned v) H' → TL P w0 F n ops Q l D ((d, v) :: L) (H' ++ B)) : TL P w0 F n ops Q (o :: l) D L H :=
 TL.callw hw (fun a w g => by
  have e : xs.map a.eval = vs.toArray := g.evals hx
  simp [execOp, ho, resolve, Act.eval, Deferred.ofValue, invoke, e, run_callFunc hf])
  sp hp hR (fun v H' q a g w s m => by rw [hd]; exact hret v H' q _ w (g.put (lb hn) v) s m) hpan hout
theorem TL.callR {f : FuncId} {xs : Array Operand} {ts : Array TypeId} {vs : List Value} {R : Hl → Prop} {A B : List HP} {p : Value → List HP → Prop} (hw : Want n D ops o L)
 (ho : o.op = .call { callee := .value (.func f), args := xs, argTypes := ts }) (hd : o.dst = some d) (hn : Nat.blt d n = true) (hf : Named P f) (hx : evs L xs.toList = some vs)
 (sp : Does P f vs.toArray R A (Ret p)) (hp : ∀ h, sep H h → sep (A ++ B) h) (hR : ∀ g, Dj g F → sep B g → R (jn g F))
 (hret : ∀ v H', p v H' → TL P w0 F n ops Q l D ((d, v) :: L) (H' ++ B)) : TL P w0 F n ops Q (o :: l) D L H :=
 TL.call hw ho hd hn hf hx sp hp hR (fun _ h => h) (fun _ _ h => h.elim) hret
theorem TL.callP {f : FuncId} {xs : Array Operand} {ts : Array TypeId} {vs : List Value} {R : Hl → Prop} {A B : List HP} {p : Value → List HP → Prop} {q : List PanicEntry → List HP → Prop} (hw : Want n D ops o L)
 (ho : o.op = .call { callee := .value (.func f), args := xs, argTypes := ts }) (hd : o.dst = some d) (hn : Nat.blt d n = true) (hf : Named P f) (hx : evs L xs.toList = some vs)
 (sp : Does P f vs.toArray R A (RetP p q)) (hp : ∀ h, sep H h → sep (A ++ B) h) (hR : ∀ g, Dj g F → sep B g → R (jn g F))
 (hpan : ∀ c H', q c H' → TE w0 F n Q (.panic c) D L (H' ++ B))
 (hret : ∀ v H', p v H' → TL P w0 F n ops Q l D ((d, v) :: L) (H' ++ B)) : TL P w0 F n ops Q (o :: l) D L H :=
 TL.call hw ho hd hn hf hx sp hp hR (fun _ h => h) hpan hret
theorem ro_piece (i : Nat) {b : Nat} {o : Obj} {B : List HP} (hi : Nat.blt i B.length = true) (e : B.getD i (fun _ => True) = obj b o) : ∀ g, Dj g F → sep B g → jn g F b = some o := fun _ _ s => by
 obtain ⟨h1, h2, _, rfl, a, _⟩ := sep_get i (lb hi) s
 rw [e] at a
 exact jn_some (jn_some (by rw [a]; simp [sg]))
end
end Leg
end
section
namespace Leg
open Go
theorem tp {P : Program} {w0 : World} {F : Hl} {n : Nat} {ops : Array Oper} {Q : QQ} {D : List Deferred} {L : List (Nat × Value)} {H : List HP} {o : Oper} {l : List Oper} {d : Nat} {v : Value} (h1 : PV P n D L (Sat H F) o v) (h : TL P w0 F n ops Q l D ((d, v) :: L) H) (hg : o.guard = none := by exact rfl) (hd : o.dst = some d := by exact rfl) (hn : Nat.blt d n = true := by exact rfl) : TL P w0 F n ops Q (o :: l) D L H := TL.v (Want.plain hg) hd hn h1 h
theorem tq {P : Program} {w0 : World} {F : Hl} {n : Nat} {ops : Array Oper} {Q : QQ} {D : List Deferred} {L : List (Nat × Value)} {H : List HP} {o : Oper} {l : List Oper} {d j d' : Nat} {b : Bool} {v : Value} (h1 : PV P n D L (Sat H F) o v) (h : TL P w0 F n ops Q l D ((d, v) :: L) H) (hg : o.guard = some (j, b) := by exact rfl) (hj : (ops[j]?).bind (·.dst) = some d' := by exact rfl) (e : lk L d' = some (.bool b) := by exact rfl) (hd : o.dst = some d := by exact rfl) (hn : Nat.blt d n = true := by exact rfl) : TL P w0 F n ops Q (o :: l) D L H := TL.v (Want.met hg hj e) hd hn h1 h
theorem nx {P : Program} {w0 : World} {F : Hl} {n : Nat} {ops : Array Oper} {Q : QQ} {D : List Deferred} {L : List (Nat × Value)} {H : List HP} {y : Code} {K : Act → World → Prop} (hK : Hold P y Q K) (h : TC P w0 F n y Q D L H) : TL P w0 F n ops (Exit.then K Q) [] D L H := TL.nil (TE.next hK h)
theorem sr {P : Program} {w0 : World} {F : Hl} {n : Nat} {Q : QQ} {D : List Deferred} {L : List (Nat × Value)} {H : List HP} {y : Code} {id : Nat} {l : List Oper} (h : ∀ K, Hold P y Q K → TL P w0 F n l.toArray (Exit.then K Q) l D L H) : TC P w0 F n ((Code.region id l.toArray false).seq y) Q D L H := TC.seq fun K hK => TC.region (h K hK)
theorem mv {P : Program} {w0 : World} {F : Hl} {n : Nat} {ops : Array Oper} {Q : QQ} {D : List Deferred} {L : List (Nat × Value)} {H : List HP} {o : Oper} {l : List Oper} {d : Nat} {x : Operand} {v : Value} (h : TL P w0 F n ops Q l D ((d, v) :: L) H) (hg : o.guard = none := by exact rfl) (hd : o.dst = some d := by exact rfl) (hn : Nat.blt d n = true := by exact rfl) (ho : o.op = .move x := by exact rfl) (hx : evL L x = some v := by exact rfl) : TL P w0 F n ops Q (o :: l) D L H := TL.v (Want.plain hg) hd hn (PV.move ho hx) h
theorem sg' {P : Program} {w0 : World} {F : Hl} {n : Nat} {ops : Array Oper} {Q : QQ} {D : List Deferred} {L : List (Nat × Value)} {H : List HP} {o : Oper} {l : List Oper} {d : Nat} {x : Operand} {v : Value} (h : TL P w0 F n ops Q l D ((d, v) :: L) H) (hg : o.guard = none := by exact rfl) (hd : o.dst = some d := by exact rfl) (hn : Nat.blt d n = true := by exact rfl) (ho : o.op = .assign x := by exact rfl) (hx : evL L x = some v := by exact rfl) : TL P w0 F n ops Q (o :: l) D L H := TL.v (Want.plain hg) hd hn (PV.assign ho hx) h
end Leg
end

section
namespace Leg
open Go
section
variable {P : Program} {w0 : World} {F : Hl} {n : Nat} {ops : Array Oper} {Q : QQ} {D : List Deferred} {L : List (Nat × Value)} {H : List HP} {S : World → Prop}
def TD (P : Program) (w0 : World) (F : Hl) (n : Nat) (ops : Array Oper) (Q : QQ) (S : World → Prop) (fuel : Nat) (listed : Array Bool) (D : List Deferred) (L : List (Nat × Value)) (H : List HP) : Prop :=
 ∀ a w, Fr n D L a → Same w0 w → Sat H F w → S w → wpAnyH P .any ops Q S fuel listed a w
theorem TC.draw {id m : Nat} {l : List Oper} (S : World → Prop) (hm : P.follows .mixedOrders = true) (hl : l.toArray.size = m) (hS : ∀ w, Sat H F w → S w)
 (h : TD P w0 F n l.toArray Q S m (Array.replicate m false) D L H) : TC P w0 F n (.region id l.toArray true) Q D L H := fun a w f s t => by
 subst hl
 exact wp_region_held hm (h a w.drew f (s.trans ⟨rfl, rfl, rfl, Nat.le_refl _⟩) t.drew (hS _ t.drew))
theorem TD.take {i d fuel : Nat} {listed : Array Bool} {o : Oper} {v : Value} (hi : ops[i]? = some o) (hs : Region.noSelect ops = true) (hf : Region.free .any ops listed i = true) (hr : (Region.ready .any ops listed).contains i = true)
 (hQ : ∀ c a v w, Q (.panic c) (a.put o.dst v) w → Q (.panic c) a w) (hw : Want n D ops o L) (hd : o.dst = some d) (hn : Nat.blt d n = true) (h1 : PV P n D L S o v)
 (h : TD P w0 F n ops Q S fuel (listed.setIfInBounds i true) D ((d, v) :: L) H) : TD P w0 F n ops Q S (fuel + 1) listed D L H := fun a w f s t hS => by
 refine wpAnyH_take (v := v) hi hs hf hr (fun c a w => hQ c a v w) (.inl ⟨hw a f, fun w' q => h1 a w' f q⟩) hS ?_
 rw [hd]
 exact h _ w (f.put (lb hn) v) s t hS
theorem TD.takeNot {i d fuel j e : Nat} {b : Bool} {listed : Array Bool} {o : Oper} (hi : ops[i]? = some o) (hs : Region.noSelect ops = true) (hf : Region.free .any ops listed i = true) (hr : (Region.ready .any ops listed).contains i = true)
 (hQ : ∀ c a v w, Q (.panic c) (a.put o.dst v) w → Q (.panic c) a w) (hg : o.guard = some (j, !b)) (hj : (ops[j]?).bind (·.dst) = some e) (he : lk L e = some (.bool b)) (hd : o.dst = some d) (hn : Nat.blt d n = true)
 (h : TD P w0 F n ops Q S fuel (listed.setIfInBounds i true) D ((d, undef) :: L) H) : TD P w0 F n ops Q S (fuel + 1) listed D L H := fun a w f s t hS => by
 refine wpAnyH_take (v := undef) hi hs hf hr (fun c a w => hQ c a undef w) (.inr ⟨?_, rfl⟩) hS ?_
 · simp [Region.wanted, hg, yielded, hj, f.2.2 e _ he]
 rw [hd]
 exact h _ w (f.put (lb hn) _) s t hS
theorem TD.done {fuel : Nat} {listed : Array Bool} (hr : Region.ready .any ops listed = []) (h : TE w0 F n Q .normal D L H) : TD P w0 F n ops Q S fuel listed D L H :=
 fun a w f s t _ => wpAnyH_done hr (h a w f s t) fuel
theorem TD.dec {fuel d : Nat} {listed : Array Bool} {p : Prop} [Decidable p] (ht : p → TD P w0 F n ops Q S fuel listed D ((d, .bool true) :: L) H) (hf : ¬ p → TD P w0 F n ops Q S fuel listed D ((d, .bool false) :: L) H) : TD P w0 F n ops Q S fuel listed D ((d, .bool (decide p)) :: L) H := by
 by_cases q : p
 · rw [decide_eq_true q]; exact ht q
 · rw [decide_eq_false q]; exact hf q
theorem TD.decB {fuel d : Nat} {listed : Array Bool} {b : Bool} (ht : b = true → TD P w0 F n ops Q S fuel listed D ((d, .bool true) :: L) H) (hf : b = false → TD P w0 F n ops Q S fuel listed D ((d, .bool false) :: L) H) : TD P w0 F n ops Q S fuel listed D ((d, .bool b) :: L) H := by
 cases b
 · exact hf rfl
 · exact ht rfl
def Kd (P : Program) (ops : Array Oper) (Q : QQ) (S : World → Prop) (fuel : Nat) (listed : Array Bool) (i : Nat) : Act → World → Prop :=
 fun a' w' => S w' ∧ wpAnyH P .any ops Q S fuel (listed.setIfInBounds i true) a' w'
theorem wpOp_of_list {i : Nat} {o : Oper} {K : Act → World → Prop} {a : Act} {w : World} (hi : ops[i]? = some o) (h : wpList P ops (Exit.then K Q) [o] a w) : wpOp P ops Q i K a w := by
 unfold wpOp
 simp only [hi]
 unfold wpList at h
 split
 · rename_i hw
   rw [if_pos hw] at h
   refine h.imp (fun x => ?_) id
   unfold Oper.wp at x ⊢
   generalize (execOp a.eval o).run P w = r at x
   cases r with
   | ok nx w' => cases nx <;> first | exact x | (refine Calls.mono x fun e w'' he => ?_; cases e <;> exact he)
   | halt ht w' => cases ht <;> exact x
 · rename_i hw
   rw [if_neg hw] at h
   exact h
def AllT (P : Program) (w0 : World) (F : Hl) (n : Nat) (ops : Array Oper) (Q : QQ) (S : World → Prop) (fuel : Nat) (listed : Array Bool) (D : List Deferred) (L : List (Nat × Value)) (H : List HP) (rs : List Nat) : Prop :=
 ∀ i ∈ rs, ∃ o, ops[i]? = some o ∧ TL P w0 F n ops (Exit.then (Kd P ops Q S fuel listed i) Q) [o] D L H
theorem AllT.nil {fuel : Nat} {listed : Array Bool} : AllT P w0 F n ops Q S fuel listed D L H [] := fun _ h => by cases h
theorem AllT.cons {fuel : Nat} {listed : Array Bool} {i : Nat} {rs : List Nat} {o : Oper} (hi : ops[i]? = some o) (h : TL P w0 F n ops (Exit.then (Kd P ops Q S fuel listed i) Q) [o] D L H) (r : AllT P w0 F n ops Q S fuel listed D L H rs) :
 AllT P w0 F n ops Q S fuel listed D L H (i :: rs) := fun j hj => by
 rcases List.mem_cons.1 hj with rfl | hj
 · exact ⟨o, hi, h⟩
 · exact r j hj
theorem TD.all {fuel : Nat} {listed : Array Bool} (rs : List Nat) (hr : Region.ready .any ops listed = rs) (hne : rs.isEmpty = false) (h : AllT P w0 F n ops Q S fuel listed D L H rs) : TD P w0 F n ops Q S (fuel + 1) listed D L H :=
 fun a w f s t _ => wpAnyH_all hr (by intro q; rw [q] at hne; cases hne) fun i hi => by
  obtain ⟨o, ho, g⟩ := h i hi
  exact wpOp_of_list ho (g a w f s t)
theorem TE.draw {fuel i : Nat} {listed : Array Bool} (hS : ∀ w, Sat H F w → S w) (h : TD P w0 F n ops Q S fuel (listed.setIfInBounds i true) D L H) : TE w0 F n (Exit.then (Kd P ops Q S fuel listed i) Q) .normal D L H :=
 fun a w f s t => ⟨hS w t, h a w f s t (hS w t)⟩
theorem TC.unroll {c : Code} (m : Nat) (h : TC P w0 F n c (Exit.then (Code.rounds P c Q m) Q) D L H) : TC P w0 F n (.loop c) Q D L H :=
 fun a w f s t => wp_loop_rounds (m + 1) (h a w f s t)
theorem TE.again {c : Code} {m : Nat} (h : TC P w0 F n c (Exit.then (Code.rounds P c Q m) Q) D L H) : TE w0 F n (Exit.then (Code.rounds P c Q (m + 1)) Q) .normal D L H :=
 fun a w f s t => h a w f s t
theorem TE.retC {H' : List HP} {fn : Func} {post : Ending → List HP → Prop} {t ty e m b : Nat} {cs : List Value} {z : Nat × Nat} {dt : TypeDesc} (hr : fn.results = #[.cell t ty]) (he : lk L t = some (.pointer (some ⟨b, 0, none⟩)))
 (hu : P.underlying ty = some dt) (hp : plainT dt = false) (hm : (P.info? ty).map (·.size) = some m) (hR : Rd (Sat H F) b (.cells cs.toArray e z)) (hl : cs.length = m) (hk : ∀ h, sep H h → sep H' h)
 (h : post (.returned (.agg cs.toArray)) H') : TE w0 F n (bodyPost P fn (postOf post w0 F)) .ret [] L H := fun a w f s q => by
 refine bodyPost_ret (results_cell_row hr a.tmps w b e cs.toArray z dt (by have := f.eval (x := .tmp t) he; exact this) (hR w q) hu (by cases dt <;> simp [plainT] at hp ⊢) (by simp [hm, hl])) f.2.1 ⟨s, H', q.mono hk, h⟩
theorem Does.of {f : FuncId} {args : Array Value} {R : Hl → Prop} {A : List HP} {post : Ending → List HP → Prop} (h : ∀ F, R F → ∃ R' : Hl → Prop, R' F ∧ Does P f args R' A post) : Does P f args R A post :=
 fun w F r m => let ⟨_, r', d⟩ := h F r; d w F r' m
theorem IsMono {R : Hl → Prop} (hR : ∀ F g, R F → Dj g F → R (jn g F)) {G : Hl} (h : R G) {B : List HP} : ∀ g, Dj g G → sep B g → R (jn g G) := fun g d _ => hR G g h d
end
end Leg
end
section
namespace Leg
open Go
theorem ta {P : Program} {w0 : World} {F : Hl} {n : Nat} {ops : Array Oper} {Q : QQ} {D : List Deferred} {L : List (Nat × Value)} {H : List HP} {S : World → Prop} {d fuel : Nat} {listed : Array Bool} {o : Oper} {v : Value} (i : Nat) (hi : ops[i]? = some o) (h1 : PV P n D L S o v) (h : TD P w0 F n ops Q S fuel (listed.setIfInBounds i true) D ((d, v) :: L) H)
    (hg : o.guard = none := by exact rfl) (hd : o.dst = some d := by exact rfl) (hn : Nat.blt d n = true := by exact rfl) (hs : (Region.noSelect ops && Region.free .any ops listed i && (Region.ready .any ops listed).contains i) = true := by kernel_rfl) (hQ : ∀ c a v w, Q (.panic c) (a.put o.dst v) w → Q (.panic c) a w := by exact fun _ _ _ _ h => h) : TD P w0 F n ops Q S (fuel + 1) listed D L H := by
  rw [Bool.and_eq_true, Bool.and_eq_true] at hs
  exact TD.take hi hs.1.1 hs.1.2 hs.2 hQ (Want.plain hg) hd hn h1 h
theorem tb {P : Program} {w0 : World} {F : Hl} {n : Nat} {ops : Array Oper} {Q : QQ} {D : List Deferred} {L : List (Nat × Value)} {H : List HP} {S : World → Prop} {d fuel j d' : Nat} {b : Bool} {listed : Array Bool} {o : Oper} {v : Value} (i : Nat) (hi : ops[i]? = some o) (h1 : PV P n D L S o v) (h : TD P w0 F n ops Q S fuel (listed.setIfInBounds i true) D ((d, v) :: L) H)
    (hg : o.guard = some (j, b) := by exact rfl) (hj : (ops[j]?).bind (·.dst) = some d' := by exact rfl) (e : lk L d' = some (.bool b) := by exact rfl) (hd : o.dst = some d := by exact rfl) (hn : Nat.blt d n = true := by exact rfl) (hs : (Region.noSelect ops && Region.free .any ops listed i && (Region.ready .any ops listed).contains i) = true := by kernel_rfl) (hQ : ∀ c a v w, Q (.panic c) (a.put o.dst v) w → Q (.panic c) a w := by exact fun _ _ _ _ h => h) : TD P w0 F n ops Q S (fuel + 1) listed D L H := by
  rw [Bool.and_eq_true, Bool.and_eq_true] at hs
  exact TD.take hi hs.1.1 hs.1.2 hs.2 hQ (Want.met hg hj e) hd hn h1 h
end Leg
end

section
namespace Leg
open Go
def own (v : Value) (n : Nat) (xs : List Value) (e size : Nat) : HP := fun h =>
 xs.length = n * size ∧ ((v = .slice none 0 0 ∧ n = 0 ∧ h = em) ∨
  ∃ g cap cur, v = .slice (some ⟨g, 0, none⟩) n cap ∧ h = sg g (.cells cur e (0, 0)) ∧ n ≤ cap ∧ cap ≤ maxLen ∧ cur.size = cap * size ∧ cur.toList.take (n * size) = xs)
def Src (S : World → Prop) (x : Value) (m : Nat) (news : List Value) (size : Nat) : Prop :=
 news.length = m * size ∧ ((x = .slice none 0 0 ∧ m = 0) ∨ ∃ a c, x = .slice (some a) m c ∧ ∀ w, S w → ∀ j u, news[j]? = some u → w.cell? (a.add j) = some u)
theorem Src.rd {S : World → Prop} {b off m c size : Nat} {cs news : List Value} {e : TypeId} {z : Nat × Nat} (hl : news.length = m * size) (hR : Rd S b (.cells cs.toArray e z)) (hc : (cs.drop off).take news.length = news) : Src S (.slice (some ⟨b, off, none⟩) m c) m news size :=
 ⟨hl, .inr ⟨⟨b, off, none⟩, c, rfl, fun w s j u h => by
  rw [addL, cell_ofL (hR w s)]
  have hj := (List.getElem?_eq_some_iff.1 h).1
  rw [← hc, List.getElem?_take, if_pos hj] at h
  simpa using h⟩⟩
theorem Sat.own_open {H : List HP} {F : Hl} {w : World} {i : Nat} {g cap n : Nat} {xs : List Value} {e size : Nat} (s : Sat H F w) (hi : i < H.length) (hH : H.getD i (fun _ => True) = own (.slice (some ⟨g, 0, none⟩) n cap) n xs e size) :
 ∃ cur, Sat (H.set i (obj g (.cells cur e (0, 0)))) F w ∧ n ≤ cap ∧ cap ≤ maxLen ∧ cur.size = cap * size ∧ cur.toList.take (n * size) = xs := by
 obtain ⟨h, d, e', x⟩ := s
 obtain ⟨h1, h2, d', rfl, a, y⟩ := sep_get i hi x
 rw [hH] at a
 rcases a with ⟨_, ⟨h0, _⟩ | ⟨g', cap', cur, hv, hh, r⟩⟩
 · cases h0
 · simp only [Value.slice.injEq, Option.some.injEq, Addr.mk.injEq, and_true, true_and] at hv
   obtain ⟨rfl, rfl⟩ := hv
   exact ⟨cur, ⟨_, d, e', sep_put i hi ⟨h1, h2, d', rfl, hh, y⟩⟩, r⟩
theorem getD_set {H : List HP} {i : Nat} (hi : i < H.length) (q : HP) : (H.set i q).getD i (fun _ => True) = q := by simp [List.getD_eq_getElem?_getD, hi]
theorem Sat.own_block {H : List HP} {F : Hl} {w : World} {i : Nat} {g cap n : Nat} {xs : List Value} {e size : Nat} (s : Sat H F w) (hi : i < H.length) (hH : H.getD i (fun _ => True) = own (.slice (some ⟨g, 0, none⟩) n cap) n xs e size) :
 ∃ cur, w.heap[g]? = some (.cells cur e (0, 0)) ∧ n ≤ cap ∧ cap ≤ maxLen ∧ cur.size = cap * size ∧ cur.toList.take (n * size) = xs := by
 obtain ⟨cur, s', r⟩ := s.own_open hi hH
 exact ⟨cur, s'.block i (by simpa using hi) (getD_set hi _), r⟩
theorem Sat.own_len {H : List HP} {F : Hl} {w : World} {i : Nat} {v : Value} {n : Nat} {xs : List Value} {e size : Nat} (s : Sat H F w) (hi : i < H.length) (hH : H.getD i (fun _ => True) = own v n xs e size) : xs.length = n * size := by
 obtain ⟨h, d, e', x⟩ := s
 obtain ⟨h1, h2, d', rfl, a, _⟩ := sep_get i hi x
 rw [hH] at a
 exact a.1
theorem Sat.own_form {H : List HP} {F : Hl} {w : World} {i : Nat} {v : Value} {n : Nat} {xs : List Value} {e size : Nat} (s : Sat H F w) (hi : i < H.length) (hH : H.getD i (fun _ => True) = own v n xs e size) :
 (v = .slice none 0 0 ∧ n = 0 ∧ xs = []) ∨ ∃ g cap, v = .slice (some ⟨g, 0, none⟩) n cap := by
 obtain ⟨h, d, e', x⟩ := s
 obtain ⟨h1, h2, d', rfl, a, _⟩ := sep_get i hi x
 rw [hH] at a
 rcases a with ⟨hl, ⟨h0, hn, _⟩ | ⟨g', cap', cur, hv, _⟩⟩
 · subst hn; exact .inl ⟨h0, rfl, List.eq_nil_of_length_eq_zero (by simpa using hl)⟩
 · exact .inr ⟨_, _, hv⟩
theorem Src.own {H : List HP} {F : Hl} {v : Value} {n : Nat} {xs : List Value} {e size : Nat} (i : Nat) (hi : Nat.blt i H.length = true) (hH : H.getD i (fun _ => True) = Leg.own v n xs e size) {w0 : World} (s0 : Sat H F w0) : Src (Sat H F) v n xs size := by
 refine ⟨s0.own_len (lb hi) hH, ?_⟩
 rcases s0.own_form (lb hi) hH with ⟨rfl, rfl, rfl⟩ | ⟨g, cap, rfl⟩
 · exact .inl ⟨rfl, rfl⟩
 · refine .inr ⟨⟨g, 0, none⟩, cap, rfl, fun w s j u h => ?_⟩
   rw [addL]
   obtain ⟨cur, h1, _, _, _, h2⟩ := s.own_block (lb hi) hH
   subst h2
   rw [List.getElem?_take] at h
   split at h
   · simpa [World.cell?, h1] using h
   · cases h
theorem sep_swap {q : HP} {H : List HP} {h : Hl} (k : Nat) (hk : k < H.length) (s : sep (q :: H) h) : sep (H.set k q) h :=
 sep_put k hk (star_mono s (fun _ x => x) fun _ x => by
  obtain ⟨h1, h2, d, rfl, _, b⟩ := sep_get k hk x
  rw [jn_comm d]; exact sep_more _ b d.symm)
theorem Sat.swap {q q' : HP} {H : List HP} {F : Hl} {w : World} (k : Nat) (hk : k < H.length) (s : Sat (q :: H) F w) (hq : ∀ h, q h → q' h) : Sat (H.set k q') F w :=
 s.mono fun _ x => sep_swap k hk (star_mono x hq fun _ y => y)
theorem Sat.turn {q : HP} {H : List HP} {F : Hl} {w : World} (k : Nat) (hk : k < H.length) (s : Sat H F w) (hq : ∀ h, H.getD k (fun _ => True) h → q h) : Sat (H.set k q) F w :=
 s.mono fun _ x => sep_put k hk (star_mono (sep_get k hk x) hq fun _ y => y)
section
variable {P : Program} {w0 : World} {F : Hl} {n : Nat} {ops : Array Oper} {Q : QQ} {D : List Deferred} {L : List (Nat × Value)} {H : List HP} {o : Oper} {l : List Oper} {d : Nat} {S : World → Prop}
theorem run_appendL {w : World} {k nn m : Nat} {v x : Value} {xs news : List Value} {t ty e size bytes : Nat} {z : Value} (s : Sat H F w) (ht : P.underlying t = some (.slice e))
 (hi : (P.info? e).map (fun i => (i.zero, i.size, i.bytes)) = some (some z, size, bytes)) (hz : z.cells.size = size) (hsz : 0 < size)
 (hk : k < H.length) (hH : H.getD k (fun _ => True) = own v nn xs e size) (hx : Src (Sat H F) x m news size) (h1 : ∀ u ∈ news, u.oneCell' = true) (hb : nn + m ≤ maxLen) (hby : (nn + m) * bytes ≤ 140737488355328) :
 ∃ v' w', (Builtin.append_ #[t, t] ty #[v, x]).run P w = .ok v' w' ∧ Same w w' ∧ Sat (H.set k (own v' (nn + m) (xs ++ news) e size)) F w' := by
 obtain ⟨i, hie, hz0, rfl, rfl⟩ := info_parts hi
 have hlx := s.own_len hk hH
 have hll : (xs ++ news).length = (nn + m) * i.size := by rw [List.length_append, hlx, hx.1, Nat.add_mul]
 have hsmall : nn + m ≤ 9223372036854775807 := by simp only [maxLen] at hb; omega
 have fresh : ∀ old, old < nn + m → (∀ h, obj w.heap.size (.cells (xs.toArray ++ news.toArray ++ Builtin.zeroCells z.cells (grownCap w (nn + m) old e - (nn + m))) e) h →
  own (.slice (some ⟨w.heap.size, 0, none⟩) (nn + m) (grownCap w (nn + m) old e)) (nn + m) (xs ++ news) e i.size h) := fun old _ h hh => by
  have hge := grownCap_ge w (nn + m) old e
  refine ⟨hll, .inr ⟨_, _, _, rfl, hh, hge, grownCap_le_maxLen w (nn + m) old e hb, ?_, ?_⟩⟩
  · simp only [Array.size_append, List.size_toArray, size_zeroCells, hz, hlx, hx.1, ← Nat.add_mul]
    congr 1
    omega
  · simp only [Array.toList_append, List.append_assoc]
    rw [← List.append_assoc, ← hll]
    exact List.take_left
 have same : ∀ ob, Same w (w.drew.alloc ob) := fun ob => ⟨rfl, rfl, rfl, by simp⟩
 obtain ⟨hxl, hxx⟩ := hx
 rcases s.own_form hk hH with ⟨rfl, rfl, rfl⟩ | ⟨g, cap, rfl⟩
 · have nilcase : m = 0 → news = [] := fun hm => List.eq_nil_of_length_eq_zero (by rw [hxl, hm, Nat.zero_mul])
   by_cases hm : m = 0
   · have hn := nilcase hm
     subst hm; subst hn
     refine ⟨.slice none 0 0, w, ?_, Same.refl w, s.turn k hk (fun h hh => by rw [hH] at hh; simpa using hh)⟩
     rcases hxx with ⟨rfl, _⟩ | ⟨a0, c, rfl, _⟩ <;>
      simp [Builtin.append_, run_underlying ht, Go.sizeOf, typeInfo, hie, Builtin.lenOf, Builtin.firstCells, loadCells, loadCellsFrom]
   · rcases hxx with ⟨_, h0⟩ | ⟨a0, c, rfl, hc⟩
     · exact absurd h0 hm
     · have hr := run_append_nil (P := P) w t ty e i z ht hie hz0 a0 m c news hxl (fun j v hj => hc w s j v hj) (by omega) (by omega) (by simp only [Nat.zero_add] at hby; omega)
       refine ⟨_, _, hr, same _, ?_⟩
       have := fresh 0 (by omega)
       simp only [Nat.zero_add, List.nil_append, Array.empty_append] at this ⊢
       exact Sat.swap k hk (s.drew.alloc _) this
 · obtain ⟨cur, hH1, hnc, hcm, hcs, htake⟩ := s.own_open hk hH
   have hlen : k < (H.set k (obj g (.cells cur e (0, 0)))).length := by simpa using hk
   have hg := hH1.block k hlen (getD_set hk _)
   by_cases hroom : nn + m ≤ cap
   · have hput : Sat (H.set k (own (.slice (some ⟨g, 0, none⟩) (nn + m) cap) (nn + m) (xs ++ news) e i.size)) F (w.setRow g (cur.toList.take (nn * i.size) ++ news ++ cur.toList.drop (nn * i.size + news.length)).toArray) := by
      have hfit : nn * i.size + news.length ≤ cur.size := by rw [hxl, hcs, ← Nat.add_mul]; exact Nat.mul_le_mul_right _ hroom
      have h2 := hH1.write k hlen (getD_set hk _) (setRow_heap w g cur (cur.toList.take (nn * i.size) ++ news ++ cur.toList.drop (nn * i.size + news.length)).toArray e _ hg) (fun j hj => setRow_other w g j _ hj)
      rw [List.set_set] at h2
      have h3 := h2.turn (q := own (.slice (some ⟨g, 0, none⟩) (nn + m) cap) (nn + m) (xs ++ news) e i.size) k (by simpa using hk) (fun h hh => by
       rw [getD_set hk] at hh
       refine ⟨hll, .inr ⟨g, cap, _, rfl, hh, hroom, hcm, ?_, ?_⟩⟩
       · simp only [List.size_toArray, List.length_append, List.length_take, List.length_drop, Array.length_toList]
         omega
       · rw [htake, ← hll]
         exact List.take_left)
      rwa [List.set_set] at h3
     rcases hxx with ⟨rfl, hm⟩ | ⟨a0, c, rfl, hc⟩
     · subst hm
       have hn : news = [] := List.eq_nil_of_length_eq_zero (by rw [hxl, Nat.zero_mul])
       subst hn
       refine ⟨_, w, ?_, Same.refl w, s.turn k hk (fun h hh => by rw [hH] at hh; simpa using hh)⟩
       simp [Builtin.append_, run_underlying ht, Go.sizeOf, typeInfo, hie, Builtin.lenOf, Builtin.firstCells, hnc, storeCells]
     · have hfit : nn * i.size + news.length ≤ cur.size := by rw [hxl, hcs, ← Nat.add_mul]; exact Nat.mul_le_mul_right _ hroom
       exact ⟨_, _, run_append_room (P := P) w t ty e i ht hie g nn cap cur hg a0 m c news hxl (fun j v hj => hc w s j v hj) h1 hroom hfit, ⟨rfl, rfl, rfl, by simp⟩, hput⟩
   · rcases hxx with ⟨rfl, hm⟩ | ⟨a0, c, rfl, hc⟩
     · omega
     · have holds : ∀ j u, xs[j]? = some u → w.cell? ((⟨g, 0, none⟩ : Addr).add j) = some u := fun j u hj => by
        rw [addL]
        subst htake
        rw [List.getElem?_take] at hj
        split at hj
        · simpa [World.cell?, hg] using hj
        · cases hj
       have hr := run_append_grow (P := P) w t ty e i z ht hie hz0 ⟨g, 0, none⟩ nn cap xs hlx holds a0 m c news hxl (fun j v hj => hc w s j v hj) (by omega) (by omega) (growslice_fits (by omega) hby)
       exact ⟨_, _, hr, same _, Sat.swap k hk (s.drew.alloc _) (fresh cap (by omega))⟩
theorem TL.append {s x : Operand} {k nn m nn' : Nat} {v vx : Value} {xs news xs' : List Value} {t e size bytes : Nat} {z : Value} (hw : Want n D ops o L)
 (ho : o.op = .call { callee := .builtin .append, args := #[s, x], argTypes := #[t, t] }) (hd : o.dst = some d) (hn : Nat.blt d n = true) (ht : P.underlying t = some (.slice e))
 (hi : (P.info? e).map (fun i => (i.zero, i.size, i.bytes)) = some (some z, size, bytes)) (hz : z.cells.size = size) (hsz : Nat.blt 0 size = true) (hs : evL L s = some v) (hx : evL L x = some vx)
 (hk : Nat.blt k H.length = true) (hH : H.getD k (fun _ => True) = own v nn xs e size) (hsrc : ∀ w, Sat H F w → Src (Sat H F) vx m news size) (h1 : ∀ u ∈ news, u.oneCell' = true) (hb : nn + m ≤ maxLen) (hby : (nn + m) * bytes ≤ 140737488355328)
 (hnn : nn + m = nn') (hxs : xs ++ news = xs') (h : ∀ v', v'.oneCell' = true → TL P w0 F n ops Q l D ((d, v') :: L) (H.set k (own v' nn' xs' e size))) : TL P w0 F n ops Q (o :: l) D L H :=
 TL.step hw fun a w f sm q => by
  obtain ⟨v', w', hr, s', q'⟩ := run_appendL (ty := o.type) q ht hi hz (lb hsz) (lb hk) hH (hsrc w q) h1 hb hby
  unfold Oper.wp execOp
  simp only [ho, resolve, invoke, builtin, Sem.run_bind, Sem.run_pure, Result.andThen_ok, List.map_toArray, List.map_cons, List.map_nil, f.eval hs, f.eval hx, hr]
  rw [Oper.upon_value, hd]
  subst hnn; subst hxs
  have one : v'.oneCell' = true := by
   rcases q'.own_form (i := k) (by simpa using lb hk) (getD_set (lb hk) _) with ⟨rfl, _⟩ | ⟨g, c, rfl⟩ <;> rfl
  exact h v' one _ w' (f.put (lb hn) v') (sm.trans s') q'
theorem TL.buildSlice {t e len size bytes : Nat} {parts : Array (Nat × Operand)} {ps : List (Nat × Value)} {z : Value} {cells : Array Value} (hw : Want n D ops o L) (ho : o.op = .buildSlice t len parts) (hd : o.dst = some d) (hn : Nat.blt d n = true)
 (ht : P.underlying t = some (.slice e)) (hi : (P.info? e).map (fun i => (i.zero, i.size, i.bytes)) = some (some z, size, bytes)) (hs : Nat.blt (2 ^ 24) (len * size) = false) (h0 : Nat.beq (len * size) 0 = false)
 (hx : evp L parts.toList = some ps) (hf : Instr.fill (fun i => some (i * size, size)) ((Array.range (len * size)).map (z.cells[· % z.cells.size]!)) ps = some cells)
 (h : ∀ b, TL P w0 F n ops Q l D ((d, .slice (some ⟨b, 0, none⟩) len len) :: L) (obj b (.cells cells e) :: H)) : TL P w0 F n ops Q (o :: l) D L H :=
 TL.step hw fun a w f sm q => by
  obtain ⟨i, hie, hz0, rfl, rfl⟩ := info_parts hi
  have e1 : (parts.map fun x => (x.1, a.eval x.2)).toList = ps := f.evparts hx
  have hs' : ¬ len * i.size > 2 ^ 24 := fun hh => by
   have : Nat.blt (2 ^ 24) (len * i.size) = true := by simpa [Nat.blt_eq] using hh
   rw [this] at hs; cases hs
  have h0' : ¬ len * i.size = 0 := fun hh => by
   rw [hh] at h0; cases h0
  have hr := run_buildSlice (P := P) w t e len (parts.map fun x => (x.1, a.eval x.2)) cells i z ht hie hz0 hs' h0' (by rw [e1]; exact hf)
  have r : (execOp a.eval o).run P w = .ok (.value (.slice (some ⟨w.heap.size, 0, none⟩) len len)) (w.alloc (.cells cells e)) := by
   simp only [execOp, ho, Sem.run_bind, hr, Result.andThen_ok, Sem.run_pure]
  unfold Oper.wp
  rw [r, Oper.upon_value, hd]
  exact h _ _ _ (f.put (lb hn) _) (sm.trans ⟨rfl, rfl, rfl, by simp⟩) (q.alloc _)
theorem TL.buildSlice0 {t e : Nat} (hw : Want n D ops o L) (ho : o.op = .buildSlice t 0 #[]) (hd : o.dst = some d) (hn : Nat.blt d n = true) (ht : P.underlying t = some (.slice e))
 {size : Nat} (hs : ((P.info? e).map (·.size)) = some size) (h : ∀ v, TL P w0 F n ops Q l D ((d, v) :: L) (own v 0 [] e size :: H)) : TL P w0 F n ops Q (o :: l) D L H :=
 TL.step hw fun a w f sm q => by
  have r : (execOp a.eval o).run P w = .ok (.value (.slice (some ⟨w.heap.size, 0, none⟩) 0 0)) (w.alloc (.cells #[] e)) := by
   have e0 : (Array.range 0).map (fun _ : Nat => (default : Value)) = #[] := by simp
   simp [execOp, ho, Instr.buildSlice, run_underlying ht, run_sizeL hs, Instr.fill, newRow, newObj, Sem.run]
   rw [e0]
  unfold Oper.wp
  rw [r, Oper.upon_value, hd]
  refine h _ _ _ (f.put (lb hn) _) (sm.trans ⟨rfl, rfl, rfl, by simp⟩) ((q.alloc _).mono fun g x => star_mono x (fun g' y => ?_) fun _ y => y)
  exact ⟨by simp, .inr ⟨_, 0, #[], rfl, y, Nat.le_refl _, Nat.zero_le _, by simp, by simp⟩⟩
theorem PV.sliceArr {t e len : Nat} {x : Operand} {b j s : Nat} (ho : o.op = .slice t x none none none) (ht : P.underlying t = some (.array len e)) (hs : (P.info? e).map (·.size) = some s) (hx : evL L x = some (.pointer (some ⟨b, j, none⟩))) :
 PV P n D L S o (.slice (some ⟨b, j, none⟩) len len) := fun a w g _ => by
 simp [execOp, ho, g.eval hx, Instr.sliceAt, run_underlying ht, Instr.sureAddr, Instr.sliceBounds, run_sizeL hs, addL]
theorem run_part1 {t : TypeId} {dt : TypeDesc} (ht : P.underlying t = some dt) (hp : plainT dt = true) {cs : List Value} {j : Nat} {v : Value} (h : cs[j]? = some v) {w : World} : (part t cs.toArray j).run P w = .ok v w := by
 simp [part, run_isAggL ht, hp, h]
theorem run_partN {t : TypeId} {dt : TypeDesc} (ht : P.underlying t = some dt) (hp : plainT dt = false) {m : Nat} (hm : (P.info? t).map (·.size) = some m) {cs vs : List Value} {j : Nat} (h : (cs.drop j).take m = vs) {w : World} : (part t cs.toArray j).run P w = .ok (.agg vs.toArray) w := by
 subst h
 simp [part, run_isAggL ht, hp, run_sizeL hm]
theorem PV.index1 {t e len : Nat} {x y : Operand} {k : IntKind} {i : Int} {dt : TypeDesc} {cs : List Value} {v : Value} {s r : Nat} (ho : o.op = .index t x y) (ht : P.underlying t = some (.array len e)) (he : P.underlying e = some dt) (hp : plainT dt = true) (hs : (P.info? e).map (·.size) = some s)
 (hx : evL L x = some (.agg cs.toArray)) (hy : evL L y = some (.int k i)) (h0 : 0 ≤ i) (h1 : i < len) (hr : i.toNat * s = r) (hv : cs[r]? = some v) : PV P n D L S o v := fun a w g _ => by
 subst hr
 simp [execOp, ho, g.eval hx, g.eval hy, Instr.index, asIntOf, run_underlying ht, h0, h1, run_sizeL hs, run_part1 he hp hv]
theorem PV.indexN {t e len : Nat} {x y : Operand} {k : IntKind} {i : Int} {dt : TypeDesc} {cs vs : List Value} {s r : Nat} (ho : o.op = .index t x y) (ht : P.underlying t = some (.array len e)) (he : P.underlying e = some dt) (hp : plainT dt = false) (hs : (P.info? e).map (·.size) = some s)
 (hx : evL L x = some (.agg cs.toArray)) (hy : evL L y = some (.int k i)) (h0 : 0 ≤ i) (h1 : i < len) (hr : i.toNat * s = r) (hv : (cs.drop r).take s = vs) : PV P n D L S o (.agg vs.toArray) := fun a w g _ => by
 subst hr
 simp [execOp, ho, g.eval hx, g.eval hy, Instr.index, asIntOf, run_underlying ht, h0, h1, run_sizeL hs, run_partN he hp hs hv]
theorem PV.field1 {t i : Nat} {x : Operand} {fs : Array Field} {f : Field} {dt : TypeDesc} {cs : List Value} {v : Value} (ho : o.op = .field t x i) (ht : P.underlying t = some (.struct fs)) (hf : fs[i]? = some f) (he : P.underlying f.type = some dt) (hp : plainT dt = true)
 (hx : evL L x = some (.agg cs.toArray)) (hv : cs[f.offset]? = some v) : PV P n D L S o v := fun a w g _ => by
 simp [execOp, ho, g.eval hx, Instr.field, run_underlying ht, hf, asAgg, run_part1 he hp hv]
theorem PV.buildOne {t : TypeId} {x : Operand} {f : Field} {v z : Value} (ho : o.op = .build t #[(0, x)]) (ht : P.underlying t = some (.struct #[f])) (hz : (P.info? t).map (·.zero) = some (some (.agg #[z]))) (hof : f.offset = 0) (hs : (P.info? f.type).map (·.size) = some 1)
 (hx : evL L x = some v) (h1 : v.oneCell' = true) : PV P n D L S o (.agg #[v]) := fun a w g _ => by
 have hc : (Value.agg #[z]).cells = #[z] := rfl
 simp [execOp, ho, g.eval hx, Instr.build, run_zeroL hz, run_underlying ht, run_sizeL hs, hof, Instr.fill, cells_one h1, hc]
def u8s (l : List UInt8) : List Value := l.map fun x => .int .u8 (x.toNat : Nat)
theorem u8s_length (l : List UInt8) : (u8s l).length = l.length := by simp [u8s]
theorem u8s_append (a b : List UInt8) : u8s (a ++ b) = u8s a ++ u8s b := by simp [u8s]
theorem u8s_one (l : List UInt8) : ∀ u ∈ u8s l, u.oneCell' = true := by
 intro u h
 obtain ⟨_, _, rfl⟩ := List.mem_map.1 h
 rfl
abbrev ownB (v : Value) (l : List UInt8) (e : Nat) : HP := own v l.length (u8s l) e 1
abbrev strV (l : List UInt8) : Value := .string ⟨l.toArray⟩
theorem PV.strEql {t t' : TypeId} {x y : Operand} {a b : List UInt8} (ho : o.op = .binOp .eql t x y t') (hx : evL L x = some (strV a)) (hy : evL L y = some (strV b)) : PV P n D L S o (.bool (decide (a = b))) :=
 PV.bin ho hx hy fun w => by
  simp only [eqGuard, binOp_string_eql, ByteArray.toList_mk]
  by_cases q : a = b <;> simp [q]
theorem PV.strAdd {t t' : TypeId} {x y : Operand} {a b : List UInt8} (ho : o.op = .binOp .add t x y t') (hx : evL L x = some (strV a)) (hy : evL L y = some (strV b)) (hl : a.length + b.length ≤ 9223372036854775807) : PV P n D L S o (strV (a ++ b)) :=
 PV.bin ho hx hy fun w => by
  have h2 : ¬ (((a.length + b.length : Nat) : Int) > IntKind.i64.max) := by
   have : IntKind.i64.max = 9223372036854775807 := by decide
   rw [this]; omega
  have e : (⟨a.toArray⟩ : ByteArray) ++ ⟨b.toArray⟩ = ⟨(a ++ b).toArray⟩ := by
   apply ByteArray.ext; simp
  have s1 : (⟨a.toArray⟩ : ByteArray).size = a.length := by simp [ByteArray.size]
  have s2 : (⟨b.toArray⟩ : ByteArray).size = b.length := by simp [ByteArray.size]
  simp only [eqGuard, binOp, Op.stringOp, s1, s2, if_neg h2, e]
  simp
end
end Leg
end

section
namespace Api
open Go Leg
def ints (l : List Int) : List Value := l.map (Value.int .i64)
theorem ints_length (l : List Int) : (ints l).length = l.length := by simp [ints]
theorem ints_get (l : List Int) (j : Nat) (h : j < l.length) : (ints l)[j]? = some (.int .i64 (l.getD j 0)) := by simp [ints, h]
structure CellT where
 inn : Int
 out : Int
 given : Vector Int 5
structure RowT where
 version : Int
 cells : Vector CellT 4
 heir : Vector Int 5
 left : Vector (Vector CellT 4) 5
structure ViewT where
 epoch : Int
 members : Int
 heirs : Vector Int 5
structure ChangeT where
 kind : Int
 who : Int
 heir : Int
structure BallotT where
 round : Int
 who : Int
structure MsgT where
 kind : Int
 whose : Int
 row : RowT
 version : Int
 epoch : Int
 ballot : BallotT
 had : BallotT
 change : ChangeT
 view : ViewT
structure RecT where
 kind : Int
 whose : Int
 row : RowT
 epoch : Int
 ballot : BallotT
 change : ChangeT
 view : ViewT
structure OpT where
 kind : Int
 at' : Int
 to' : Int
 key : Int
 n : Int
 change : ChangeT
 mask : Int
 torn : Int
 cut : Int
structure ReplyT where
 op : Int
 err : Int
 value : Int
def CellT.flat (c : CellT) : List Int := c.inn :: c.out :: c.given.toList
def flats (v : List CellT) : List Int := v.flatMap CellT.flat
def RowT.flat (x : RowT) : List Int := x.version :: (flats x.cells.toList ++ (x.heir.toList ++ x.left.toList.flatMap fun v => flats v.toList))
def ViewT.flat (v : ViewT) : List Int := v.epoch :: v.members :: v.heirs.toList
def ChangeT.flat (c : ChangeT) : List Int := [c.kind, c.who, c.heir]
def BallotT.flat (b : BallotT) : List Int := [b.round, b.who]
def MsgT.flat (m : MsgT) : List Int := m.kind :: m.whose :: (m.row.flat ++ (m.version :: m.epoch :: (m.ballot.flat ++ (m.had.flat ++ (m.change.flat ++ m.view.flat)))))
def RecT.flat (m : RecT) : List Int := m.kind :: m.whose :: (m.row.flat ++ (m.epoch :: (m.ballot.flat ++ (m.change.flat ++ m.view.flat))))
def OpT.flat (m : OpT) : List Int := m.kind :: m.at' :: m.to' :: m.key :: m.n :: (m.change.flat ++ [m.mask, m.torn, m.cut])
def ReplyT.flat (m : ReplyT) : List Int := [m.op, m.err, m.value]
def agI (l : List Int) : Value := .agg (ints l).toArray
abbrev CellT.val (c : CellT) : Value := agI c.flat
abbrev RowT.val (x : RowT) : Value := agI x.flat
abbrev ViewT.val (v : ViewT) : Value := agI v.flat
abbrev ChangeT.val (c : ChangeT) : Value := agI c.flat
abbrev BallotT.val (b : BallotT) : Value := agI b.flat
def CellT.zero : CellT := ⟨0, 0, #v[0, 0, 0, 0, 0]⟩
def RowT.zero : RowT := ⟨0, #v[.zero, .zero, .zero, .zero], #v[0, 0, 0, 0, 0], #v[#v[.zero, .zero, .zero, .zero], #v[.zero, .zero, .zero, .zero], #v[.zero, .zero, .zero, .zero], #v[.zero, .zero, .zero, .zero], #v[.zero, .zero, .zero, .zero]]⟩
def ViewT.zero : ViewT := ⟨0, 0, #v[0, 0, 0, 0, 0]⟩
def ChangeT.zero : ChangeT := ⟨0, 0, 0⟩
def BallotT.zero : BallotT := ⟨0, 0⟩
def MsgT.zero : MsgT := ⟨0, 0, .zero, 0, 0, .zero, .zero, .zero, .zero⟩
def RecT.zero : RecT := ⟨0, 0, .zero, 0, .zero, .zero, .zero⟩
def OpT.zero : OpT := ⟨0, 0, 0, 0, 0, .zero, 0, 0, 0⟩
theorem tl_set {α : Type} {n : Nat} (v : Vector α n) (i : Nat) (x : α) (h : i < n) : (v.set i x h).toList = v.toList.set i x := by
 rcases v with ⟨⟨l⟩, e⟩
 simp [Vector.set, Vector.toList]
theorem CellT.flat_length (c : CellT) : c.flat.length = 7 := by simp [flat]
theorem flats_length (v : List CellT) : (flats v).length = 7 * v.length := by
 induction v with
 | nil => rfl
 | cons c v ih => simp only [flats, List.flatMap_cons, List.length_append, CellT.flat_length] at ih ⊢; rw [ih, List.length_cons]; omega
theorem flat5_length (l : List (Vector CellT 4)) : (l.flatMap fun v => flats v.toList).length = 28 * l.length := by
 induction l with
 | nil => rfl
 | cons c v ih => simp only [List.flatMap_cons, List.length_append, flats_length, Vector.length_toList] at ih ⊢; rw [ih, List.length_cons]; omega
theorem RowT.flat_length (x : RowT) : x.flat.length = 174 := by
 have h := flat5_length x.left.toList
 rw [Vector.length_toList] at h
 simp only [flat, List.length_cons, List.length_append, flats_length, h, Vector.length_toList]
theorem RowT.len (x : RowT) : (ints x.flat).length = 174 := by rw [ints_length, x.flat_length]
theorem CellT.len (c : CellT) : (ints c.flat).length = 7 := by rw [ints_length, c.flat_length]
theorem wr_append_left {a b vs : List Value} {o : Nat} (h : o + vs.length ≤ a.length) : wr (a ++ b) o vs = wr a o vs ++ b := by
 simp only [wr]
 rw [List.take_append_of_le_length (by omega), List.drop_append_of_le_length (by omega)]
 simp
theorem wr_append_right {a b vs : List Value} {o : Nat} (h : a.length ≤ o) : wr (a ++ b) o vs = a ++ wr b (o - a.length) vs := by
 simp only [wr]
 rw [List.take_append, List.drop_append, List.take_of_length_le h, List.drop_of_length_le (by omega)]
 have : o + vs.length - a.length = o - a.length + vs.length := by omega
 simp [this]
theorem wr_whole {a vs : List Value} (h : a.length = vs.length) : wr a 0 vs = vs := by simp [wr, h]
theorem wr_one {a : List Value} {o : Nat} {v : Value} (h : o < a.length) : wr a o [v] = a.set o v := by
 rw [wr, List.set_eq_take_append_cons_drop, if_pos h]; simp
theorem wr_flatMap {α : Type} {f : α → List Value} {m : Nat} (hf : ∀ x, (f x).length = m) : ∀ (l : List α) (i : Nat) (x : α), i < l.length → wr (l.flatMap f) (i * m) (f x) = (l.set i x).flatMap f
 | [], _, _, h => by simp at h
 | y :: l, 0, x, _ => by
  simp only [List.flatMap_cons, List.set_cons_zero, Nat.zero_mul]
  rw [wr_append_left (by simp [hf]), wr_whole (by simp [hf])]
 | y :: l, i + 1, x, h => by
  simp only [List.flatMap_cons, List.set_cons_succ]
  have e : (i + 1) * m = m + i * m := by rw [Nat.add_mul, Nat.one_mul, Nat.add_comm]
  rw [wr_append_right (by rw [hf, e]; omega), hf, e, Nat.add_sub_cancel_left, wr_flatMap hf l i x (by simpa using h)]
theorem ints_flats (l : List CellT) : ints (flats l) = l.flatMap fun c => ints c.flat := by
 induction l with
 | nil => rfl
 | cons c l ih => simp only [flats, List.flatMap_cons, ints, List.map_append] at ih ⊢; rw [ih]
theorem ints_append (a b : List Int) : ints (a ++ b) = ints a ++ ints b := by simp [ints]
theorem ints_cons (a : Int) (b : List Int) : ints (a :: b) = .int .i64 a :: ints b := rfl
theorem wr_flats {l : List CellT} {i : Nat} {c : CellT} (h : i < l.length) : wr (ints (flats l)) (i * 7) (ints c.flat) = ints (flats (l.set i c)) := by
 rw [ints_flats, ints_flats]
 exact wr_flatMap (fun x => by rw [ints_length, x.flat_length]) l i c h
theorem wr_flat5 {l : List (Vector CellT 4)} {i j : Nat} {c : CellT} (h : i < l.length) (hj : j < 4) : wr (ints (l.flatMap fun v => flats v.toList)) (i * 28 + j * 7) (ints c.flat) = ints ((l.set i ((l[i]).set j c)).flatMap fun v => flats v.toList) := by
 induction l generalizing i with
 | nil => simp at h
 | cons y l ih =>
  have hy : (ints (flats y.toList)).length = 28 := by rw [ints_length, flats_length]; simp
  have hc : (ints c.flat).length = 7 := by rw [ints_length, c.flat_length]
  cases i with
  | zero =>
   simp only [List.flatMap_cons, List.set_cons_zero, Nat.zero_mul, Nat.zero_add, ints_append, List.getElem_cons_zero]
   rw [wr_append_left (by omega), wr_flats (by simpa using hj), tl_set]
  | succ i =>
   simp only [List.flatMap_cons, List.set_cons_succ, ints_append, List.getElem_cons_succ]
   have e : (i + 1) * 28 + j * 7 = 28 + (i * 28 + j * 7) := by omega
   rw [wr_append_right (by omega), hy, e, Nat.add_sub_cancel_left, ih (by simpa using h)]
theorem RowT.wr_version (x : RowT) (n : Int) : wr (ints x.flat) 0 [.int .i64 n] = ints ({ x with version := n } : RowT).flat := by simp [wr, RowT.flat, ints]
theorem RowT.wr_cell (x : RowT) (i : Nat) (h : i < 4) (c : CellT) : wr (ints x.flat) (1 + i * 7) (ints c.flat) = ints ({ x with cells := x.cells.set i c } : RowT).flat := by
 have hc : (ints c.flat).length = 7 := by rw [ints_length, c.flat_length]
 have hf : (ints (flats x.cells.toList)).length = 28 := by rw [ints_length, flats_length]; simp
 simp only [RowT.flat, ints_cons, ints_append]
 rw [← List.singleton_append, wr_append_right (by simp), wr_append_left (by simp; omega)]
 simp only [List.length_singleton, Nat.add_sub_cancel_left]
 rw [wr_flats (by simpa using h), tl_set, List.singleton_append]
theorem RowT.wr_heir (x : RowT) (i : Nat) (h : i < 5) (n : Int) : wr (ints x.flat) (29 + i) [.int .i64 n] = ints ({ x with heir := x.heir.set i n } : RowT).flat := by
 have hf : (ints (flats x.cells.toList)).length = 28 := by rw [ints_length, flats_length]; simp
 have hh : (ints x.heir.toList).length = 5 := by rw [ints_length]; simp
 simp only [RowT.flat, ints_cons, ints_append]
 rw [← List.singleton_append, wr_append_right (by simp; omega), wr_append_right (by simp; omega), wr_append_left (by simp; omega)]
 have e : 29 + i - [Value.int IntKind.i64 x.version].length - (ints (flats x.cells.toList)).length = i := by simp; omega
 rw [e, wr_one (by omega), tl_set]
 simp [ints, List.map_set]
theorem RowT.wr_left (x : RowT) (i j : Nat) (h : i < 5) (hj : j < 4) (c : CellT) : wr (ints x.flat) (34 + i * 28 + j * 7) (ints c.flat) = ints ({ x with left := x.left.set i ((x.left[i]).set j c) } : RowT).flat := by
 have hf : (ints (flats x.cells.toList)).length = 28 := by rw [ints_length, flats_length]; simp
 have hh : (ints x.heir.toList).length = 5 := by rw [ints_length]; simp
 simp only [RowT.flat, ints_cons, ints_append]
 rw [← List.singleton_append, wr_append_right (by simp; omega), wr_append_right (by simp; omega), wr_append_right (by simp; omega)]
 have e : 34 + i * 28 + j * 7 - [Value.int IntKind.i64 x.version].length - (ints (flats x.cells.toList)).length - (ints x.heir.toList).length = i * 28 + j * 7 := by simp; omega
 rw [e, wr_flat5 (by simpa using h) hj, tl_set]
 simp
theorem RowT.get_heir (x : RowT) (i : Nat) (h : i < 5) : (ints x.flat)[29 + i]? = some (.int .i64 x.heir[i]) := by
 have hf : (flats x.cells.toList).length = 28 := by rw [flats_length]; simp
 have e : x.flat[29 + i]? = some x.heir[i] := by
  simp only [RowT.flat]
  rw [show 29 + i = (28 + i) + 1 by omega, List.getElem?_cons_succ, List.getElem?_append_right (by omega), hf, Nat.add_sub_cancel_left, List.getElem?_append_left (by simpa using h)]
  simp [h]
 simp [ints, e]
theorem RowT.get_version (x : RowT) : (ints x.flat)[0]? = some (.int .i64 x.version) := rfl
theorem RowT.get_cells (x : RowT) : ((ints x.flat).drop 1).take 28 = ints (flats x.cells.toList) := by
 have hf : (ints (flats x.cells.toList)).length = 28 := by rw [ints_length, flats_length]; simp
 simp only [RowT.flat, ints_cons, ints_append, List.drop_succ_cons, List.drop_zero]
 rw [List.take_append_of_le_length (by omega), List.take_of_length_le (by omega)]
theorem RowT.get_heirs (x : RowT) : ((ints x.flat).drop 29).take 5 = ints x.heir.toList := by
 have hf : (ints (flats x.cells.toList)).length = 28 := by rw [ints_length, flats_length]; simp
 have hh : (ints x.heir.toList).length = 5 := by rw [ints_length]; simp
 simp only [RowT.flat, ints_cons, ints_append, List.drop_succ_cons]
 rw [List.drop_append, List.drop_of_length_le (by omega), hf, Nat.sub_self, List.drop_zero, List.nil_append, List.take_append_of_le_length (by omega), List.take_of_length_le (by omega)]
theorem flats_get {l : List CellT} {i : Nat} (h : i < l.length) : ((ints (flats l)).drop (i * 7)).take 7 = ints (l[i]).flat := by
 induction l generalizing i with
 | nil => simp at h
 | cons c l ih =>
  have hc : (ints c.flat).length = 7 := c.len
  simp only [flats, List.flatMap_cons, ints_append] at ih ⊢
  cases i with
  | zero => simp only [Nat.zero_mul, List.drop_zero, List.getElem_cons_zero]; rw [List.take_append_of_le_length (by omega), List.take_of_length_le (by omega)]
  | succ i =>
   rw [List.drop_append, List.drop_of_length_le (by omega), hc, show (i + 1) * 7 - 7 = i * 7 by omega, List.nil_append]
   simpa using ih (by simpa using h)
theorem flat5_get {l : List (Vector CellT 4)} {i : Nat} (h : i < l.length) : ((ints (l.flatMap fun v => flats v.toList)).drop (i * 28)).take 28 = ints (flats (l[i]).toList) := by
 induction l generalizing i with
 | nil => simp at h
 | cons c l ih =>
  have hc : (ints (flats c.toList)).length = 28 := by rw [ints_length, flats_length]; simp
  simp only [List.flatMap_cons, ints_append] at ih ⊢
  cases i with
  | zero => simp only [Nat.zero_mul, List.drop_zero, List.getElem_cons_zero]; rw [List.take_append_of_le_length (by omega), List.take_of_length_le (by omega)]
  | succ i =>
   rw [List.drop_append, List.drop_of_length_le (by omega), hc, show (i + 1) * 28 - 28 = i * 28 by omega, List.nil_append]
   simpa using ih (by simpa using h)
theorem RowT.get_left (x : RowT) (i : Nat) (h : i < 5) : ((ints x.flat).drop (34 + i * 28)).take 28 = ints (flats (x.left[i]).toList) := by
 have hf : (ints (flats x.cells.toList)).length = 28 := by rw [ints_length, flats_length]; simp
 have hh : (ints x.heir.toList).length = 5 := by rw [ints_length]; simp
 have e : (ints x.flat).drop (34 + i * 28) = (ints (x.left.toList.flatMap fun v => flats v.toList)).drop (i * 28) := by
  simp only [RowT.flat, ints_cons, ints_append]
  rw [show 34 + i * 28 = (33 + i * 28) + 1 by omega, List.drop_succ_cons, List.drop_append, List.drop_of_length_le (by omega), hf, List.nil_append, List.drop_append, List.drop_of_length_le (by omega), hh, List.nil_append]
  congr 1
  omega
 rw [e, flat5_get (by simpa using h)]
 simp
theorem vec5 {p : Vector Int 5 → Prop} (h : ∀ a b c d e, p #v[a, b, c, d, e]) (v : Vector Int 5) : p v := by
 rcases v with ⟨⟨l⟩, hl⟩
 match l, hl with
 | [a, b, c, d, e], _ => exact h a b c d e
theorem ints_one (l : List Int) : ∀ u ∈ ints l, u.oneCell' = true := by
 intro u h
 obtain ⟨_, _, rfl⟩ := List.mem_map.1 h
 rfl
set_option maxRecDepth 100000 in
theorem RowT.flat_zero : RowT.zero.flat = List.replicate 174 0 := by rfl
end Api
end
section
namespace Leg
open Go Api
abbrev OZ : List (List Value) := [[Value.int .i64 0], [Value.int .i64 0], [Value.int .i64 0], [Value.int .i64 0], [Value.int .i64 0], ints ChangeT.zero.flat, [Value.int .i64 0], [Value.int .i64 0], [Value.int .i64 0]]
theorem AD {P : Program} {w0 : World} {F : Hl} {n : Nat} {ops : Array Oper} {Q : QQ} {D : List Deferred} {L : List (Nat × Value)} {H : List HP} {d : Nat} {o : Oper} {l : List Oper} {t t' : TypeId} {x y : Operand} {a b : Int} (h : TL P w0 F n ops Q l D ((d, .int .i64 (a + b)) :: L) H) (hw : Want n D ops o L := by first | exact Want.plain rfl | exact Want.met rfl rfl rfl) (hd : o.dst = some d := by exact rfl) (hn : Nat.blt d n = true := by exact rfl) (ho : o.op = .binOp .add t x y t' := by exact rfl) (hx : evL L x = some (.int .i64 a) := by exact rfl) (hy : evL L y = some (.int .i64 b) := by exact rfl) (h1 : -9223372036854775808 ≤ a + b ∧ a + b ≤ 9223372036854775807 := by constructor <;> omega) : TL P w0 F n ops Q (o :: l) D L H := TL.v hw hd hn (PV.add ho hx hy (wrap_i64 h1.1 h1.2)) h
theorem SI {P : Program} {w0 : World} {F : Hl} {n : Nat} {ops : Array Oper} {Q : QQ} {D : List Deferred} {L : List (Nat × Value)} {H : List HP} {o : Oper} {l : List Oper} {t e : TypeId} {x y : Operand} {b j m : Nat} {cs cs' : List Value} {xs : List Int} (k : Nat) (hlx : (ints xs).length = m) (hz : (P.info? t).map (·.size) = some m) (hl : j + (ints xs).length ≤ cs.length) (hcs : wr cs j (ints xs) = cs') (h : TL P w0 F n ops Q l D L (H.set k (blkA b cs' e))) (hw : Want n D ops o L := by first | exact Want.plain rfl | exact Want.met rfl rfl rfl) (hd : o.dst = none := by exact rfl) (ho : o.op = .store t x y := by exact rfl) (hx : evL L x = some (.pointer (some ⟨b, j, none⟩)) := by exact rfl) (hy : evL L y = some (.agg (ints xs).toArray) := by exact rfl) (hk : Nat.blt k H.length = true := by exact rfl) (hH : H.getD k (fun _ => True) = blkA b cs e := by exact rfl) : TL P w0 F n ops Q (o :: l) D L H := TL.store (vs := ints xs) hw ho hd hx hy rfl (by rw [hlx]; exact hz) (ints_one _) hk hH hl hcs rfl h
end Leg
end

section
namespace Leg
open Go
section
variable {P : Program} {w0 : World} {F : Hl} {n : Nat} {ops : Array Oper} {Q : QQ} {D : List Deferred} {L : List (Nat × Value)} {H : List HP} {o : Oper} {l : List Oper} {d : Nat} {S : World → Prop}
def DoesD (P : Program) (f : FuncId) (args : Array Value) (u : FrameMode) (R : Hl → Prop) (H : List HP) (post : Ending → FrameMode → List HP → Prop) : Prop :=
 ∀ w F, R F → Sat H F w → CallsD P f args u w fun e u' w' => Same w w' ∧ ∃ H', Sat H' F w' ∧ post e u' H'
def postS (P : Program) (fn : Func) (c0 : Frame) (cs : List Frame) (post : Ending → FrameMode → List HP → Prop) (w0 : World) (F : Hl) (u' : FrameMode) : QQ := fun e a w =>
 bodyPostS P fn c0 cs (fun e u w' => Same w0 w' ∧ ∃ H', Sat H' F w' ∧ post e u H') e a ({ c0 with mode := u' } :: cs) w
theorem DoesD.recover2 {f : FuncId} {fn : Func} {id d0 d1 : Nat} {o0 o1 : Oper} {rest : Code} {vs : List Value} {u u' : FrameMode} {rv : Value} {R : Hl → Prop} {post : Ending → FrameMode → List HP → Prop}
 (hf : P.funcs[f]? = some fn) (hb : fn.body = some (.seq (.region id #[o0, o1] false) rest)) (hm : fn.ntmps = n) (hl : Nat.ble vs.length n = true)
 (h0 : o0.op = .call { callee := .builtin .recover, args := #[], argTypes := #[] }) (hg0 : o0.guard = none) (hd0 : o0.dst = some d0) (hn0 : Nat.blt d0 n = true)
 (h1 : o1.op = .assign (.tmp d0)) (hg1 : o1.guard = none) (hd1 : o1.dst = some d1) (hn1 : Nat.blt d1 n = true)
 (hrec : ∀ (c0 : Frame) (cs : List Frame), c0.mode = u → (match recoverD (c0 :: cs) with | some (v, cs') => (v, cs') | none => (Value.nilIface, c0 :: cs)) = (rv, { c0 with mode := u' } :: cs))
 (h : ∀ w0 F c0 cs, R F → TC P w0 F n rest (postS P fn c0 cs post w0 F u') [] ((d1, rv) :: (d0, rv) :: frame0 0 vs) H) : DoesD P f vs.toArray u R H post := by
 intro w F r m
 refine callsD_of_wpS hf hb fun c0 cs hu => ?_
 refine wpS_seq ?_
 refine wpS_region ?_
 subst hm
 have hn : vs.length ≤ fn.ntmps := Nat.le_of_ble_eq_true hl
 have fr : Fr fn.ntmps [] (frame0 0 vs) { tmps := vs.toArray ++ Array.replicate (fn.ntmps - vs.toArray.size) undef, defers := [] } := ⟨by simp; omega, rfl, fun t v e => by
  obtain ⟨_, h2⟩ := lk_frame0 vs 0 t v e
  exact getElem?_args _ _ _ _ (by simpa using h2)⟩
 generalize hA : ({ tmps := vs.toArray ++ Array.replicate (fn.ntmps - vs.toArray.size) undef, defers := [] } : Act) = A at fr ⊢
 have hr := hrec c0 cs hu
 have e0 : (execOp A.eval o0).run P w = .ok .recover w := by simp [execOp, h0, resolve, invoke, builtin]
 have main : (fun (a : Act) (cs' : List Frame) => wpOpsS P #[o0, o1] (Exit.thenS (rest.wpS P (bodyPostS P fn c0 cs fun e u w' => Same w w' ∧ ∃ H', Sat H' F w' ∧ post e u H')) (bodyPostS P fn c0 cs fun e u w' => Same w w' ∧ ∃ H', Sat H' F w' ∧ post e u H')) [1] a cs' w) (A.put (some d0) rv) ({ c0 with mode := u' } :: cs) := by
  have f1 := fr.put (lb hn0) rv
  have e1 : (execOp (A.put (some d0) rv).eval o1).run P w = .ok (.value rv) w := by
   have := f1.eval (x := .tmp d0) (v := rv) (by simp [evL, lk])
   simp [execOp, h1, this]
  simp only [wpOpsS, show (#[o0, o1] : Array Oper)[1]? = some o1 from rfl]
  rw [if_pos (by simp [Region.wanted, hg1])]
  rw [e1]
  simp only [Oper.upon, hd1]
  exact wpS_of_wp (h w F c0 cs r _ w (f1.put (lb hn1) rv) (Same.refl w) m)
 show wpOpsS P #[o0, o1] _ [0, 1] A (c0 :: cs) w
 rw [wpOpsS]
 simp only [show (#[o0, o1] : Array Oper)[0]? = some o0 from rfl]
 rw [if_pos (by simp [Region.wanted, hg0])]
 rw [e0]
 simp only [hd0]
 split at hr
 · rename_i v cs' hh
   simp only [hh]
   cases hr
   exact main
 · rename_i hh
   simp only [hh]
   injection hr with hr1 hr2
   subst hr1
   rw [hr2]
   exact main
theorem TE.retS0 {fn : Func} {c0 : Frame} {cs : List Frame} {post : Ending → FrameMode → List HP → Prop} {u' : FrameMode} (hr : fn.results = #[]) (h : post (.returned (.tuple #[])) u' H) : TE w0 F n (postS P fn c0 cs post w0 F u') .ret [] L H :=
 fun a w f s m => ⟨f.2.1, u', rfl, _, results_none hr _ _ _, s, H, m, h⟩
theorem TE.endS0 {fn : Func} {c0 : Frame} {cs : List Frame} {post : Ending → FrameMode → List HP → Prop} {u' : FrameMode} (hr : fn.results = #[]) (h : post (.returned (.tuple #[])) u' H) : TE w0 F n (postS P fn c0 cs post w0 F u') .normal [] L H :=
 fun a w f s m => ⟨f.2.1, u', rfl, _, results_none hr _ _ _, s, H, m, h⟩
theorem TL.deferFn {x : Operand} {fv : Fn} {cap : Array Value} (hw : Want n D ops o L) (ho : o.op = .defer { callee := .value x, args := #[], argTypes := #[] }) (hd : o.dst = none) (hx : evL L x = some (.func fv #[] cap))
 (h : TL P w0 F n ops Q l ({ target := .fn fv cap, args := #[] } :: D) L H) : TL P w0 F n ops Q (o :: l) D L H :=
 TL.step hw fun a w f s m => by
  unfold Oper.wp
  have r : (execOp a.eval o).run P w = .ok (.defer { target := .fn fv cap, args := #[] }) w := by simp [execOp, ho, resolve, f.eval hx, Deferred.ofValue]
  rw [r, Oper.upon_defer, hd]
  exact h _ w ⟨f.1, by simp [Act.put, f.2.1], f.2.2⟩ s m
theorem Does.bodyD {f : FuncId} {fn : Func} {c : Code} {vs : List Value} {R : Hl → Prop} {post : Ending → List HP → Prop}
 (hf : P.funcs[f]? = some fn) (hb : fn.body = some c) (hm : fn.ntmps = n) (hl : Nat.ble vs.length n = true)
 (h : ∀ w0 F, R F → TC P w0 F n c (bodyPostD P fn (postOf post w0 F)) [] (frame0 0 vs) H) : Does P f vs.toArray R H post := by
 intro w F r m
 subst hm
 have hn : vs.length ≤ fn.ntmps := Nat.le_of_ble_eq_true hl
 refine calls_of_wp_defers hf hb (h w F r _ w ⟨?_, rfl, fun t v e => ?_⟩ (Same.refl w) m)
 · simp; omega
 · obtain ⟨_, h2⟩ := lk_frame0 vs 0 t v e
   exact getElem?_args _ _ _ _ (by simpa using h2)
theorem leaves_one {fn : Func} {post : Ending → List HP → Prop} {f : FuncId} {cap : Array Value} {u : FrameMode} {R : Hl → Prop} {A B H' : List HP} {p : List HP → Prop} {t ty b e : Nat} {dt : TypeDesc} {a : Act} {w : World}
 (fr : Fr n [{ target := .fn (.func f) cap, args := #[] }] L a) (sm : Same w0 w) (m : Sat H F w) (hu : u ≠ .run) (hf : Named P f)
 (sp : DoesD P f cap u R A (fun e u' H => e = .returned (.tuple #[]) ∧ settle u' = .returning ∧ p H)) (hp : ∀ h, sep H h → sep (A ++ B) h) (hR : ∀ g, Dj g F → sep B g → R (jn g F))
 (hr : fn.results = #[.cell t ty]) (he : lk L t = some (.pointer (some ⟨b, 0, none⟩))) (ht : P.underlying ty = some dt) (hpl : plainT dt = true)
 (hpost : ∀ H1, p H1 → ∃ (cs : List Value) (v : Value), Rd (Sat (H1 ++ B) F) b (.cells cs.toArray e (0, 0)) ∧ cs[0]? = some v ∧ (∀ h, sep (H1 ++ B) h → sep H' h) ∧ post (.returned v) H') :
 Leaves P fn a.tmps (postOf post w0 F) a.defers u w := by
 rw [fr.2.1]
 refine leaves_cons (f := f) (args := cap) hu (by simp [invoke, run_callFunc hf]) ?_
 obtain ⟨g, dg, sb, m'⟩ := Sat.split (m.mono hp)
 refine (sp w _ (hR g dg sb) m').mono ?_
 rintro e u' w' ⟨s', H1, m1, rfl, h2, h3⟩
 obtain ⟨cs, v, q1, q2, q3, q4⟩ := hpost H1 h3
 have m2 := m1.merge dg sb
 show Leaves P fn a.tmps _ [] (settle u') w'
 rw [h2]
 have h1 : a.tmps.getD t undef = .pointer (some ⟨b, 0, none⟩) := fr.eval (x := .tmp t) he
 have h1' : a.tmps[t]?.getD undef = .pointer (some ⟨b, 0, none⟩) := by simpa using h1
 have hc' : w'.cell? ⟨b, 0, none⟩ = some v := by rw [cell_ofL (q1 w' m2)]; exact q2
 exact ⟨v, by simp [results, hr, h1', asAddr, loadVar, run_isAggL ht, hpl, load, Sem.run, hc'], sm.trans s', H', m2.mono q3, q4⟩
theorem TL.callv {x : Operand} {f : FuncId} {cap : List Value} {xs : Array Operand} {ts : Array TypeId} {vs : List Value} {R : Hl → Prop} {A B : List HP} {post : Ending → List HP → Prop} (hw : Want n D ops o L)
 (ho : o.op = .call { callee := .value x, args := xs, argTypes := ts }) (hd : o.dst = some d) (hn : Nat.blt d n = true) (hxf : evL L x = some (.func (.func f) #[] cap.toArray)) (hf : Named P f) (hx : evs L xs.toList = some vs)
 (sp : Does P f (vs ++ cap).toArray R A post) (hp : ∀ h, sep H h → sep (A ++ B) h) (hR : ∀ g, Dj g F → sep B g → R (jn g F))
 (hout : ∀ H', ¬ post .outgrown H')
 (hpan : ∀ c H', post (.panicked c) H' → TE w0 F n Q (.panic c) D L (H' ++ B))
 (hret : ∀ v H', post (.returned v) H' → TL P w0 F n ops Q l D ((d, v) :: L) (H' ++ B)) : TL P w0 F n ops Q (o :: l) D L H :=
 TL.callw hw (fun a w g => by
  have e : xs.map a.eval = vs.toArray := g.evals hx
  simp [execOp, ho, resolve, g.eval hxf, Deferred.ofValue, invoke, e, run_callFunc hf])
  sp hp hR (fun v H' q a g w s m => by rw [hd]; exact hret v H' q _ w (g.put (lb hn) v) s m) hpan hout
theorem TL.callRv {x : Operand} {f : FuncId} {cap : List Value} {xs : Array Operand} {ts : Array TypeId} {vs : List Value} {R : Hl → Prop} {A B : List HP} {p : Value → List HP → Prop} (hw : Want n D ops o L)
 (ho : o.op = .call { callee := .value x, args := xs, argTypes := ts }) (hd : o.dst = some d) (hn : Nat.blt d n = true) (hxf : evL L x = some (.func (.func f) #[] cap.toArray)) (hf : Named P f) (hx : evs L xs.toList = some vs)
 (sp : Does P f (vs ++ cap).toArray R A (Ret p)) (hp : ∀ h, sep H h → sep (A ++ B) h) (hR : ∀ g, Dj g F → sep B g → R (jn g F))
 (hret : ∀ v H', p v H' → TL P w0 F n ops Q l D ((d, v) :: L) (H' ++ B)) : TL P w0 F n ops Q (o :: l) D L H :=
 TL.callv hw ho hd hn hxf hf hx sp hp hR (fun _ h => h) (fun _ _ h => h.elim) hret
theorem TL.callPv {x : Operand} {f : FuncId} {cap : List Value} {xs : Array Operand} {ts : Array TypeId} {vs : List Value} {R : Hl → Prop} {A B : List HP} {p : Value → List HP → Prop} {q : List PanicEntry → List HP → Prop} (hw : Want n D ops o L)
 (ho : o.op = .call { callee := .value x, args := xs, argTypes := ts }) (hd : o.dst = some d) (hn : Nat.blt d n = true) (hxf : evL L x = some (.func (.func f) #[] cap.toArray)) (hf : Named P f) (hx : evs L xs.toList = some vs)
 (sp : Does P f (vs ++ cap).toArray R A (RetP p q)) (hp : ∀ h, sep H h → sep (A ++ B) h) (hR : ∀ g, Dj g F → sep B g → R (jn g F))
 (hpan : ∀ c H', q c H' → TE w0 F n Q (.panic c) D L (H' ++ B))
 (hret : ∀ v H', p v H' → TL P w0 F n ops Q l D ((d, v) :: L) (H' ++ B)) : TL P w0 F n ops Q (o :: l) D L H :=
 TL.callv hw ho hd hn hxf hf hx sp hp hR (fun _ h => h) hpan hret
theorem eqIn_ifaceNil {w : World} (k : Nat) {t u : TypeId} {v : Value} {ms : Array (String × TypeId)} (ht : P.underlying t = some (.interface ms)) : (Op.equalIn (k + 1) t (.iface u v) .nilIface).run P w = .ok false w := by
 simp [Op.equalIn, run_underlying ht]
theorem eqIn_nilNil {w : World} (k : Nat) {t : TypeId} {ms : Array (String × TypeId)} (ht : P.underlying t = some (.interface ms)) : (Op.equalIn (k + 1) t .nilIface .nilIface).run P w = .ok true w := by
 simp [Op.equalIn, run_underlying ht]
theorem eqIn_funcNil {w : World} (k : Nat) {t : TypeId} {f : Fn} {c e : Array Value} {ps rs : Array TypeId} {vr : Bool} (ht : P.underlying t = some (.func ps rs vr)) : (Op.equalIn (k + 1) t (.func f c e) .nilFunc).run P w = .ok false w := by
 simp [Op.equalIn, run_underlying ht]
theorem PV.ifaceNil {t t' u : TypeId} {x : Operand} {v : Value} {ms : Array (String × TypeId)} (ho : o.op = .binOp .eql t x (.const .nilIface) t') (ht : P.underlying t = some (.interface ms)) (hx : evL L x = some (.iface u v)) : PV P n D L S o (.bool false) :=
 PV.bin ho hx rfl fun w => by
  have := eqIn_ifaceNil (P := P) (w := w) 9999 (u := u) (v := v) ht
  simp [eqGuard, binOp, Op.equal, Op.maxDepth, this]
theorem PV.nilNil {t t' : TypeId} {x : Operand} {ms : Array (String × TypeId)} (ho : o.op = .binOp .eql t x (.const .nilIface) t') (ht : P.underlying t = some (.interface ms)) (hx : evL L x = some .nilIface) : PV P n D L S o (.bool true) :=
 PV.bin ho hx rfl fun w => by
  have := eqIn_nilNil (P := P) (w := w) 9999 ht
  simp [eqGuard, binOp, Op.equal, Op.maxDepth, this]
theorem PV.funcNeqNil {t t' : TypeId} {x : Operand} {f : Fn} {c e : Array Value} {ps rs : Array TypeId} {vr : Bool} (ho : o.op = .binOp .neq t x (.const .nilFunc) t') (ht : P.underlying t = some (.func ps rs vr)) (hx : evL L x = some (.func f c e)) : PV P n D L S o (.bool true) :=
 PV.bin ho hx rfl fun w => by
  have := eqIn_funcNil (P := P) (w := w) 9999 (f := f) (c := c) (e := e) ht
  simp [eqGuard, binOp, Op.equal, Op.maxDepth, this]
theorem PV.assert {t u : TypeId} {x : Operand} {v : Value} {dt : TypeDesc} (ho : o.op = .typeAssert x t u true) (ht : P.underlying u = some dt) (hc : (match dt with | .interface _ => false | _ => true) = true) (hx : evL L x = some (.iface u v)) : PV P n D L S o (.tuple #[v, .bool true]) := fun a w g _ => by
 cases dt <;> simp_all [execOp, g.eval hx, Instr.typeAssert, run_underlying ht]
theorem PV.extract {x : Operand} {i : Nat} {vs : List Value} {v : Value} (ho : o.op = .extract x i) (hx : evL L x = some (.tuple vs.toArray)) (hv : vs[i]? = some v) : PV P n D L S o v := fun a w g _ => by
 simp [execOp, ho, g.eval hx, Instr.extract, hv]
theorem TL.ownNil (e : Nat) (h : True → TL P w0 F n ops Q l D L (ownB (.slice none 0 0) [] e :: H)) : TL P w0 F n ops Q l D L H := fun a w f s m =>
 h trivial a w f s (m.mono fun g x => ⟨em, g, Dj.em' g, (em_jn g).symm, ⟨rfl, .inl ⟨rfl, rfl, rfl⟩⟩, x⟩)
def all (H : List HP) : HP := fun h => sep H h
theorem sep_all {H : List HP} {h : Hl} (s : sep H h) : sep [all H] h := ⟨h, em, Dj.em h, (jn_em h).symm, s, trivial⟩
theorem sep_single {p : HP} {h : Hl} (x : p h) : sep [p] h := ⟨h, em, Dj.em h, (jn_em h).symm, x, trivial⟩
theorem all_sep {H : List HP} {h : Hl} (s : sep [all H] h) : sep H h := by
 obtain ⟨h1, h2, d, rfl, a, _⟩ := s
 exact sep_more H a d
theorem sep_cons {p : HP} {H H' : List HP} {h : Hl} (s : sep (p :: H) h) (f : ∀ h, sep H h → sep H' h) : sep (p :: H') h := star_mono s (fun _ x => x) f
theorem Does.conv {f : FuncId} {args : Array Value} {R : Hl → Prop} {A A' : List HP} {post post' : Ending → List HP → Prop} (s : Does P f args R A post) (hA : ∀ h, sep A' h → sep A h)
 (hpost : ∀ e H F w, post e H → Sat H F w → ∃ H', Sat H' F w ∧ post' e H') : Does P f args R A' post' := fun w F r m =>
 (s w F r (m.mono hA)).mono fun e w' ⟨a, H', b, c⟩ => let ⟨H2, m2, c2⟩ := hpost e H' F w' c b; ⟨a, H2, m2, c2⟩
def Frm (F : Hl) (w : World) : Prop := ∀ b o, F b = some o → w.heap[b]? = some o
theorem Frm.of {w : World} (s : Sat H F w) : Frm F w := fun _ _ e => s.frame e
def SlLen (v : Value) (m : Nat) : Prop := ∃ a c, v = .slice a m c
theorem PV.lenV {t : TypeId} {e : TypeId} {x : Operand} {v : Value} {m : Nat} (ho : o.op = .call { callee := .builtin .len, args := #[x], argTypes := #[t] }) (ht : P.underlying t = some (.slice e)) (hx : evL L x = some v) (hv : SlLen v m) :
 PV P n D L S o (.int .i64 m) := fun b w g _ => by
 obtain ⟨a, c, rfl⟩ := hv
 simp [execOp, ho, resolve, g.eval hx, invoke, builtin, Builtin.len_, run_underlying ht, goInt]
end
end Leg
end
section
namespace Leg
open Go
theorem PS {P : Program} {w0 : World} {F : Hl} {n : Nat} {ops : Array Oper} {Q : QQ} {D : List Deferred} {L : List (Nat × Value)} {H : List HP} {d : Nat} {o : Oper} {l : List Oper} {v : Value} (h : TL P w0 F n ops Q l D ((d, v) :: L) H) (hw : Want n D ops o L := by first | exact Want.plain rfl | exact Want.met rfl rfl rfl) (hd : o.dst = some d := by exact rfl) (hn : Nat.blt d n = true := by exact rfl) (h1 : PV P n D L (Sat H F) o v := by first | exact PV.move rfl rfl | exact PV.assign rfl rfl | exact PV.nilCheck rfl rfl | exact PV.eql rfl rfl rfl | exact PV.pick rfl rfl rfl | exact PV.lss rfl rfl rfl | exact PV.neq rfl rfl rfl | exact PV.gtr rfl rfl rfl | exact PV.geq rfl rfl rfl | exact PV.leq rfl rfl rfl) : TL P w0 F n ops Q (o :: l) D L H := TL.v hw hd hn h1 h
theorem PD {P : Program} {w0 : World} {F : Hl} {n : Nat} {ops : Array Oper} {Q : QQ} {D : List Deferred} {L : List (Nat × Value)} {H : List HP} {S : World → Prop} {d fuel : Nat} {listed : Array Bool} {o : Oper} {v : Value} (i : Nat) (h : TD P w0 F n ops Q S fuel (listed.setIfInBounds i true) D ((d, v) :: L) H) (hi : ops[i]? = some o := by exact rfl) (hw : Want n D ops o L := by first | exact Want.plain rfl | exact Want.met rfl rfl rfl) (hd : o.dst = some d := by exact rfl) (hn : Nat.blt d n = true := by exact rfl) (h1 : PV P n D L S o v := by first | exact PV.move rfl rfl | exact PV.assign rfl rfl | exact PV.nilCheck rfl rfl | exact PV.eql rfl rfl rfl | exact PV.pick rfl rfl rfl | exact PV.lss rfl rfl rfl | exact PV.neq rfl rfl rfl | exact PV.gtr rfl rfl rfl | exact PV.geq rfl rfl rfl | exact PV.leq rfl rfl rfl) (hs : (Region.noSelect ops && Region.free .any ops listed i && (Region.ready .any ops listed).contains i) = true := by kernel_rfl) (hQ : ∀ c a v w, Q (.panic c) (a.put o.dst v) w → Q (.panic c) a w := by exact fun _ _ _ _ h => h) : TD P w0 F n ops Q S (fuel + 1) listed D L H := by
  rw [Bool.and_eq_true, Bool.and_eq_true] at hs
  exact TD.take hi hs.1.1 hs.1.2 hs.2 hQ hw hd hn h1 h
theorem FA {P : Program} {w0 : World} {F : Hl} {n : Nat} {ops : Array Oper} {Q : QQ} {D : List Deferred} {L : List (Nat × Value)} {H : List HP} {d : Nat} {o : Oper} {l : List Oper} {t ft : TypeId} {x : Operand} {i b j m : Nat} {fs : Array Field} {f : Field} (r : Nat) (ht : P.underlying t = some (.struct fs)) (hz : (P.info? ft).map (·.size) = some (m + 1)) (h : TL P w0 F n ops Q l D ((d, .pointer (some ⟨b, r, none⟩)) :: L) H) (hw : Want n D ops o L := by first | exact Want.plain rfl | exact Want.met rfl rfl rfl) (hd : o.dst = some d := by exact rfl) (hn : Nat.blt d n = true := by exact rfl) (ho : o.op = .fieldAddr t x i := by exact rfl) (hf : fs[i]? = some f := by exact rfl) (hty : f.type = ft := by exact rfl) (hx : evL L x = some (.pointer (some ⟨b, j, none⟩)) := by exact rfl) (hr : j + f.offset = r := by exact rfl) : TL P w0 F n ops Q (o :: l) D L H := by
  subst hty
  exact TL.v hw hd hn (PV.fieldAddr ho ht hf hz hx hr) h
theorem FD {P : Program} {w0 : World} {F : Hl} {n : Nat} {ops : Array Oper} {Q : QQ} {D : List Deferred} {L : List (Nat × Value)} {H : List HP} {S : World → Prop} {d fuel : Nat} {listed : Array Bool} {o : Oper} {t ft : TypeId} {x : Operand} {i b j m : Nat} {fs : Array Field} {f : Field} (k r : Nat) (ht : P.underlying t = some (.struct fs)) (hz : (P.info? ft).map (·.size) = some (m + 1)) (h : TD P w0 F n ops Q S fuel (listed.setIfInBounds k true) D ((d, .pointer (some ⟨b, r, none⟩)) :: L) H) (hi : ops[k]? = some o := by exact rfl) (hw : Want n D ops o L := by first | exact Want.plain rfl | exact Want.met rfl rfl rfl) (hd : o.dst = some d := by exact rfl) (hn : Nat.blt d n = true := by exact rfl) (ho : o.op = .fieldAddr t x i := by exact rfl) (hf : fs[i]? = some f := by exact rfl) (hty : f.type = ft := by exact rfl) (hx : evL L x = some (.pointer (some ⟨b, j, none⟩)) := by exact rfl) (hr : j + f.offset = r := by exact rfl) (hs : (Region.noSelect ops && Region.free .any ops listed k && (Region.ready .any ops listed).contains k) = true := by kernel_rfl) (hQ : ∀ c a v w, Q (.panic c) (a.put o.dst v) w → Q (.panic c) a w := by exact fun _ _ _ _ h => h) : TD P w0 F n ops Q S (fuel + 1) listed D L H := by
  subst hty
  rw [Bool.and_eq_true, Bool.and_eq_true] at hs
  exact TD.take hi hs.1.1 hs.1.2 hs.2 hQ hw hd hn (PV.fieldAddr ho ht hf hz hx hr) h
theorem RO {F : Hl} {H : List HP} {b : Nat} {cs : List Value} {e : TypeId} (k : Nat) (hk : Nat.blt k H.length = true := by exact rfl) (hH : H.getD k (fun _ => True) = blkA b cs e := by exact rfl) : Rd (Sat H F) b (.cells cs.toArray e (0, 0)) := Rd.own k hk hH
theorem UT {P : Program} {w0 : World} {F : Hl} {n : Nat} {ops : Array Oper} {Q : QQ} {D : List Deferred} {L : List (Nat × Value)} {H : List HP} {d : Nat} {o : Oper} {l : List Oper} {j d' : Nat} (h : TL P w0 F n ops Q l D ((d, undef) :: L) H) (hg : o.guard = some (j, false) := by exact rfl) (hj : (ops[j]?).bind (·.dst) = some d' := by exact rfl) (e : lk L d' = some (.bool true) := by exact rfl) (hd : o.dst = some d := by exact rfl) (hn : Nat.blt d n = true := by exact rfl) : TL P w0 F n ops Q (o :: l) D L H := TL.unmet (b := true) hg hj e hd (lb hn) h
theorem UF {P : Program} {w0 : World} {F : Hl} {n : Nat} {ops : Array Oper} {Q : QQ} {D : List Deferred} {L : List (Nat × Value)} {H : List HP} {d : Nat} {o : Oper} {l : List Oper} {j d' : Nat} (h : TL P w0 F n ops Q l D ((d, undef) :: L) H) (hg : o.guard = some (j, true) := by exact rfl) (hj : (ops[j]?).bind (·.dst) = some d' := by exact rfl) (e : lk L d' = some (.bool false) := by exact rfl) (hd : o.dst = some d := by exact rfl) (hn : Nat.blt d n = true := by exact rfl) : TL P w0 F n ops Q (o :: l) D L H := TL.unmet (b := false) hg hj e hd (lb hn) h
theorem NT {P : Program} {w0 : World} {F : Hl} {n : Nat} {ops : Array Oper} {Q : QQ} {D : List Deferred} {L : List (Nat × Value)} {H : List HP} {S : World → Prop} {d fuel j e : Nat} {b : Bool} {listed : Array Bool} {o : Oper} (i : Nat) (h : TD P w0 F n ops Q S fuel (listed.setIfInBounds i true) D ((d, undef) :: L) H) (hi : ops[i]? = some o := by exact rfl) (hg : o.guard = some (j, b) := by exact rfl) (hj : (ops[j]?).bind (·.dst) = some e := by exact rfl) (he : lk L e = some (.bool (!b)) := by exact rfl) (hd : o.dst = some d := by exact rfl) (hn : Nat.blt d n = true := by exact rfl) (hs : (Region.noSelect ops && Region.free .any ops listed i && (Region.ready .any ops listed).contains i) = true := by kernel_rfl) (hQ : ∀ c a v w, Q (.panic c) (a.put o.dst v) w → Q (.panic c) a w := by exact fun _ _ _ _ h => h) : TD P w0 F n ops Q S (fuel + 1) listed D L H := by
  rw [Bool.and_eq_true, Bool.and_eq_true] at hs
  exact TD.takeNot (b := !b) hi hs.1.1 hs.1.2 hs.2 hQ (by rw [Bool.not_not]; exact hg) hj he hd hn h
theorem LB {l : List Value} {j n : Nat} (h : l.length = n) (hj : Nat.blt j n = true := by exact rfl) : j < l.length := h ▸ lb hj
theorem LC {l v : List Value} {j n m : Nat} (h : l.length = n) (g : v.length = m) (hj : Nat.ble (j + m) n = true := by exact rfl) : j + v.length ≤ l.length := by rw [h, g]; exact Nat.le_of_ble_eq_true hj
theorem WK {w0 : World} {F : Hl} {n : Nat} {Q : QQ} {D : List Deferred} {L : List (Nat × Value)} {H : List HP} {e : Exit} (is : List Nat) (h : TE w0 F n Q e D L ((selR H is).take is.length)) (hk : okR H.length is = true := by exact rfl) : TE w0 F n Q e D L H := TE.weak (Sub.refl _) (fun _ s => sep_keep is hk s) h
theorem SM {H : List HP} (is : List Nat) (hk : okR H.length is = true := by exact rfl) : ∀ h, sep H h → sep (selR H is) h := fun _ s => sep_selR is hk s
theorem CR {P : Program} {w0 : World} {F : Hl} {n : Nat} {ops : Array Oper} {Q : QQ} {D : List Deferred} {L : List (Nat × Value)} {H : List HP} {d : Nat} {o : Oper} {l : List Oper} {f : FuncId} {xs : Array Operand} {ts : Array TypeId} {vs : List Value} {A B : List HP} {p : Value → List HP → Prop} (hf : Named P f) (sp : Does P f vs.toArray (fun _ => True) A (Ret p)) (hp : ∀ h, sep H h → sep (A ++ B) h) (hret : ∀ v H', p v H' → TL P w0 F n ops Q l D ((d, v) :: L) (H' ++ B)) (hw : Want n D ops o L := by first | exact Want.plain rfl | exact Want.met rfl rfl rfl) (hd : o.dst = some d := by exact rfl) (hn : Nat.blt d n = true := by exact rfl) (ho : o.op = .call { callee := .value (.func f), args := xs, argTypes := ts } := by exact rfl) (hx : evs L xs.toList = some vs := by exact rfl) : TL P w0 F n ops Q (o :: l) D L H := TL.callR hw ho hd hn hf hx sp hp (fun _ _ _ => trivial) hret
theorem CQ {P : Program} {w0 : World} {F : Hl} {n : Nat} {ops : Array Oper} {Q : QQ} {D : List Deferred} {L : List (Nat × Value)} {H : List HP} {d : Nat} {o : Oper} {l : List Oper} {f : FuncId} {xs : Array Operand} {ts : Array TypeId} {vs : List Value} {R : Hl → Prop} {A B : List HP} {p : Value → List HP → Prop} (hf : Named P f) (sp : Does P f vs.toArray R A (Ret p)) (hp : ∀ h, sep H h → sep (A ++ B) h) (hR : ∀ g, Dj g F → sep B g → R (jn g F)) (hret : ∀ v H', p v H' → TL P w0 F n ops Q l D ((d, v) :: L) (H' ++ B)) (hw : Want n D ops o L := by first | exact Want.plain rfl | exact Want.met rfl rfl rfl) (hd : o.dst = some d := by exact rfl) (hn : Nat.blt d n = true := by exact rfl) (ho : o.op = .call { callee := .value (.func f), args := xs, argTypes := ts } := by exact rfl) (hx : evs L xs.toList = some vs := by exact rfl) : TL P w0 F n ops Q (o :: l) D L H := TL.callR hw ho hd hn hf hx sp hp hR hret
theorem D0 {P : Program} {w0 : World} {F : Hl} {n : Nat} {Q : QQ} {D : List Deferred} {L : List (Nat × Value)} {H : List HP} {id m : Nat} {l : List Oper} (hm : P.follows .mixedOrders = true) (h : TD P w0 F n l.toArray Q (fun w => Frm F w ∧ True) m (Array.replicate m false) D L H) (hl : l.toArray.size = m := by exact rfl) : TC P w0 F n (.region id l.toArray true) Q D L H := TC.draw _ hm hl (fun _ s => ⟨Frm.of s, trivial⟩) h
theorem D1 {P : Program} {w0 : World} {F : Hl} {n : Nat} {Q : QQ} {D : List Deferred} {L : List (Nat × Value)} {H : List HP} {id m : Nat} {l : List Oper} {b : Nat} {cs : List Value} {e : TypeId} (k : Nat) (hm : P.follows .mixedOrders = true) (h : TD P w0 F n l.toArray Q (fun w => Frm F w ∧ w.heap[b]? = some (.cells cs.toArray e (0, 0)) ∧ True) m (Array.replicate m false) D L H) (hl : l.toArray.size = m := by exact rfl) (hk : Nat.blt k H.length = true := by exact rfl) (hH : H.getD k (fun _ => True) = blkA b cs e := by exact rfl) : TC P w0 F n (.region id l.toArray true) Q D L H := TC.draw _ hm hl (fun _ s => ⟨Frm.of s, s.block k (lb hk) hH, trivial⟩) h
theorem D2 {P : Program} {w0 : World} {F : Hl} {n : Nat} {Q : QQ} {D : List Deferred} {L : List (Nat × Value)} {H : List HP} {id m : Nat} {l : List Oper} {b b' : Nat} {cs cs' : List Value} {e e' : TypeId} (k k' : Nat) (hm : P.follows .mixedOrders = true) (h : TD P w0 F n l.toArray Q (fun w => Frm F w ∧ w.heap[b]? = some (.cells cs.toArray e (0, 0)) ∧ w.heap[b']? = some (.cells cs'.toArray e' (0, 0)) ∧ True) m (Array.replicate m false) D L H) (hl : l.toArray.size = m := by exact rfl) (hk : Nat.blt k H.length = true := by exact rfl) (hH : H.getD k (fun _ => True) = blkA b cs e := by exact rfl) (hk' : Nat.blt k' H.length = true := by exact rfl) (hH' : H.getD k' (fun _ => True) = blkA b' cs' e' := by exact rfl) : TC P w0 F n (.region id l.toArray true) Q D L H := TC.draw _ hm hl (fun _ s => ⟨Frm.of s, s.block k (lb hk) hH, s.block k' (lb hk') hH', trivial⟩) h
theorem AL {P : Program} {w0 : World} {F : Hl} {n : Nat} {ops : Array Oper} {Q : QQ} {D : List Deferred} {L : List (Nat × Value)} {H : List HP} {S : World → Prop} {fuel : Nat} {listed : Array Bool} {o : Oper} (i : Nat) (h : TL P w0 F n ops (Exit.then (Kd P ops Q S fuel listed i) Q) [o] D L H) (hr : Region.ready .any ops listed = [i] := by kernel_rfl) (hi : ops[i]? = some o := by exact rfl) : TD P w0 F n ops Q S (fuel + 1) listed D L H := TD.all [i] hr rfl (AllT.cons hi h AllT.nil)
theorem E0 {P : Program} {w0 : World} {F : Hl} {n : Nat} {ops : Array Oper} {Q : QQ} {D : List Deferred} {L : List (Nat × Value)} {H : List HP} {fuel i : Nat} {listed : Array Bool} (h : TD P w0 F n ops Q (fun w => Frm F w ∧ True) fuel (listed.setIfInBounds i true) D L H) : TE w0 F n (Exit.then (Kd P ops Q (fun w => Frm F w ∧ True) fuel listed i) Q) .normal D L H := TE.draw (fun _ s => ⟨Frm.of s, trivial⟩) h
theorem E1 {P : Program} {w0 : World} {F : Hl} {n : Nat} {ops : Array Oper} {Q : QQ} {D : List Deferred} {L : List (Nat × Value)} {H : List HP} {fuel i : Nat} {listed : Array Bool} {b : Nat} {cs : List Value} {e : TypeId} (k : Nat) (h : TD P w0 F n ops Q (fun w => Frm F w ∧ w.heap[b]? = some (.cells cs.toArray e (0, 0)) ∧ True) fuel (listed.setIfInBounds i true) D L H) (hk : Nat.blt k H.length = true := by exact rfl) (hH : H.getD k (fun _ => True) = blkA b cs e := by exact rfl) : TE w0 F n (Exit.then (Kd P ops Q (fun w => Frm F w ∧ w.heap[b]? = some (.cells cs.toArray e (0, 0)) ∧ True) fuel listed i) Q) .normal D L H := TE.draw (fun _ s => ⟨Frm.of s, s.block k (lb hk) hH, trivial⟩) h
theorem E2 {P : Program} {w0 : World} {F : Hl} {n : Nat} {ops : Array Oper} {Q : QQ} {D : List Deferred} {L : List (Nat × Value)} {H : List HP} {fuel i : Nat} {listed : Array Bool} {b b' : Nat} {cs cs' : List Value} {e e' : TypeId} (k k' : Nat) (h : TD P w0 F n ops Q (fun w => Frm F w ∧ w.heap[b]? = some (.cells cs.toArray e (0, 0)) ∧ w.heap[b']? = some (.cells cs'.toArray e' (0, 0)) ∧ True) fuel (listed.setIfInBounds i true) D L H) (hk : Nat.blt k H.length = true := by exact rfl) (hH : H.getD k (fun _ => True) = blkA b cs e := by exact rfl) (hk' : Nat.blt k' H.length = true := by exact rfl) (hH' : H.getD k' (fun _ => True) = blkA b' cs' e' := by exact rfl) : TE w0 F n (Exit.then (Kd P ops Q (fun w => Frm F w ∧ w.heap[b]? = some (.cells cs.toArray e (0, 0)) ∧ w.heap[b']? = some (.cells cs'.toArray e' (0, 0)) ∧ True) fuel listed i) Q) .normal D L H := TE.draw (fun _ s => ⟨Frm.of s, s.block k (lb hk) hH, s.block k' (lb hk') hH', trivial⟩) h
theorem S0 {P : Program} {w0 : World} {F : Hl} {n : Nat} {ops : Array Oper} {Q : QQ} {D : List Deferred} {L : List (Nat × Value)} {H : List HP} {o : Oper} {l : List Oper} {t e : TypeId} {x y : Operand} {b j : Nat} {cs cs' : List Value} {v : Value} (k : Nat) (hs : (P.info? t).map (·.size) = some 1) (h : TL P w0 F n ops Q l D L (H.set k (blkA b cs' e))) (hw : Want n D ops o L := by first | exact Want.plain rfl | exact Want.met rfl rfl rfl) (hd : o.dst = none := by exact rfl) (ho : o.op = .store t x y := by exact rfl) (hx : evL L x = some (.pointer (some ⟨b, j, none⟩)) := by exact rfl) (hy : evL L y = some v := by exact rfl) (h1 : v.oneCell' = true := by exact rfl) (hk : Nat.blt k H.length = true := by exact rfl) (hH : H.getD k (fun _ => True) = blkA b cs e := by exact rfl) (hl : Nat.blt j cs.length = true := by exact rfl) (hcs : cs.set j v = cs' := by exact rfl) : TL P w0 F n ops Q (o :: l) D L H := TL.store1 hw ho hd hx hy h1 hs hk hH (lb hl) hcs rfl h
theorem LA {P : Program} {w0 : World} {F : Hl} {n : Nat} {ops : Array Oper} {Q : QQ} {D : List Deferred} {L : List (Nat × Value)} {H : List HP} {d : Nat} {o : Oper} {l : List Oper} {t e : TypeId} {x : Operand} {dt : TypeDesc} {b j : Nat} {cs : List Value} {v : Value} (k : Nat) (ht : P.underlying t = some dt) (h : TL P w0 F n ops Q l D ((d, v) :: L) H) (hw : Want n D ops o L := by first | exact Want.plain rfl | exact Want.met rfl rfl rfl) (hd : o.dst = some d := by exact rfl) (hn : Nat.blt d n = true := by exact rfl) (ho : o.op = .load t x := by exact rfl) (hp : plainT dt = true := by exact rfl) (hx : evL L x = some (.pointer (some ⟨b, j, none⟩)) := by exact rfl) (hk : Nat.blt k H.length = true := by exact rfl) (hH : H.getD k (fun _ => True) = blkA b cs e := by exact rfl) (hc : cs[j]? = some v := by exact rfl) : TL P w0 F n ops Q (o :: l) D L H := TL.v hw hd hn (PV.load1 ho ht hp hx (Rd.own k hk hH) hc) h
theorem CE {P : Program} {w0 : World} {F : Hl} {n : Nat} {ops : Array Oper} {Q : QQ} {D : List Deferred} {L : List (Nat × Value)} {H : List HP} {d : Nat} {o : Oper} {l : List Oper} {f : FuncId} {xs : Array Operand} {ts : Array TypeId} {vs : List Value} {A B G : List HP} {v : Value} (hf : Named P f) (sp : Does P f vs.toArray (fun _ => True) A (Ret fun r H' => r = v ∧ H' = G)) (hp : ∀ h, sep H h → sep (A ++ B) h) (h : TL P w0 F n ops Q l D ((d, v) :: L) (G ++ B)) (hw : Want n D ops o L := by first | exact Want.plain rfl | exact Want.met rfl rfl rfl) (hd : o.dst = some d := by exact rfl) (hn : Nat.blt d n = true := by exact rfl) (ho : o.op = .call { callee := .value (.func f), args := xs, argTypes := ts } := by exact rfl) (hx : evs L xs.toList = some vs := by exact rfl) : TL P w0 F n ops Q (o :: l) D L H := TL.callR hw ho hd hn hf hx sp hp (fun _ _ _ => trivial) (fun _ _ e => by obtain ⟨rfl, rfl⟩ := e; exact h)
theorem CF {P : Program} {w0 : World} {F : Hl} {n : Nat} {ops : Array Oper} {Q : QQ} {D : List Deferred} {L : List (Nat × Value)} {H : List HP} {d : Nat} {o : Oper} {l : List Oper} {f : FuncId} {xs : Array Operand} {ts : Array TypeId} {vs : List Value} {R : Hl → Prop} {A B G : List HP} {v : Value} (hf : Named P f) (sp : Does P f vs.toArray R A (Ret fun r H' => r = v ∧ H' = G)) (hp : ∀ h, sep H h → sep (A ++ B) h) (hR : ∀ g, Dj g F → sep B g → R (jn g F)) (h : TL P w0 F n ops Q l D ((d, v) :: L) (G ++ B)) (hw : Want n D ops o L := by first | exact Want.plain rfl | exact Want.met rfl rfl rfl) (hd : o.dst = some d := by exact rfl) (hn : Nat.blt d n = true := by exact rfl) (ho : o.op = .call { callee := .value (.func f), args := xs, argTypes := ts } := by exact rfl) (hx : evs L xs.toList = some vs := by exact rfl) : TL P w0 F n ops Q (o :: l) D L H := TL.callR hw ho hd hn hf hx sp hp hR (fun _ _ e => by obtain ⟨rfl, rfl⟩ := e; exact h)
theorem CZ {P : Program} {w0 : World} {F : Hl} {n : Nat} {ops : Array Oper} {Q : QQ} {D : List Deferred} {L : List (Nat × Value)} {H : List HP} {d : Nat} {o : Oper} {l : List Oper} {f : FuncId} {xs : Array Operand} {ts : Array TypeId} {vs : List Value} {A B G : List HP} (hf : Named P f) (sp : Does P f vs.toArray (fun _ => True) A (Ret fun _ H' => H' = G)) (hp : ∀ h, sep H h → sep (A ++ B) h) (h : ∀ v, TL P w0 F n ops Q l D ((d, v) :: L) (G ++ B)) (hw : Want n D ops o L := by first | exact Want.plain rfl | exact Want.met rfl rfl rfl) (hd : o.dst = some d := by exact rfl) (hn : Nat.blt d n = true := by exact rfl) (ho : o.op = .call { callee := .value (.func f), args := xs, argTypes := ts } := by exact rfl) (hx : evs L xs.toList = some vs := by exact rfl) : TL P w0 F n ops Q (o :: l) D L H := TL.callR hw ho hd hn hf hx sp hp (fun _ _ _ => trivial) (fun v _ e => by obtain rfl := e; exact h v)
theorem XA {P : Program} {w0 : World} {F : Hl} {n : Nat} {ops : Array Oper} {Q : QQ} {D : List Deferred} {L : List (Nat × Value)} {H : List HP} {d : Nat} {o : Oper} {l : List Oper} {t : TypeId} {z : Value} (hz : (P.info? t).map (·.zero) = some (some z)) (h : ∀ b, TL P w0 F n ops Q l D ((d, .pointer (some ⟨b, 0, none⟩)) :: L) (obj b (.cells z.cells t) :: H)) (hw : Want n D ops o L := by first | exact Want.plain rfl | exact Want.met rfl rfl rfl) (hd : o.dst = some d := by exact rfl) (hn : Nat.blt d n = true := by exact rfl) (ho : o.op = .alloc t := by exact rfl) : TL P w0 F n ops Q (o :: l) D L H := TL.alloc hw ho hd hn hz h
theorem XB {P : Program} {w0 : World} {F : Hl} {n : Nat} {ops : Array Oper} {Q : QQ} {D : List Deferred} {L : List (Nat × Value)} {H : List HP} {d : Nat} {o : Oper} {l : List Oper} {t : TypeId} {x : Operand} {v : Value} (h : ∀ b, TL P w0 F n ops Q l D ((d, .pointer (some ⟨b, 0, none⟩)) :: L) (obj b (.cells v.cells t) :: H)) (hw : Want n D ops o L := by first | exact Want.plain rfl | exact Want.met rfl rfl rfl) (hd : o.dst = some d := by exact rfl) (hn : Nat.blt d n = true := by exact rfl) (ho : o.op = .box t x := by exact rfl) (hx : evL L x = some v := by exact rfl) : TL P w0 F n ops Q (o :: l) D L H := TL.box hw ho hd hn hx h
theorem DN {P : Program} {w0 : World} {F : Hl} {n : Nat} {ops : Array Oper} {Q : QQ} {D : List Deferred} {L : List (Nat × Value)} {H : List HP} {S : World → Prop} {fuel : Nat} {listed : Array Bool} (h : TE w0 F n Q .normal D L H) (hr : Region.ready .any ops listed = [] := by kernel_rfl) : TD P w0 F n ops Q S fuel listed D L H := TD.done hr h
theorem SB {L L' : List (Nat × Value)} (h : Sub L L' := by repeat (first | exact Sub.nil _ | refine Sub.r ?_ | refine Sub.cons rfl (by simp) ?_ | refine Sub.cons rfl (by congr 1) ?_)) : Sub L L' := h
theorem CY {P : Program} {w0 : World} {F : Hl} {n : Nat} {Q : QQ} {D : List Deferred} {L : List (Nat × Value)} {H : List HP} {c : Operand} {x y : Code} (h : TC P w0 F n x Q D L H) (e : evL L c = some (.bool true) := by exact rfl) : TC P w0 F n (.cond c x y) Q D L H := TC.yes e h
theorem CN {P : Program} {w0 : World} {F : Hl} {n : Nat} {Q : QQ} {D : List Deferred} {L : List (Nat × Value)} {H : List HP} {c : Operand} {x y : Code} (h : TC P w0 F n y Q D L H) (e : evL L c = some (.bool false) := by exact rfl) : TC P w0 F n (.cond c x y) Q D L H := TC.no e h
theorem CX {P : Program} {w0 : World} {F : Hl} {n : Nat} {Q : QQ} {D : List Deferred} {L : List (Nat × Value)} {H : List HP} {y : Code} {K : Act → World → Prop} (hK : Hold P y Q K) (h : TC P w0 F n y Q D L H) : TC P w0 F n .skip (Exit.then K Q) D L H := TC.skip (TE.next hK h)
end Leg
end

section
namespace Codec
open Go Leg Api
def parse : Nat → Nat → List UInt8 → Option (Nat × List UInt8)
 | _, _, [] => none
 | k, acc, c :: cs =>
  if k = 9 then none
  else if 128 ≤ c.toNat then parse (k + 1) (acc + c.toNat % 128 * 2 ^ (7 * k)) cs
  else if c.toNat = 0 ∧ 0 < k then none
  else some (acc + c.toNat % 128 * 2 ^ (7 * k), cs)
theorem drop_getD (bs : List UInt8) (k : Nat) (h : k < bs.length) : bs.drop k = bs.getD k 0 :: bs.drop (k + 1) := by
 rw [List.drop_eq_getElem_cons h]; simp [List.getD_eq_getElem?_getD, List.getElem?_eq_getElem h]
theorem and127 (c : Nat) (h : c < 256) : andI .u8 (c : Int) 127 = ((c % 128 : Nat) : Int) := by
 have e : (BitVec.ofInt 8 (c : Int) &&& BitVec.ofInt 8 127).toNat = c % 128 := by
  rw [BitVec.toNat_and]
  have h1 : (BitVec.ofInt 8 (c : Int)).toNat = c := by simp; omega
  have h2 : (BitVec.ofInt 8 127).toNat = 2 ^ 7 - 1 := by decide
  rw [h1, h2, Nat.and_two_pow_sub_one_eq_mod]
 show IntKind.u8.wrap ((BitVec.ofInt 8 (c : Int) &&& BitVec.ofInt 8 127).toNat : Int) = _
 rw [e]
 exact wrap_u8 (by omega) (by omega)
theorem pow7 (k : Nat) (h : k ≤ 8) : 2 ^ (7 * k) ≤ 2 ^ 56 := Nat.pow_le_pow_right (by decide) (by omega)
theorem shl7 (m k : Nat) (hm : m < 128) (hk : k ≤ 8) : IntKind.i64.wrap ((m : Int) * 2 ^ min (7 * (k : Int)).toNat IntKind.i64.bits) = ((m * 2 ^ (7 * k) : Nat) : Int) := by
 have e : min (7 * (k : Int)).toNat IntKind.i64.bits = 7 * k := by simp only [IntKind.bits]; omega
 have hp := pow7 k hk
 have h2 : m * 2 ^ (7 * k) ≤ 127 * 2 ^ 56 := Nat.mul_le_mul (by omega) hp
 have e2 : ((m : Int) * 2 ^ (7 * k)) = ((m * 2 ^ (7 * k) : Nat) : Int) := by simp
 rw [e, e2]
 exact wrap_i64 (by omega) (by omega)
theorem or_add (a m k : Nat) (ha : a < 2 ^ (7 * k)) (hm : m < 128) (hk : k ≤ 8) : orI .i64 (a : Int) ((m * 2 ^ (7 * k) : Nat) : Int) = ((a + m * 2 ^ (7 * k) : Nat) : Int) := by
 have hp := pow7 k hk
 have h2 : m * 2 ^ (7 * k) ≤ 127 * 2 ^ 56 := Nat.mul_le_mul (by omega) hp
 have hs : a + m * 2 ^ (7 * k) < 2 ^ 63 := by omega
 have h1 : (BitVec.ofInt 64 (a : Int)).toNat = a := by simp; omega
 have h3 : (BitVec.ofInt 64 ((m * 2 ^ (7 * k) : Nat) : Int)).toNat = m * 2 ^ (7 * k) := by rw [BitVec.toNat_ofInt]; omega
 have e : (BitVec.ofInt 64 (a : Int) ||| BitVec.ofInt 64 ((m * 2 ^ (7 * k) : Nat) : Int)).toNat = a + m * 2 ^ (7 * k) := by
  rw [BitVec.toNat_or, h1, h3, Nat.or_comm, ← Nat.shiftLeft_eq, ← Nat.shiftLeft_add_eq_or_of_lt ha, Nat.add_comm]
 show IntKind.i64.wrap ((BitVec.ofInt 64 (a : Int) ||| BitVec.ofInt 64 ((m * 2 ^ (7 * k) : Nat) : Int)).toNat : Int) = _
 rw [e]
 exact wrap_i64 (by omega) (by omega)
theorem grow7 (a m k : Nat) (ha : a < 2 ^ (7 * k)) (hm : m < 128) : a + m * 2 ^ (7 * k) < 2 ^ (7 * (k + 1)) := by
 have : 2 ^ (7 * (k + 1)) = 128 * 2 ^ (7 * k) := by rw [Nat.mul_add, Nat.pow_add]; omega
 have : m * 2 ^ (7 * k) ≤ 127 * 2 ^ (7 * k) := Nat.mul_le_mul_right _ (by omega)
 omega
def cutB : Value → Nat → Value
 | .slice (some a) n c, k => .slice (some (cutLo a c k)) (n - k) (c - k)
 | v, _ => v
def IsB (v : Value) (bs : List UInt8) (F : Hl) : Prop :=
 (v = .slice none 0 0 ∧ bs = []) ∨ ∃ b off cap cs T z, v = .slice (some ⟨b, off, none⟩) bs.length cap ∧ bs.length ≤ cap ∧ cap ≤ 9223372036854775807 ∧
  F b = some (.cells (List.toArray cs) T z) ∧ ∀ j, j < bs.length → cs[off + j]? = some (.int .u8 ((bs.getD j 0).toNat : Nat))
theorem IsB.cut {v : Value} {bs : List UInt8} {F : Hl} (h : IsB v bs F) (k : Nat) (hk : k ≤ bs.length) : IsB (cutB v k) (bs.drop k) F := by
 rcases h with ⟨rfl, rfl⟩ | ⟨b, off, cap, cs, T, z, rfl, h1, h2, h3, h4⟩
 · exact .inl ⟨rfl, by simp⟩
 · refine .inr ?_
   by_cases e : cap = k
   · refine ⟨b, off, cap - k, cs, T, z, by simp [cutB, cutLo, e], by simp; omega, by omega, h3, fun j hj => ?_⟩
     simp at hj; omega
   · refine ⟨b, off + k, cap - k, cs, T, z, by simp [cutB, cutLo, e, addL], by simp; omega, by omega, h3, fun j hj => ?_⟩
     simp at hj
     have := h4 (k + j) (by omega)
     rw [Nat.add_assoc, this]
     simp [List.getD_eq_getElem?_getD]
theorem IsB.more {v : Value} {bs : List UInt8} {F g : Hl} (h : IsB v bs F) (d : Dj g F) : IsB v bs (jn g F) := by
 rcases h with h | ⟨b, off, cap, cs, T, z, h0, h1, h2, h3, h4⟩
 · exact .inl h
 · exact .inr ⟨b, off, cap, cs, T, z, h0, h1, h2, Le.right d _ _ h3, h4⟩
theorem IsB.len {v : Value} {bs : List UInt8} {F : Hl} (h : IsB v bs F) : SlLen v bs.length := by
 rcases h with ⟨rfl, rfl⟩ | ⟨b, off, cap, cs, T, z, rfl, _⟩
 · exact ⟨_, _, rfl⟩
 · exact ⟨_, _, rfl⟩
theorem IsB.src {v : Value} {bs : List UInt8} {F : Hl} (h : IsB v bs F) {S : World → Prop} (hS : ∀ w, S w → Frm F w) : Src S v bs.length (u8s bs) 1 := by
 refine ⟨by simp [u8s], ?_⟩
 rcases h with ⟨rfl, rfl⟩ | ⟨b, off, cap, cs, T, z, rfl, h1, h2, h3, h4⟩
 · exact .inl ⟨rfl, rfl⟩
 · refine .inr ⟨⟨b, off, none⟩, cap, rfl, fun w s j u hj => ?_⟩
   rw [addL, cell_ofL (hS w s b _ h3)]
   have hl := (List.getElem?_eq_some_iff.1 hj).1
   rw [u8s_length] at hl
   rw [h4 j hl]
   simp only [u8s, List.getElem?_map, List.getElem?_eq_getElem hl, Option.map_some] at hj
   simpa [List.getD_eq_getElem?_getD, hl] using hj
theorem isB_own (i : Nat) {v : Value} {bs : List UInt8} {e : Nat} {B : List HP} {F : Hl} (hi : Nat.blt i B.length = true) (hH : B.getD i (fun _ => True) = ownB v bs e) : ∀ g, Dj g F → sep B g → IsB v bs (jn g F) := fun g _ s => by
 obtain ⟨h1, h2, d', rfl, a, _⟩ := sep_get i (lb hi) s
 rw [hH] at a
 rcases a with ⟨_, ⟨h0, hn, _⟩ | ⟨g, cap, cur, hv, hh, h3, h4, h5, h6⟩⟩
 · exact .inl ⟨h0, List.eq_nil_of_length_eq_zero hn⟩
 · refine .inr ⟨g, 0, cap, cur.toList, e, (0, 0), hv, h3, by simp only [maxLen] at h4; omega, ?_, fun j hj => ?_⟩
   · exact jn_some (jn_some (by rw [hh]; simp [sg]))
   · rw [Nat.mul_one] at h6
     have e1 : (cur.toList.take bs.length)[j]? = some (.int .u8 ((bs.getD j 0).toNat : Nat)) := by
      rw [h6]; simp [u8s, List.getD_eq_getElem?_getD, hj]
     rw [List.getElem?_take, if_pos hj] at e1
     simpa using e1
theorem IsB.one {v : Value} {bs : List UInt8} {F : Hl} (h : IsB v bs F) : v.oneCell' = true := by
 rcases h with ⟨rfl, _⟩ | ⟨b, off, cap, cs, T, z, rfl, _⟩ <;> rfl
def Tail (v : Value) (bs : List UInt8) (v' : Value) (r : List UInt8) : Prop := ∀ F, IsB v bs F → IsB v' r F
theorem Tail.cut {v : Value} {bs : List UInt8} (k : Nat) (hk : k ≤ bs.length) : Tail v bs (cutB v k) (bs.drop k) := fun _ h => h.cut k hk
theorem Tail.trans {v v' v'' : Value} {bs r r' : List UInt8} (h : Tail v bs v' r) (g : Tail v' r v'' r') : Tail v bs v'' r' := fun F x => g F (h F x)
abbrev Ps (α : Type) := List UInt8 → Option (α × List UInt8)
def pr {α : Type} (a : α) : Ps α := fun bs => some (a, bs)
def pf {α : Type} : Ps α := fun _ => none
def pb {α β : Type} (p : Ps α) (q : α → Ps β) : Ps β := fun bs => match p bs with
 | none => none
 | some (a, r) => q a r
theorem pb_some {α β : Type} {p : Ps α} {q : α → Ps β} {bs r : List UInt8} {a : α} (h : p bs = some (a, r)) : pb p q bs = q a r := by simp [pb, h]
theorem pb_none {α β : Type} {p : Ps α} {q : α → Ps β} {bs : List UInt8} (h : p bs = none) : pb p q bs = none := by simp [pb, h]
def numP : Ps Int := fun bs => match parse 0 0 bs with
 | none => none
 | some (n, r) => some ((n : Int), r)
theorem numP_some {bs r : List UInt8} {n : Nat} (h : parse 0 0 bs = some (n, r)) : numP bs = some ((n : Int), r) := by simp [numP, h]
theorem numP_none {bs : List UInt8} (h : parse 0 0 bs = none) : numP bs = none := by simp [numP, h]
def smallP (lim : Int) : Ps Int := pb numP fun n => if lim ≤ n then pf else pr n
def cellP : Ps CellT := pb (smallP 1099511627777) fun i => pb (smallP 1099511627777) fun o => pb (smallP 1099511627777) fun a => pb (smallP 1099511627777) fun b => pb (smallP 1099511627777) fun c => pb (smallP 1099511627777) fun d => pb (smallP 1099511627777) fun e => pr ⟨i, o, #v[a, b, c, d, e]⟩
def viewP : Ps ViewT := pb numP fun i => pb (smallP 32) fun o => pb (smallP 6) fun a => pb (smallP 6) fun b => pb (smallP 6) fun c => pb (smallP 6) fun d => pb (smallP 6) fun e => pr ⟨i, o, #v[a, b, c, d, e]⟩
def changeP : Ps ChangeT := pb (smallP 2) fun a => pb (smallP 5) fun b => pb (smallP 5) fun c => pr ⟨a, b, c⟩
def ballotP : Ps BallotT := pb numP fun a => pb (smallP 5) fun b => pr ⟨a, b⟩
def cellsP : (m k : Nat) → RowT → Ps RowT
 | 0, _, x => pr x
 | m + 1, k, x => pb cellP fun c => cellsP m (k + 1) (if h : k < 4 then { x with cells := x.cells.set k c } else x)
def leftP : (m i k : Nat) → RowT → Ps RowT
 | 0, _, _, x => pr x
 | m + 1, i, k, x => pb cellP fun c => leftP m i (k + 1) (if h : i < 5 ∧ k < 4 then { x with left := x.left.set i ((x.left[i]'h.1).set k c h.2) h.1 } else x)
def heirsP : (m i : Nat) → RowT → Ps RowT
 | 0, _, x => pr x
 | m + 1, i, x => pb numP fun n =>
  let y : RowT := if h : i < 5 then { x with heir := x.heir.set i n } else x
  if 0 < n then pb (leftP 4 i 0 y) (heirsP m (i + 1)) else heirsP m (i + 1) y
def rowP : Ps RowT := pb numP fun n => pb (cellsP 4 0 { RowT.zero with version := n }) (heirsP 5 0)
theorem pb_pb {α β γ : Type} (p : Ps α) (q : α → Ps β) (t : β → Ps γ) (bs : List UInt8) : pb (pb p q) t bs = pb p (fun a => pb (q a) t) bs := by
 simp only [pb]; cases p bs <;> rfl
section
variable {β : Type} {Q : RowT → Ps β} {x : RowT} {c : CellT} {r r' : List UInt8} {i k : Nat}
theorem cellsP_step (hk : k < 4) (h : cellP r = some (c, r')) : pb (cellsP (4 - k) k x) Q r = pb (cellsP (4 - (k + 1)) (k + 1) { x with cells := x.cells.set k c }) Q r' := by
 rw [show 4 - k = (4 - (k + 1)) + 1 by omega]
 simp only [cellsP]
 rw [pb_pb, pb_some h, dif_pos hk]
theorem cellsP_stop (hk : k < 4) (h : cellP r = none) : pb (cellsP (4 - k) k x) Q r = none := by
 rw [show 4 - k = (4 - (k + 1)) + 1 by omega]
 simp only [cellsP]
 rw [pb_pb, pb_none h]
theorem cellsP_end (hk : ¬ k < 4) : pb (cellsP (4 - k) k x) Q r = Q x r := by
 rw [show 4 - k = 0 by omega]; rfl
theorem leftP_step (hi : i < 5) (hk : k < 4) (h : cellP r = some (c, r')) : pb (leftP (4 - k) i k x) Q r = pb (leftP (4 - (k + 1)) i (k + 1) { x with left := x.left.set i ((x.left[i]).set k c) }) Q r' := by
 rw [show 4 - k = (4 - (k + 1)) + 1 by omega]
 simp only [leftP]
 rw [pb_pb, pb_some h, dif_pos ⟨hi, hk⟩]
theorem leftP_stop (hk : k < 4) (h : cellP r = none) : pb (leftP (4 - k) i k x) Q r = none := by
 rw [show 4 - k = (4 - (k + 1)) + 1 by omega]
 simp only [leftP]
 rw [pb_pb, pb_none h]
theorem leftP_end (hk : ¬ k < 4) : pb (leftP (4 - k) i k x) Q r = Q x r := by
 rw [show 4 - k = 0 by omega]; rfl
theorem heirsP_stop (hi : i < 5) (h : numP r = none) : heirsP (5 - i) i x r = none := by
 rw [show 5 - i = (5 - (i + 1)) + 1 by omega]
 simp only [heirsP]
 rw [pb_none h]
theorem heirsP_yes {n : Int} (hi : i < 5) (h : numP r = some (n, r')) (hn : 0 < n) : heirsP (5 - i) i x r = pb (leftP (4 - 0) i 0 { x with heir := x.heir.set i n }) (heirsP (5 - (i + 1)) (i + 1)) r' := by
 rw [show 5 - i = (5 - (i + 1)) + 1 by omega]
 simp only [heirsP]
 rw [pb_some h, dif_pos hi, if_pos hn]
theorem heirsP_no {n : Int} (hi : i < 5) (h : numP r = some (n, r')) (hn : ¬ 0 < n) : heirsP (5 - i) i x r = heirsP (5 - (i + 1)) (i + 1) { x with heir := x.heir.set i n } r' := by
 rw [show 5 - i = (5 - (i + 1)) + 1 by omega]
 simp only [heirsP]
 rw [pb_some h, dif_pos hi, if_neg hn]
theorem heirsP_end (hi : ¬ i < 5) : heirsP (5 - i) i x r = some (x, r) := by
 rw [show 5 - i = 0 by omega]; rfl
end
def RdPost {α : Type} (T : TypeId) (gu : List PanicEntry) (enc : α → Value) (p : Ps α) (v : Value) (bs : List UInt8) (rb : Nat) : Ending → List HP → Prop :=
 RetP (fun x H => ∃ a r v', x = enc a ∧ H = [blkA rb [v'] T] ∧ p bs = some (a, r) ∧ Tail v bs v' r) (fun c H => ∃ v', c = gu ∧ H = [blkA rb [v'] T] ∧ p bs = none)
end Codec
end

section
namespace Leg
open Go Go.ChangeShapes Go.WideShapes Go.RowKit Codec Api
theorem sat_nil (w : World) : Sat [] (hp w) w := ⟨em, fun _ => .inl rfl, by funext b; rfl, trivial⟩
theorem Sat.below {H : List HP} {w w' : World} (h : Same w w') (s : Sat H (hp w) w') : Below w.heap.size w w' := by
 refine ⟨h.os, h.tape, h.output, h.size, fun k hk => ?_⟩
 have e : hp w k = some w.heap[k] := by simp [hp, hk]
 rw [s.frame e]
 exact e.symm
theorem Does.row {P : Program} {f : FuncId} {args : Array Value} {R : Hl → Prop} {v : Value} (s : Does P f args R [] (Ret fun u H => u = v ∧ H = [])) (w : World) (h : R (hp w)) :
 Calls P f args w fun e w' => e = .returned v ∧ Below w.heap.size w w' :=
 (s w (hp w) h (sat_nil w)).mono fun e w' ⟨a, H', b, c⟩ => by
  cases e with
  | returned u => obtain ⟨rfl, _⟩ := c; exact ⟨rfl, b.below a⟩
  | panicked _ => exact c.elim
  | outgrown => exact c.elim
def IsI (k : IntKind) (v : Value) (l : List Int) (F : Hl) : Prop :=
 (v = .slice none 0 0 ∧ l = []) ∨ ∃ b off cap cs T z, v = .slice (some ⟨b, off, none⟩) l.length cap ∧ l.length ≤ cap ∧ cap ≤ 9223372036854775807 ∧
  F b = some (.cells (List.toArray cs) T z) ∧ ∀ j, j < l.length → cs[off + j]? = some (.int k (l.getD j 0))
section
variable {P : Program} {W : World} {H : Type} {enc : TypeId × Value → H} {t e : TypeId} {k : IntKind} {v : Value} {d : DataW H} {ps : List MemPlace} {B B0 : Nat} {spare : Nat → Bool} {held : Bool}
theorem int_in {P : Program} {W : World} {t : TypeId} {k : IntKind} {v : Value} {B : Nat} (ht : P.underlying t = some (.int k)) (hv : Value.okWide P W .any B t v) : ∃ n, v = .int k n ∧ k.min ≤ n ∧ n ≤ k.max := by
 obtain ⟨n, rfl⟩ := okWide_int ht hv
 simp only [Value.okWide, Cell.okWide, Cell.ok, ht, IntKind.has] at hv
 exact ⟨n, rfl, hv.2⟩
end
end Leg
end

section
namespace Codec
open Go Leg Api
def encU (n : Nat) : List UInt8 := if n < 128 then [UInt8.ofNat n] else UInt8.ofNat (n % 128 + 128) :: encU (n / 128)
termination_by n
decreasing_by omega
theorem encU_lo {n : Nat} (h : n < 128) : encU n = [UInt8.ofNat n] := by rw [encU, if_pos h]
theorem encU_hi {n : Nat} (h : ¬ n < 128) : encU n = UInt8.ofNat (n % 128 + 128) :: encU (n / 128) := by rw [encU, if_neg h]
theorem encU_pos (n : Nat) : 1 ≤ (encU n).length := by
 by_cases h : n < 128
 · rw [encU_lo h]; simp
 · rw [encU_hi h]; simp
theorem encU_len : ∀ (k n : Nat), n < 2 ^ (7 * (k + 1)) → (encU n).length ≤ k + 1
 | 0, n, h => by rw [encU_lo (by simpa using h)]; simp
 | k + 1, n, h => by
  by_cases h1 : n < 128
  · rw [encU_lo h1]; simp
  · rw [encU_hi h1, List.length_cons]
    have : 2 ^ (7 * (k + 1 + 1)) = 128 * 2 ^ (7 * (k + 1)) := by rw [Nat.mul_add, Nat.pow_add]; omega
    have := encU_len k (n / 128) (by omega)
    omega
def encN (n : Int) : List UInt8 := encU (n % 18446744073709551616).toNat
def encs (l : List Int) : List UInt8 := l.flatMap encN
theorem encN_len (n : Int) : (encN n).length ≤ 10 := encU_len 9 _ (by omega)
theorem encs_len (l : List Int) : (encs l).length ≤ 10 * l.length := by
 induction l with
 | nil => simp [encs]
 | cons n l ih => have := encN_len n; simp only [encs, List.flatMap_cons, List.length_append, List.length_cons] at ih ⊢; omega
theorem encs_cons (n : Int) (l : List Int) : encs (n :: l) = encN n ++ encs l := rfl
theorem encs_append (a b : List Int) : encs (a ++ b) = encs a ++ encs b := by simp [encs]
theorem encs_nil : encs [] = [] := rfl
theorem encs_drop {l : List Int} {k : Nat} (h : k < l.length) : encs (l.drop k) = encN (l.getD k 0) ++ encs (l.drop (k + 1)) := by
 rw [List.drop_eq_getElem_cons h, encs_cons]; simp [List.getD_eq_getElem?_getD, h]
theorem wrap_u64_nat (n : Int) : IntKind.u64.wrap n = (((n % 18446744073709551616).toNat : Nat) : Int) := by
 simp only [IntKind.wrap, IntKind.signed, IntKind.bits]; simp; omega
theorem or128 (n : Nat) : orI .u8 (IntKind.u8.wrap (n : Int)) 128 = (((UInt8.ofNat (n % 128 + 128)).toNat : Nat) : Int) := by
 have e1 : IntKind.u8.wrap (n : Int) = ((n % 256 : Nat) : Int) := by
  simp only [IntKind.wrap, IntKind.signed, IntKind.bits]; simp
 have e : (BitVec.ofInt 8 ((n % 256 : Nat) : Int) ||| BitVec.ofInt 8 128).toNat = n % 128 + 128 := by
  have key : ∀ m : Nat, m < 256 → (BitVec.ofInt 8 ((m : Nat) : Int) ||| BitVec.ofInt 8 128).toNat = m % 128 + 128 := by decide +kernel
  rw [key _ (by omega)]; omega
 rw [e1]
 show IntKind.u8.wrap ((BitVec.ofInt 8 ((n % 256 : Nat) : Int) ||| BitVec.ofInt 8 128).toNat : Int) = _
 rw [e, wrap_u8 (by omega) (by omega)]
 simp; omega
theorem byte_lo {n : Nat} (h : n < 128) : IntKind.u8.wrap (n : Int) = (((UInt8.ofNat n).toNat : Nat) : Int) := by
 rw [wrap_u8 (by omega) (by omega)]; simp; omega
theorem shr7 (n : Nat) : ((n : Nat) : Int).fdiv (2 ^ min (7 : Int).toNat IntKind.u64.bits) = ((n / 128 : Nat) : Int) := by
 have : min (7 : Int).toNat IntKind.u64.bits = 7 := by decide
 rw [this, Int.fdiv_eq_ediv_of_nonneg _ (by decide)]
 simp
def IsN (v : Value) (l : List Int) (F : Hl) : Prop :=
 (v = .slice none 0 0 ∧ l = []) ∨ ∃ b off cap cs T z, v = .slice (some ⟨b, off, none⟩) l.length cap ∧ F b = some (.cells (List.toArray cs) T z) ∧ ∀ j, j < l.length → cs[off + j]? = some (.int .i64 (l.getD j 0))
theorem isN_piece (i : Nat) {b off cap T m : Nat} {cs : List Value} {l : List Int} {B : List HP} {F : Hl} (hi : Nat.blt i B.length = true) (e : B.getD i (fun _ => True) = blkA b cs T) (hm : m = l.length) (hl : (cs.drop off).take l.length = ints l) :
 ∀ g, Dj g F → sep B g → IsN (.slice (some ⟨b, off, none⟩) m cap) l (jn g F) := fun g d s => by
 subst hm
 refine .inr ⟨b, off, cap, cs, T, (0, 0), rfl, ro_piece i hi e g d s, fun j hj => ?_⟩
 have h1 : ((cs.drop off).take l.length)[j]? = some (.int .i64 (l.getD j 0)) := by rw [hl]; exact ints_get l j hj
 rw [List.getElem?_take, if_pos hj, List.getElem?_drop] at h1
 exact h1
def encHeirs (x : RowT) : (m i : Nat) → List UInt8
 | 0, _ => []
 | m + 1, i => (if h : i < 5 then encN (x.heir[i]'h) ++ (if 0 < x.heir[i]'h then encs (flats (x.left[i]'h).toList) else []) else []) ++ encHeirs x m (i + 1)
def encRow (x : RowT) : List UInt8 := encN x.version ++ (encs (flats x.cells.toList) ++ encHeirs x 5 0)
theorem encHeirs_len (x : RowT) : ∀ m i, (encHeirs x m i).length ≤ 290 * m
 | 0, _ => by simp [encHeirs]
 | m + 1, i => by
  have ih := encHeirs_len x m (i + 1)
  simp only [encHeirs, List.length_append]
  by_cases h : i < 5
  · rw [dif_pos h, List.length_append]
    have h1 := encN_len (x.heir[i])
    have h2 := encs_len (flats (x.left[i]).toList)
    rw [flats_length] at h2
    simp at h2
    split <;> simp <;> omega
  · rw [dif_neg h]; simp; omega
theorem encRow_len (x : RowT) : (encRow x).length ≤ 1740 := by
 have h1 := encN_len x.version
 have h2 := encs_len (flats x.cells.toList)
 have h3 := encHeirs_len x 5 0
 rw [flats_length] at h2
 simp at h2
 simp only [encRow, List.length_append]
 omega
theorem flats_drop {l : List CellT} {k : Nat} (h : k < l.length) : encs (flats (l.drop k)) = encs (l[k]).flat ++ encs (flats (l.drop (k + 1))) := by
 rw [List.drop_eq_getElem_cons h, flats, List.flatMap_cons, encs_append]; rfl
theorem encHeirs_step {x : RowT} {i : Nat} (h : i < 5) : encHeirs x (5 - i) i = encN x.heir[i] ++ ((if 0 < x.heir[i] then encs (flats (x.left[i]).toList) else []) ++ encHeirs x (5 - (i + 1)) (i + 1)) := by
 rw [show 5 - i = (5 - (i + 1)) + 1 by omega]
 simp only [encHeirs]
 rw [dif_pos h, List.append_assoc]
def WPost (WR u8 : TypeId) (wb : Nat) (bs : List UInt8) : Ending → List HP → Prop :=
 Ret (fun x H => ∃ v', x = .pointer (some ⟨wb, 0, none⟩) ∧ H = [blkA wb [v'] WR, ownB v' bs u8])
end Codec
end

section
namespace Leg
open Go Codec Api
section
variable {P : Program} {w0 : World} {F : Hl} {n : Nat} {ops : Array Oper} {Q : QQ} {S : World → Prop} {D : List Deferred} {L : List (Nat × Value)} {H : List HP}
end
section
variable {P : Program} {n : Nat} {D : List Deferred} {L : List (Nat × Value)} {S : World → Prop} {o : Oper}
end
section
variable {P : Program} {w0 : World} {F : Hl} {n : Nat} {ops : Array Oper} {Q : QQ} {D : List Deferred} {L : List (Nat × Value)} {H : List HP} {o : Oper} {l : List Oper} {d : Nat}
end
section
variable {P : Program} {w0 : World} {F : Hl} {n : Nat} {ops : Array Oper} {Q : QQ} {D : List Deferred} {L : List (Nat × Value)} {H : List HP} {o : Oper} {l : List Oper} {d : Nat}
theorem TL.ownLen {v : Value} {nn e size : Nat} {xs : List Value} (k : Nat) (hk : Nat.blt k H.length = true) (hH : H.getD k (fun _ => True) = own v nn xs e size)
 (h : SlLen v nn → v.oneCell' = true → TL P w0 F n ops Q l D L H) : TL P w0 F n ops Q l D L H := fun a w f s m => by
 rcases m.own_form (lb hk) hH with ⟨rfl, rfl, _⟩ | ⟨g, cap, rfl⟩
 · exact h ⟨_, _, rfl⟩ rfl a w f s m
 · exact h ⟨_, _, rfl⟩ rfl a w f s m
theorem TL.ownNilI (e size : Nat) (h : True → TL P w0 F n ops Q l D L (own (.slice none 0 0) 0 [] e size :: H)) : TL P w0 F n ops Q l D L H := fun a w f s m =>
 h trivial a w f s (m.mono fun g x => ⟨em, g, Dj.em' g, (em_jn g).symm, ⟨by simp, .inl ⟨rfl, rfl, rfl⟩⟩, x⟩)
end
theorem sep_own {H : List HP} {g cap nn e : Nat} {cur xs : List Value} (i : Nat) (hi : Nat.blt i H.length = true) (hH : H.getD i (fun _ => True) = blkA g cur e) (h1 : nn ≤ cap) (h2 : cap ≤ maxLen) (h3 : cur.length = cap) (h4 : cur.take nn = xs) {h : Hl} (s : sep H h) :
 sep (H.set i (own (.slice (some ⟨g, 0, none⟩) nn cap) nn xs e 1)) h := by
 obtain ⟨x, y, d, rfl, a, b⟩ := sep_get i (lb hi) s
 rw [hH] at a
 refine sep_put i (lb hi) ⟨x, y, d, rfl, ?_, b⟩
 refine ⟨?_, .inr ⟨g, cap, cur.toArray, rfl, a, h1, h2, by simp [h3], by simpa using h4⟩⟩
 rw [← h4, List.length_take]
 omega
theorem mask {k : Nat} (hk : k ≤ 63) (n : Int) : andI .i64 n (2 ^ k - 1) = n % 2 ^ k := by
 have h2 : (BitVec.ofInt 64 (2 ^ k - 1 : Int)).toNat = 2 ^ k - 1 := by
  have : (2 : Int) ^ k = ((2 ^ k : Nat) : Int) := by simp
  have hle : 2 ^ k ≤ 2 ^ 63 := Nat.pow_le_pow_right (by decide) hk
  have hpos : 0 < 2 ^ k := Nat.pow_pos (by decide)
  rw [BitVec.toNat_ofInt, this]
  have e : ((2 ^ k : Nat) : Int) - 1 = ((2 ^ k - 1 : Nat) : Int) := by omega
  rw [e]
  have : ((2 ^ k - 1 : Nat) : Int) % ((2 ^ 64 : Nat) : Int) = ((2 ^ k - 1 : Nat) : Int) := Int.emod_eq_of_lt (by omega) (by omega)
  omega
 have h1 : ((BitVec.ofInt 64 n &&& BitVec.ofInt 64 (2 ^ k - 1 : Int)).toNat : Int) = n % 2 ^ k := by
  rw [BitVec.toNat_and, h2, Nat.and_two_pow_sub_one_eq_mod, BitVec.toNat_ofInt]
  have hd : ((2 ^ k : Nat) : Int) ∣ ((2 ^ 64 : Nat) : Int) := by
   exact_mod_cast Nat.pow_dvd_pow 2 (by omega : k ≤ 64)
  have hn : 0 ≤ n % ((2 ^ 64 : Nat) : Int) := Int.emod_nonneg _ (by decide)
  rw [Int.natCast_emod, Int.toNat_of_nonneg hn, Int.emod_emod_of_dvd _ hd]
  simp
 show IntKind.i64.wrap ((BitVec.ofInt 64 n &&& BitVec.ofInt 64 (2 ^ k - 1 : Int)).toNat : Int) = _
 rw [h1]
 have hp : (0 : Int) < 2 ^ k := by
  have : (2 : Int) ^ k = ((2 ^ k : Nat) : Int) := by simp
  rw [this]; exact_mod_cast Nat.pow_pos (by decide)
 have hq : (2 : Int) ^ k ≤ 9223372036854775808 := by
  have : (2 : Int) ^ k = ((2 ^ k : Nat) : Int) := by simp
  rw [this]
  have hle : 2 ^ k ≤ 2 ^ 63 := Nat.pow_le_pow_right (by decide) hk
  omega
 have ha := Int.emod_nonneg n (Int.ne_of_gt hp)
 have hb := Int.emod_lt_of_pos n hp
 exact wrap_i64 (by omega) (by omega)
def m40 (n : Int) : Int := n % 1099511627776
theorem rem_pos {a c : Int} (h : 0 ≤ a) : a.tmod c = a % c := Int.tmod_eq_emod_of_nonneg h
theorem m40_lt (n : Int) : 0 ≤ m40 n ∧ m40 n < 1099511627776 := by unfold m40; omega
theorem quoNat (m : Nat) (d : Nat) (h : m < 9223372036854775808) : IntKind.i64.wrap (((m : Nat) : Int).tdiv ((d : Nat) : Int)) = ((m / d : Nat) : Int) := by
 have e : ((m : Nat) : Int).tdiv ((d : Nat) : Int) = ((m / d : Nat) : Int) := by rw [Int.ofNat_tdiv]
 rw [e]
 have := Nat.div_le_self m d
 generalize m / d = q at *
 exact wrap_i64 (by omega) (by omega)
theorem IsI.len {k : IntKind} {v : Value} {l : List Int} {F : Hl} (h : IsI k v l F) : SlLen v l.length := by
 rcases h with ⟨rfl, rfl⟩ | ⟨b, off, cap, cs, T, z, rfl, _⟩
 · exact ⟨_, _, rfl⟩
 · exact ⟨_, _, rfl⟩
theorem IsI.more {k : IntKind} {v : Value} {l : List Int} {F g : Hl} (h : IsI k v l F) (d : Dj g F) : IsI k v l (jn g F) := by
 rcases h with h | ⟨b, off, cap, cs, T, z, h0, h1, h2, h3, h4⟩
 · exact .inl h
 · exact .inr ⟨b, off, cap, cs, T, z, h0, h1, h2, Le.right d _ _ h3, h4⟩
theorem IsI.at {k : IntKind} {v : Value} {l : List Int} {F : Hl} (h : IsI k v l F) {j : Nat} (hj : j < l.length) :
 ∃ b off cap cs T z, v = .slice (some ⟨b, off, none⟩) l.length cap ∧ F b = some (.cells (List.toArray cs) T z) ∧ cs[off + j]? = some (.int k (l.getD j 0)) ∧ l.length ≤ cap := by
 rcases h with ⟨_, rfl⟩ | ⟨b, off, cap, cs, T, z, h0, h1, h2, h3, h4⟩
 · simp at hj
 · exact ⟨b, off, cap, cs, T, z, h0, h3, h4 j hj, h1⟩
end Leg
end

section
namespace Leg
open Go Codec Api
def flatF (P : Program) (g : TypeId → Option Nat) : List Field → Nat → Option Nat
 | [], o => some o
 | f :: fs, o => match g f.type with
  | some c => if f.offset = o ∧ P.cellsOf f.type = c then flatF P g fs (o + c) else none
  | none => none
def flatI (P : Program) : Nat → TypeId → Option Nat
 | 0, _ => none
 | d + 1, t => match P.underlying t with
  | some (.int .i64) => some 1
  | some (.array n e) => match flatI P d e with
   | some c => if P.cellsOf e = c ∧ P.cellsOf t = n * c then some (n * c) else none
   | none => none
  | some (.struct fs) => match flatF P (flatI P d) fs.toList 0 with
   | some m => if P.cellsOf t = m ∧ fs.all (·.name != "_") = true then some m else none
   | none => none
  | _ => none
theorem mapM_some {α β : Type} {f : α → Option β} {g : α → β} : ∀ {l : List α}, (∀ x ∈ l, f x = some (g x)) → l.mapM f = some (l.map g)
 | [], _ => rfl
 | x :: l, h => by
  rw [List.mapM_cons, h x (by simp), mapM_some (l := l) fun y hy => h y (by simp [hy])]
  rfl
theorem chunks {α : Type} (c : Nat) : ∀ (n : Nat) (l : List α), l.length = n * c → ((List.range n).map fun i => (l.drop (i * c)).take c).flatten = l
 | 0, l, h => by
  rw [Nat.zero_mul] at h
  rw [List.eq_nil_of_length_eq_zero h]; rfl
 | n + 1, l, h => by
  have h1 : (l.take (n * c)).length = n * c := by rw [List.length_take, h, Nat.add_mul]; omega
  have ih := chunks c n (l.take (n * c)) h1
  rw [List.range_succ, List.map_append, List.flatten_append]
  have e : ((List.range n).map fun i => (l.drop (i * c)).take c) = (List.range n).map fun i => ((l.take (n * c)).drop (i * c)).take c := by
   refine List.map_congr_left fun i hi => ?_
   have hi' : i < n := List.mem_range.1 hi
   have : (i + 1) * c ≤ n * c := Nat.mul_le_mul_right c hi'
   rw [Nat.add_mul, Nat.one_mul] at this
   rw [List.drop_take, List.take_take, show min c (n * c - i * c) = c by omega]
  rw [e, ih]
  simp only [List.map_cons, List.map_nil, List.flatten_cons, List.flatten_nil, List.append_nil]
  rw [List.take_of_length_le (l := l.drop (n * c)) (by rw [List.length_drop, h, Nat.add_mul]; omega)]
  exact List.take_append_drop _ _
def litI (l : List Int) : List Lit := l.map (Lit.int .i64)
def WF (l : List Int) : Prop := ∀ n ∈ l, (Lit.int .i64 n).wf = true
theorem WF.sub {l : List Int} (h : WF l) (a b : Nat) : WF ((l.drop a).take b) := fun n hn => h n (List.mem_of_mem_drop (List.mem_of_mem_take hn))
theorem ints_sub (l : List Int) (a b : Nat) : ((ints l).drop a).take b = ints ((l.drop a).take b) := by simp [ints, List.map_drop, List.map_take]
theorem fields_ints {P : Program} {d : Nat} (ih : ∀ t m, flatI P d t = some m → ∀ l : List Int, l.length = m → WF l → P.keyLits d t (ints l) = some (litI l)) (l : List Int) (hw : WF l) :
 ∀ (fs : List Field) (o : Nat), flatF P (flatI P d) fs o = some l.length →
  ∃ L, (fs.mapM fun f => P.keyLits d f.type (((ints l).drop f.offset).take (P.cellsOf f.type))) = some L ∧ L.flatten = litI (l.drop o)
 | [], o, h => by
  simp only [flatF, Option.some.injEq] at h
  exact ⟨[], rfl, by rw [List.drop_eq_nil_of_le (by omega)]; rfl⟩
 | f :: fs, o, h => by
  simp only [flatF] at h
  split at h
  · rename_i c hc
    split at h
    · rename_i hh
      have hle : o + c ≤ l.length := by
       clear ih
       revert h
       generalize o + c = q
       intro h
       induction fs generalizing q with
       | nil => simp only [flatF, Option.some.injEq] at h; omega
       | cons f' fs ih =>
        simp only [flatF] at h
        split at h
        · split at h
          · have := ih _ h; omega
          · cases h
        · cases h
      obtain ⟨L, h1, h2⟩ := fields_ints ih l hw fs (o + c) h
      have e : P.keyLits d f.type (((ints l).drop f.offset).take (P.cellsOf f.type)) = some (litI ((l.drop o).take c)) := by
       rw [ints_sub, hh.1, hh.2]
       exact ih f.type c hc _ (by rw [List.length_take, List.length_drop]; omega) (hw.sub _ _)
      refine ⟨litI ((l.drop o).take c) :: L, by rw [List.mapM_cons, e, h1]; rfl, ?_⟩
      rw [List.flatten_cons, h2, litI, litI, litI, ← List.map_append]
      congr 1
      rw [← List.drop_drop]
      exact List.take_append_drop _ _
    · cases h
  · cases h
theorem keyLits_ints {P : Program} : ∀ (d : Nat) (t m : Nat), flatI P d t = some m → ∀ l : List Int, l.length = m → WF l → P.keyLits d t (ints l) = some (litI l)
 | 0, _, _, h => by simp [flatI] at h
 | d + 1, t, m, h => fun l hl hw => by
  have ih := keyLits_ints (P := P) d
  simp only [flatI] at h
  split at h
  · rename_i hu
    simp only [Option.some.injEq] at h
    subst h
    obtain ⟨n, rfl⟩ := List.length_eq_one_iff.1 hl
    have := hw n (by simp)
    simp [Program.keyLits, hu, ints, litI, this]
  · rename_i n e hu
    split at h
    · rename_i c hc
      split at h
      · rename_i hh
        simp only [Option.some.injEq] at h
        subst h
        have hlen : (ints l).length = P.cellsOf t := by rw [ints_length, hl, hh.2]
        have hm : ((List.range n).mapM fun i => P.keyLits d e (((ints l).drop (i * P.cellsOf e)).take (P.cellsOf e))) = some ((List.range n).map fun i => litI ((l.drop (i * c)).take c)) := by
         refine mapM_some fun i hi => ?_
         have hi' : i < n := List.mem_range.1 hi
         have : (i + 1) * c ≤ n * c := Nat.mul_le_mul_right c hi'
         rw [Nat.add_mul, Nat.one_mul] at this
         rw [hh.1, ints_sub]
         exact ih e c hc _ (by rw [List.length_take, List.length_drop, hl]; omega) (hw.sub _ _)
        have hf : (((List.range n).map fun i => litI ((l.drop (i * c)).take c))).flatten = litI l := by
         have := congrArg litI (chunks c n l hl)
         rw [← this, litI, List.map_flatten, List.map_map]
         rfl
        unfold Program.keyLits
        simp only [hu]
        rw [if_pos hlen, hm, Option.map_some, hf]
      · cases h
    · cases h
  · rename_i fs hu
    split at h
    · rename_i m' hc
      split at h
      · rename_i hh
        simp only [Option.some.injEq] at h
        subst h
        have hlen : (ints l).length = P.cellsOf t := by rw [ints_length, hl, hh.1]
        obtain ⟨L, h1, h2⟩ := fields_ints (P := P) (d := d) (fun t m h l => ih t m h l) l hw fs.toList 0 (by rw [hc, hl])
        unfold Program.keyLits
        simp only [hu]
        rw [if_pos ⟨hlen, hh.2⟩, h1, Option.map_some, h2]
        rfl
      · cases h
    · cases h
  · cases h
section
variable {P : Program} {n : Nat} {D : List Deferred} {L : List (Nat × Value)} {S : World → Prop} {o : Oper}
end
section
variable {P : Program} {n : Nat} {D : List Deferred} {L : List (Nat × Value)} {S : World → Prop} {o : Oper}
end
theorem isB_piece {F : Hl} (i : Nat) {g cap nn T : Nat} {cur : List Value} {bs : List UInt8} {B : List HP} (m : Nat) (hm : m ≤ bs.length) (hc : bs.length ≤ cap) (h2 : cap ≤ maxLen) (hl : cur.take nn = u8s bs) (hn : nn = bs.length) (hi : Nat.blt i B.length = true) (e : B.getD i (fun _ => True) = blkA g cur T) :
 ∀ h, Dj h F → sep B h → IsB (.slice (some ⟨g, 0, none⟩) m cap) (bs.take m) (jn h F) := fun h d s => by
 have hlen : (bs.take m).length = m := by rw [List.length_take]; omega
 refine .inr ⟨g, 0, cap, cur, T, (0, 0), by rw [hlen], by omega, by simp only [maxLen] at h2; omega, ro_piece i hi e h d s, fun j hj => ?_⟩
 rw [hlen] at hj
 have e1 := congrArg (fun l => l[j]?) hl
 simp only [List.getElem?_take] at e1
 rw [if_pos (by omega)] at e1
 rw [Nat.zero_add, e1]
 simp [u8s, List.getD_eq_getElem?_getD, List.getElem?_take, hj, show j < bs.length by omega]
end Leg
end

section
namespace Leg
open Go
def kget (l : List (Int × Value)) (k : Int) : Option Value := match l with
 | [] => none
 | (a, v) :: l => if k = a then some v else kget l k
def kput (l : List (Int × Value)) (k : Int) (v : Value) : List (Int × Value) := match l with
 | [] => [(k, v)]
 | (a, u) :: l => if k = a then (a, v) :: l else (a, u) :: kput l k v
def pairs (es : List MapEntry) : List (Value × Value) := es.map fun e => (e.key, e.val)
def keyed (l : List (Int × Value)) : List (Value × Value) := l.map fun p => (.int .i64 p.1, p.2)
def mapP (m : Nat) (l : List (Int × Value)) : HP := fun h => ∃ es clock, h = sg m (.map (List.toArray es) clock) ∧ pairs es = keyed l
def kidx (k : Int) : List (Int × Value) → Nat → Option (Nat × Value)
 | [], _ => none
 | (a, v) :: l, i => if k = a then some (i, v) else kidx k l (i + 1)
theorem kidx_get (k : Int) : ∀ (l : List (Int × Value)) (i : Nat), (kidx k l i).map (·.2) = kget l k
 | [], _ => rfl
 | (a, v) :: l, i => by
  simp only [kidx, kget]
  by_cases h : k = a
  · simp [h]
  · rw [if_neg h, if_neg h]; exact kidx_get k l (i + 1)
theorem findNow_ints (k : Int) : ∀ (es : List MapEntry) (l : List (Int × Value)) (i : Nat), pairs es = keyed l → Instr.findNow (.int .i64) (.int .i64 k) es i = some (kidx k l i)
 | [], [], i, _ => rfl
 | [], _ :: _, i, h => by simp [pairs, keyed] at h
 | _ :: _, [], i, h => by simp [pairs, keyed] at h
 | e :: es, (a, v) :: l, i, h => by
  simp only [pairs, keyed, List.map_cons, List.cons.injEq, Prod.mk.injEq] at h
  obtain ⟨⟨h1, h2⟩, h3⟩ := h
  simp only [Instr.findNow, h1, h2, Instr.sameNow, kidx]
  by_cases q : k = a
  · subst q; simp
  · have e1 : (k == a) = false := by simpa using q
    simp only [e1, if_neg q, if_true]
    exact findNow_ints k es l (i + 1) h3
theorem kidx_none (k : Int) (v : Value) : ∀ (l : List (Int × Value)) (i : Nat), kidx k l i = none → kput l k v = l ++ [(k, v)]
 | [], _, _ => rfl
 | (a, u) :: l, i, h => by
  simp only [kidx] at h
  by_cases q : k = a
  · rw [if_pos q] at h; cases h
  · rw [if_neg q] at h
    simp only [kput, if_neg q, kidx_none k v l (i + 1) h, List.cons_append]
theorem kidx_some (k : Int) (v : Value) : ∀ (es : List MapEntry) (l : List (Int × Value)) (i j : Nat) (u : Value), pairs es = keyed l → kidx k l i = some (j, u) →
 i ≤ j ∧ ∃ e, es[j - i]? = some e ∧ e.key = .int .i64 k ∧ pairs (es.modify (j - i) fun e => { e with key := .int .i64 k, val := v }) = keyed (kput l k v)
 | _, [], _, _, _, _, h => by simp [kidx] at h
 | [], _ :: _, i, _, _, h, _ => by simp [pairs, keyed] at h
 | e :: es, (a, w) :: l, i, j, u, h, hk => by
  simp only [pairs, keyed, List.map_cons, List.cons.injEq, Prod.mk.injEq] at h
  obtain ⟨⟨h1, h2⟩, h3⟩ := h
  simp only [kidx] at hk
  by_cases q : k = a
  · rw [if_pos q] at hk
    simp only [Option.some.injEq, Prod.mk.injEq] at hk
    obtain ⟨rfl, rfl⟩ := hk
    refine ⟨Nat.le_refl _, e, by simp, by rw [h1, q], ?_⟩
    rw [Nat.sub_self]
    subst q
    have e0 : kput ((k, w) :: l) k v = (k, v) :: l := by simp [kput]
    rw [e0]
    simp only [List.modify_zero_cons, pairs, keyed, List.map_cons, h3]
  · rw [if_neg q] at hk
    obtain ⟨i1, e', i2, i3, i4⟩ := kidx_some k v es l (i + 1) j u h3 hk
    have e1 : j - i = (j - (i + 1)) + 1 := by omega
    refine ⟨by omega, e', by rw [e1]; simpa using i2, i3, ?_⟩
    rw [e1, List.modify_succ_cons]
    simp only [kput, if_neg q, pairs, keyed, List.map_cons, h1, h2] at i4 ⊢
    rw [i4]
theorem run_checkInt {P : Program} {w : World} (b : Bool) (d : Nat) {t : TypeId} {kk : IntKind} {k : Int} (h : P.underlying t = some (.int kk)) : (Instr.checkKey b (d + 1) t (.int .i64 k)).run P w = .ok () w := by
 simp [Instr.checkKey, run_underlying h]
theorem run_findInt {P : Program} {w : World} {t : TypeId} {k : Int} {es : List MapEntry} {l : List (Int × Value)} (h : P.underlying t = some (.int .i64)) (hp : pairs es = keyed l) : (Instr.findKey t (.int .i64 k) es).run P w = .ok (kidx k l 0) w := by
 simp [Instr.findKey, run_underlying h, findNow_ints k es l 0 hp]
section
variable {P : Program} {w0 : World} {F : Hl} {n : Nat} {ops : Array Oper} {Q : QQ} {D : List Deferred} {L : List (Nat × Value)} {H : List HP} {o : Oper} {l : List Oper} {d : Nat} {S : World → Prop}
theorem Sat.map {w : World} {m : Nat} {kv : List (Int × Value)} (s : Sat H F w) (i : Nat) (hi : Nat.blt i H.length = true) (e : H.getD i (fun _ => True) = mapP m kv) : ∃ es clock, w.heap[m]? = some (.map (List.toArray es) clock) ∧ pairs es = keyed kv := by
 obtain ⟨h, d, e', x⟩ := s
 obtain ⟨h1, h2, d', rfl, a, _⟩ := sep_get i (lb hi) x
 rw [e] at a
 obtain ⟨es, clock, h3, h4⟩ := a
 refine ⟨es, clock, ?_, h4⟩
 have : hp w m = some (.map (List.toArray es) clock) := by
  rw [e', jn_assoc]
  exact jn_some (by rw [h3]; simp [sg])
 exact this
def RdM (S : World → Prop) (m : Nat) (kv : List (Int × Value)) : Prop := ∀ w, S w → ∃ es clock, w.heap[m]? = some (.map (List.toArray es) clock) ∧ pairs es = keyed kv
theorem RdM.own {m : Nat} {kv : List (Int × Value)} (i : Nat) (hi : Nat.blt i H.length = true) (e : H.getD i (fun _ => True) = mapP m kv) : RdM (Sat H F) m kv := fun _ s => s.map i hi e
theorem PV.lookup {t kt et m : Nat} {x y : Operand} {k : Int} {kv : List (Int × Value)} {z v : Value} (ho : o.op = .lookup t x y false) (ht : P.underlying t = some (.map kt et)) (hk : P.underlying kt = some (.int .i64)) (hz : (P.info? et).map (·.zero) = some (some z))
 (hx : evL L x = some (.map (some m))) (hy : evL L y = some (.int .i64 k)) (hR : RdM S m kv) (hv : (kget kv k).getD z = v) : PV P n D L S o v := fun a w f s => by
 obtain ⟨es, clock, h1, h2⟩ := hR w s
 subst hv
 have hc := run_checkInt (P := P) (w := w) (List.toArray es).isEmpty 9999 (k := k) hk
 have hf := run_findInt (P := P) (w := w) (k := k) hk h2
 have hg : (getObj m).run P w = .ok (.map (List.toArray es) clock) w := by simp [getObj, Sem.run, h1]
 simp only [execOp, ho, f.eval hx, f.eval hy, Instr.lookup, Sem.run_bind, run_underlying ht, Result.andThen_ok, hg, hc, hf, Sem.run_pure]
 rw [← kidx_get k kv 0]
 cases hq : kidx k kv 0 with
 | none => simp [hq, run_zeroL hz]
 | some p => simp [hq]
theorem TL.makeMap {t : TypeId} (hw : Want n D ops o L) (ho : o.op = .makeMap t none) (hd : o.dst = some d) (hn : Nat.blt d n = true)
 (h : ∀ m, TL P w0 F n ops Q l D ((d, .map (some m)) :: L) (mapP m [] :: H)) : TL P w0 F n ops Q (o :: l) D L H :=
 TL.step hw fun a w f s m => by
  unfold Oper.wp
  have r : (execOp a.eval o).run P w = .ok (.value (.map (some w.heap.size))) (w.alloc (.map #[] 0)) := by
   simp [execOp, ho, Instr.makeMap, newObj, Sem.run]
  rw [r, Oper.upon_value, hd]
  refine h _ _ _ (f.put (lb hn) _) (s.trans ⟨rfl, rfl, rfl, by simp⟩) ((m.alloc _).mono fun h s => star_mono s (fun _ x => ?_) fun _ x => x)
  exact ⟨[], 0, x, rfl⟩
theorem TL.mapUpdate {H' : List HP} {t kt et m i : Nat} {x y u : Operand} {k : Int} {kv : List (Int × Value)} {v : Value} (hw : Want n D ops o L) (ho : o.op = .mapUpdate t x y u) (hd : o.dst = none) (ht : P.underlying t = some (.map kt et)) (hk : P.underlying kt = some (.int .i64))
 (hx : evL L x = some (.map (some m))) (hy : evL L y = some (.int .i64 k)) (hu : evL L u = some v) (hi : Nat.blt i H.length = true) (hH : H.getD i (fun _ => True) = mapP m kv) (hH' : H.set i (mapP m (kput kv k v)) = H')
 (h : TL P w0 F n ops Q l D L H') : TL P w0 F n ops Q (o :: l) D L H :=
 TL.eff hw hd (fun a w f _ s => by
  obtain ⟨es, clock, h1, h2⟩ := s.map i hi hH
  have hc := run_checkInt (P := P) (w := w) false 9999 (k := k) hk
  have hf := run_findInt (P := P) (w := w) (k := k) hk h2
  have hg : (getObj m).run P w = .ok (.map (List.toArray es) clock) w := by simp [getObj, Sem.run, h1]
  have turn : ∀ es' c', pairs es' = keyed (kput kv k v) → Sat H' F { w with heap := w.heap.setIfInBounds m (.map (List.toArray es') c') } := fun es' c' he => by
   subst hH'
   have hm : m < w.heap.size := by
    by_cases q : m < w.heap.size
    · exact q
    · rw [Array.getElem?_eq_none (by omega)] at h1; cases h1
   obtain ⟨h0, d0, e0, x0⟩ := s
   obtain ⟨g1, g2, d', rfl, a0, y0⟩ := sep_get i (lb hi) x0
   rw [hH] at a0
   obtain ⟨es0, c0, a1, _⟩ := a0
   have s1 : Sat (obj m (.map (List.toArray es0) c0) :: H.eraseIdx i) F w := ⟨_, d0, e0, ⟨g1, g2, d', rfl, a1, y0⟩⟩
   have s2 := s1.write (w' := { w with heap := w.heap.setIfInBounds m (.map (List.toArray es') c') }) 0 (o' := .map (List.toArray es') c') (by simp) rfl (by simp [hm]) (fun k hk => by simp [Array.getElem?_setIfInBounds, Ne.symm hk])
   obtain ⟨h3, d3, e3, x3⟩ := s2
   obtain ⟨f1, f2, d4, rfl, a4, y4⟩ := x3
   exact ⟨_, d3, e3, sep_put i (lb hi) ⟨f1, f2, d4, rfl, ⟨es', c', a4, he⟩, y4⟩⟩
  have hset := fun o => MapKept.run_setObj_map (P := P) o h1
  simp only [execOp, ho, f.eval hx, f.eval hy, f.eval hu, Instr.mapUpdate, Sem.run_bind, run_underlying ht, Result.andThen_ok, hg, hc, hf]
  cases q : kidx k kv 0 with
  | none =>
   have e1 := kidx_none k v kv 0 q
   refine ⟨{ w with heap := w.heap.setIfInBounds m (.map (List.toArray (es ++ [{ key := .int .i64 k, val := v, born := clock }])) (clock + 1)) }, by simp [q, hset], ⟨rfl, rfl, rfl, by simp⟩, ?_⟩
   exact turn _ _ (by rw [e1]; simp only [pairs, keyed, List.map_append] at h2 ⊢; rw [h2]; rfl)
  | some p =>
   obtain ⟨j, u'⟩ := p
   obtain ⟨_, e, e1, e2, e3⟩ := kidx_some k v es kv 0 j u' h2 q
   rw [Nat.sub_zero] at e1 e3
   refine ⟨{ w with heap := w.heap.setIfInBounds m (.map (List.toArray (es.modify j fun e => { e with key := .int .i64 k, val := v })) clock) }, by simp [q, hset, Instr.keyThatStays, Instr.sameBits, e1, e2], ⟨rfl, rfl, rfl, by simp⟩, ?_⟩
   exact turn _ _ e3) h
end
end Leg
end

section
namespace Leg
open Go Codec Api
section
variable {P : Program} {w0 : World} {F : Hl} {n : Nat} {ops : Array Oper} {Q : QQ} {D : List Deferred} {L : List (Nat × Value)} {H : List HP} {o : Oper} {l : List Oper} {d : Nat} {S : World → Prop}
theorem TL.copy {H' : List HP} {t t2 e et b off dl dc m i : Nat} {x y : Operand} {vy : Value} {cs cs' news : List Value} (hw : Want n D ops o L)
 (ho : o.op = .call { callee := .builtin .copy, args := #[x, y], argTypes := #[t, t2] }) (hd : o.dst = some d) (hn : Nat.blt d n = true) (ht : P.underlying t = some (.slice e)) (hs : (P.info? e).map (·.size) = some 1)
 (hx : evL L x = some (.slice (some ⟨b, off, none⟩) dl dc)) (hy : evL L y = some vy) (hi : Nat.blt i H.length = true) (hH : H.getD i (fun _ => True) = blkA b cs et)
 (hsrc : ∀ w, Sat H F w → Src (Sat H F) vy m news 1) (h1 : ∀ u ∈ news, u.oneCell' = true) (hfit : off + min m dl ≤ cs.length) (hcs : wr cs off (news.take (min m dl)) = cs') (hH' : H.set i (blkA b cs' et) = H')
 (h : TL P w0 F n ops Q l D ((d, .int .i64 ((min m dl : Nat) : Int)) :: L) H') : TL P w0 F n ops Q (o :: l) D L H :=
 TL.step hw fun a w f sm q => by
  obtain ⟨hl, hxx⟩ := hsrc w q
  rw [Nat.mul_one] at hl
  have hb := q.block i (lb hi) hH
  have hlen : (news.take (min m dl)).length = min m dl := by rw [List.length_take, hl]; omega
  have hr : (Builtin.copy_ #[t, t2] o.type #[.slice (some ⟨b, off, none⟩) dl dc, vy]).run P w = .ok (.int .i64 ((min m dl : Nat) : Int)) (w.setRow b (wr cs off (news.take (min m dl))).toArray) := by
   rcases hxx with ⟨rfl, h0⟩ | ⟨a0, c, rfl, hc⟩
   · subst h0
     have := run_copy_nil (P := P) w t t2 o.type e ⟨b, off, none⟩ dl dc ht (by rw [hs]; rfl)
     rw [this]
     have hn0 : news = [] := List.eq_nil_of_length_eq_zero hl
     subst hn0
     simp only [Nat.zero_min, List.take_nil, wr, List.append_nil, List.length_nil, Nat.add_zero, List.take_append_drop]
     have := setRow_self w b cs.toArray et (0, 0) hb
     simp only [goInt] 
     congr 1
     exact this.symm
   · have := run_copy_row (P := P) w t t2 o.type e b off dl dc a0 m c cs.toArray et (news.take (min m dl)) ht hs hb hlen (fun j v hj => by
      rw [List.getElem?_take] at hj
      split at hj
      · exact hc w q j v hj
      · cases hj) (by rw [hlen]; simpa using hfit) (fun v hv => by
      have := h1 v (List.mem_of_mem_take hv)
      cases v <;> simp_all [Value.oneCell'])
     rw [this, hlen]
     simp [goInt, wr, hlen]
  unfold Oper.wp execOp
  simp only [ho, resolve, invoke, builtin, Sem.run_bind, Sem.run_pure, Result.andThen_ok, List.map_toArray, List.map_cons, List.map_nil, f.eval hx, f.eval hy, hr]
  rw [Oper.upon_value, hd]
  subst hcs; subst hH'
  refine h _ _ (f.put (lb hn) _) (sm.trans ⟨rfl, rfl, rfl, by simp⟩) (q.write i (lb hi) hH (setRow_heap w b cs.toArray _ et _ hb) (fun k hk => setRow_other w b k _ hk))
theorem PV.maxI {t1 t2 : TypeId} {x y : Operand} {k : IntKind} {a b : Int} (ho : o.op = .call { callee := .builtin .max, args := #[x, y], argTypes := #[t1, t2] }) (hx : evL L x = some (.int k a)) (hy : evL L y = some (.int k b)) : PV P n D L S o (.int k (max a b)) := fun c w f _ => by
 simp [execOp, ho, resolve, invoke, builtin, f.eval hx, f.eval hy, Builtin.max_, Builtin.max2]
 split <;> (first | omega | (simp; omega) | simp_all)
theorem PV.minI {t1 t2 : TypeId} {x y : Operand} {k : IntKind} {a b : Int} (ho : o.op = .call { callee := .builtin .min, args := #[x, y], argTypes := #[t1, t2] }) (hx : evL L x = some (.int k a)) (hy : evL L y = some (.int k b)) : PV P n D L S o (.int k (min a b)) := fun c w f _ => by
 simp [execOp, ho, resolve, invoke, builtin, f.eval hx, f.eval hy, Builtin.min_, Builtin.min2]
 split <;> (first | omega | (simp; omega) | simp_all)
end
end Leg
end

section
namespace Leg
open Go Codec Api
def RdX (S : World → Prop) (b : Nat) (xs : List Value) : Prop := ∀ w, S w → ∀ j v, xs[j]? = some v → w.cell? ⟨b, j, none⟩ = some v
theorem RdX.own {H : List HP} {F : Hl} {g cap n : Nat} {xs : List Value} {e size : Nat} (i : Nat) (hi : Nat.blt i H.length = true) {v : Value} (hv : v = .slice (some ⟨g, 0, none⟩) n cap) (hH : H.getD i (fun _ => True) = Leg.own v n xs e size) : RdX (Sat H F) g xs := fun w s j u h => by
 subst hv
 obtain ⟨cur, h1, _, _, _, h2⟩ := s.own_block (lb hi) hH
 subst h2
 rw [List.getElem?_take] at h
 split at h
 · simpa [World.cell?, h1] using h
 · cases h
theorem RdX.frm {S : World → Prop} {F : Hl} {b : Nat} {cs : List Value} {T : TypeId} {z : Nat × Nat} (e : F b = some (.cells (List.toArray cs) T z)) (hS : ∀ w, S w → Frm F w) : RdX S b cs := fun w s j u h => by
 rw [cell_ofL (hS w s b _ e)]; exact h
section
variable {P : Program} {w0 : World} {F : Hl} {n : Nat} {ops : Array Oper} {Q : QQ} {D : List Deferred} {L : List (Nat × Value)} {H : List HP} {o : Oper} {l : List Oper} {d : Nat} {S : World → Prop}
theorem PV.load1X {t : TypeId} {x : Operand} {dt : TypeDesc} {b j : Nat} {xs : List Value} {v : Value} (ho : o.op = .load t x)
 (ht : P.underlying t = some dt) (hp : plainT dt = true) (hx : evL L x = some (.pointer (some ⟨b, j, none⟩))) (hR : RdX S b xs) (hc : xs[j]? = some v) : PV P n D L S o (v) :=
 fun a w f m => by
  simp [execOp, ho, f.eval hx, run_load1 ht hp (hR w m j v hc)]
theorem PV.loadNX {t : TypeId} {x : Operand} {dt : TypeDesc} {b j m : Nat} {xs vs : List Value} (ho : o.op = .load t x)
 (ht : P.underlying t = some dt) (hp : plainT dt = false) (hm : (P.info? t).map (·.size) = some m) (hx : evL L x = some (.pointer (some ⟨b, j, none⟩))) (hR : RdX S b xs)
 (hl : vs.length = m) (hc : (xs.drop j).take m = vs) : PV P n D L S o (.agg vs.toArray) :=
 fun a w f s => by
  have := run_loadN (P := P) (w := w) ht hp (b := b) (o := j) hm hl (fun i v e => by
   subst hc
   rw [List.getElem?_take] at e
   split at e
   · exact hR w s _ v (by simpa using e)
   · cases e)
  simp [execOp, ho, f.eval hx, this]
theorem PV.indexSlV {t e : TypeId} {x y : Operand} {v : Value} {b j len cap s r : Nat} {k : IntKind} {i : Int} (hv : v = .slice (some ⟨b, j, none⟩) len cap) (ho : o.op = .indexAddr t x y) (ht : P.underlying t = some (.slice e))
 (hs : (P.info? e).map (·.size) = some s) (hx : evL L x = some v) (hy : evL L y = some (.int k i)) (h0 : 0 ≤ i) (h1 : i < len) (hr : j + i.toNat * s = r) : PV P n D L S o (.pointer (some ⟨b, r, none⟩)) :=
 PV.indexSl ho ht hs (by rw [← hv]; exact hx) hy h0 h1 hr
theorem Sat.own_at {w : World} {v : Value} {nn e size : Nat} {xs : List Value} (i : Nat) (s : Sat H F w) (hi : Nat.blt i H.length = true) (hH : H.getD i (fun _ => True) = own v nn xs e size) (hpos : 0 < nn) :
 ∃ g cap, v = .slice (some ⟨g, 0, none⟩) nn cap ∧ (nn ≤ cap ∧ cap ≤ 9223372036854775807) := by
 rcases s.own_form (lb hi) hH with ⟨_, h0, _⟩ | ⟨g, cap, rfl⟩
 · omega
 · obtain ⟨_, _, h1, h2, _⟩ := s.own_block (lb hi) hH
   exact ⟨g, cap, rfl, h1, by simpa [maxLen] using h2⟩
theorem TC.ownAt {c : Code} {v : Value} {nn e size : Nat} {xs : List Value} (i : Nat) (hi : Nat.blt i H.length = true) (hH : H.getD i (fun _ => True) = own v nn xs e size) (hpos : 0 < nn)
 (h : ∀ g cap, v = .slice (some ⟨g, 0, none⟩) nn cap → nn ≤ cap ∧ cap ≤ 9223372036854775807 → TC P w0 F n c Q D L H) : TC P w0 F n c Q D L H := fun a w f s m =>
 let ⟨g, cap, hv, hc⟩ := m.own_at i hi hH hpos; h g cap hv hc a w f s m
theorem TL.ownAt {v : Value} {nn e size : Nat} {xs : List Value} (i : Nat) (hi : Nat.blt i H.length = true) (hH : H.getD i (fun _ => True) = own v nn xs e size) (hpos : 0 < nn)
 (h : ∀ g cap, v = .slice (some ⟨g, 0, none⟩) nn cap → nn ≤ cap ∧ cap ≤ 9223372036854775807 → TL P w0 F n ops Q l D L H) : TL P w0 F n ops Q l D L H := fun a w f s m =>
 let ⟨g, cap, hv, hc⟩ := m.own_at i hi hH hpos; h g cap hv hc a w f s m
theorem TL.fact {p : Prop} (hp : ∀ w, Sat H F w → p) (h : p → TL P w0 F n ops Q l D L H) : TL P w0 F n ops Q l D L H := fun a w f s m => h (hp w m) a w f s m
end
def IsW (v : Value) (bs : List UInt8) (F : Hl) : Prop := IsB v bs F ∨ ∃ a c, v = .slice (some a) 0 c ∧ bs = []
theorem IsB.w {v : Value} {bs : List UInt8} {F : Hl} (h : IsB v bs F) : IsW v bs F := .inl h
theorem IsW.more {v : Value} {bs : List UInt8} {F g : Hl} (h : IsW v bs F) (d : Dj g F) : IsW v bs (jn g F) := h.imp (fun x => x.more d) id
theorem IsW.len {v : Value} {bs : List UInt8} {F : Hl} (h : IsW v bs F) : SlLen v bs.length := by
 rcases h with h | ⟨a, c, rfl, rfl⟩
 · exact h.len
 · exact ⟨_, _, rfl⟩
theorem IsW.one {v : Value} {bs : List UInt8} {F : Hl} (h : IsW v bs F) : v.oneCell' = true := by
 rcases h with h | ⟨a, c, rfl, rfl⟩
 · exact h.one
 · rfl
theorem IsW.src {v : Value} {bs : List UInt8} {F : Hl} (h : IsW v bs F) {S : World → Prop} (hS : ∀ w, S w → Frm F w) : Src S v bs.length (u8s bs) 1 := by
 rcases h with h | ⟨a, c, rfl, rfl⟩
 · exact h.src hS
 · exact ⟨rfl, .inr ⟨a, c, rfl, fun w s j u hj => by simp [u8s] at hj⟩⟩
theorem IsW.at {v : Value} {bs : List UInt8} {F : Hl} (h : IsW v bs F) {j : Nat} (hj : j < bs.length) :
 ∃ b off cap cs T z, v = .slice (some ⟨b, off, none⟩) bs.length cap ∧ F b = some (.cells (List.toArray cs) T z) ∧ (∀ j, j < bs.length → cs[off + j]? = some (.int .u8 ((bs.getD j 0).toNat : Nat))) ∧ bs.length ≤ cap := by
 rcases h with (⟨_, rfl⟩ | ⟨b, off, cap, cs, T, z, h0, h1, h2, h3, h4⟩) | ⟨a, c, rfl, rfl⟩
 · simp at hj
 · exact ⟨b, off, cap, cs, T, z, h0, h3, h4, h1⟩
 · simp at hj
def pack {α : Type} (p : α → List HP) : HP := fun h => ∃ x, sep (p x) h
theorem sep_open {α : Type} {p : α → List HP} {H : List HP} {h : Hl} (s : sep (pack p :: H) h) : ∃ x, sep (p x ++ H) h := by
 obtain ⟨h1, h2, d, rfl, ⟨x, a⟩, b⟩ := s
 exact ⟨x, (sep_append _ _).2 ⟨h1, h2, d, rfl, a, b⟩⟩
theorem sep_close {α : Type} {p : α → List HP} {H : List HP} {h : Hl} (x : α) (s : sep (p x ++ H) h) : sep (pack p :: H) h :=
 star_mono ((sep_append _ _).1 s) (fun _ a => ⟨x, a⟩) fun _ b => b
section
variable {P : Program}
theorem Does.pack {α : Type} {f : FuncId} {args : Array Value} {R : Hl → Prop} {p : α → List HP} {B : List HP} {post : Ending → List HP → Prop} (s : ∀ x, Does P f args R (p x ++ B) post) : Does P f args R (Leg.pack p :: B) post := fun w F r ⟨h, d, e, t⟩ =>
 let ⟨x, t'⟩ := sep_open t; s x w F r ⟨h, d, e, t'⟩
theorem Does.ex {α : Sort _} {f : FuncId} {args : Array Value} {R : Hl → Prop} {A : List HP} {A' : α → List HP} {post : Ending → List HP → Prop} (m : ∀ h, sep A h → ∃ x, sep (A' x) h) (s : ∀ x, Does P f args R (A' x) post) : Does P f args R A post := fun w F r ⟨h, d, e, t⟩ =>
 let ⟨x, t'⟩ := m h t; s x w F r ⟨h, d, e, t'⟩
theorem Does.fold {f : FuncId} {args : Array Value} {R : Hl → Prop} {A : List HP} {post post' : Ending → List HP → Prop} (s : Does P f args R A post)
 (hpost : ∀ e H, post e H → ∃ H', (∀ h, sep H h → sep H' h) ∧ post' e H') : Does P f args R A post' :=
 s.conv (fun _ h => h) fun e H F w c m => let ⟨H', h1, h2⟩ := hpost e H c; ⟨H', m.mono h1, h2⟩
theorem Does.withinR {f : FuncId} {args : Array Value} {R : Hl → Prop} {A B C : List HP} {p p' : Value → List HP → Prop} (s : Does P f args R A (Ret p)) (hR : ∀ F g, R F → Dj g F → R (jn g F)) (hA : ∀ h, sep C h → sep (A ++ B) h)
 (hp : ∀ v H, p v H → ∃ H', (∀ h, sep (H ++ B) h → sep H' h) ∧ p' v H') : Does P f args R C (Ret p') := fun w F r m => by
 obtain ⟨g, d, b, m'⟩ := Sat.split (m.mono hA)
 refine (s w _ (hR F g r d) m').mono ?_
 rintro e w' ⟨s', H', m'', q⟩
 cases e with
 | returned v => obtain ⟨H2, h1, h2⟩ := hp v H' q; exact ⟨s', H2, (m''.merge d b).mono h1, h2⟩
 | panicked c => exact q.elim
 | outgrown => exact q.elim
end
end Leg
namespace Leg
open Go Codec Api
section
variable {P : Program} {n : Nat} {D : List Deferred} {L : List (Nat × Value)} {S : World → Prop} {o : Oper}
theorem PV.to {v v' : Value} (h : PV P n D L S o v) (e : v = v') : PV P n D L S o v' := e ▸ h
theorem PV.sliceArrHi {t e len : Nat} {x y : Operand} {b j s k : Nat} {kk : IntKind} {i : Int} (ho : o.op = .slice t x none (some y) none) (ht : P.underlying t = some (.array len e)) (hs : (P.info? e).map (·.size) = some s) (hx : evL L x = some (.pointer (some ⟨b, j, none⟩)))
 (hy : evL L y = some (.int kk i)) (hk : i = (k : Int)) (h1 : k ≤ len) (hl : Nat.blt 0 len = true) : PV P n D L S o (.slice (some ⟨b, j, none⟩) k len) := fun a w g _ => by
 subst hk
 have h0 : ¬ len = 0 := by have := lb hl; omega
 simp [execOp, ho, g.eval hx, g.eval hy, Instr.sliceAt, run_underlying ht, Instr.sureAddr, Instr.sliceBounds, Instr.sliceBound, asIntOf, h1, run_sizeL hs, addL]
end
def Hx (b : Nat) (xs : List Value) (w : World) : Prop := ∀ j v, xs[j]? = some v → w.cell? ⟨b, j, none⟩ = some v
theorem sep_ownNil (e size : Nat) {H : List HP} {h : Hl} (s : sep H h) : sep (own (.slice none 0 0) 0 [] e size :: H) h :=
 ⟨em, h, Dj.em' h, (em_jn h).symm, ⟨by simp, .inl ⟨rfl, rfl, rfl⟩⟩, s⟩
end Leg
namespace Leg
open Go Codec Api
def IsL {α : Type} (size : Nat) (E : List Value → α → Hl → Prop) (v : Value) (l : List α) (F : Hl) : Prop :=
 (v = .slice none 0 0 ∧ l = []) ∨ (∃ a c, v = .slice (some a) 0 c ∧ l = []) ∨
 ∃ b off cap cs T z, v = .slice (some ⟨b, off, none⟩) l.length cap ∧ l.length ≤ cap ∧ cap ≤ 9223372036854775807 ∧ F b = some (.cells (List.toArray cs) T z) ∧
  ∀ j (h : j < l.length), ∃ us, us.length = size ∧ (cs.drop (off + j * size)).take size = us ∧ E us l[j] F
section
variable {α : Type} {size : Nat} {E : List Value → α → Hl → Prop} {v : Value} {l : List α} {F g : Hl}
theorem IsL.len (h : IsL size E v l F) : SlLen v l.length := by
 rcases h with ⟨rfl, rfl⟩ | ⟨a, c, rfl, rfl⟩ | ⟨b, off, cap, cs, T, z, rfl, _⟩ <;> exact ⟨_, _, rfl⟩
theorem IsL.at (h : IsL size E v l F) {j : Nat} (hj : j < l.length) :
 ∃ b off cap cs T z us, v = .slice (some ⟨b, off, none⟩) l.length cap ∧ (l.length ≤ cap ∧ cap ≤ 9223372036854775807) ∧ F b = some (.cells (List.toArray cs) T z) ∧ us.length = size ∧ (cs.drop (off + j * size)).take size = us ∧ E us l[j] F := by
 rcases h with ⟨_, rfl⟩ | ⟨a, c, _, rfl⟩ | ⟨b, off, cap, cs, T, z, h0, h1, h2, h3, h4⟩
 · simp at hj
 · simp at hj
 · obtain ⟨us, e1, e2, e3⟩ := h4 j hj
   exact ⟨b, off, cap, cs, T, z, us, h0, ⟨h1, h2⟩, h3, e1, e2, e3⟩
end
theorem stretch_get {cs us : List Value} {o n j : Nat} {v : Value} (h : (cs.drop o).take n = us) (hj : us[j]? = some v) : cs[o + j]? = some v := by
 subst h
 rw [List.getElem?_take] at hj
 split at hj
 · simpa using hj
 · cases hj
def EB (us : List Value) (bs : List UInt8) (F : Hl) : Prop := ∃ u, us = [u] ∧ IsW u bs F
abbrev IsBB (v : Value) (l : List (List UInt8)) (F : Hl) : Prop := IsL 1 EB v l F
end Leg
namespace Leg
open Go Codec Api
theorem isB_blk (i : Nat) {g T : Nat} {bs : List UInt8} {B : List HP} {F : Hl} (hl : bs.length ≤ 9223372036854775807) (hi : Nat.blt i B.length = true) (e : B.getD i (fun _ => True) = blkA g (u8s bs) T) : ∀ h, Dj h F → sep B h → IsB (.slice (some ⟨g, 0, none⟩) bs.length bs.length) bs (jn h F) := fun h d s =>
 .inr ⟨g, 0, bs.length, u8s bs, T, (0, 0), rfl, Nat.le_refl _, hl, ro_piece i hi e h d s, fun j hj => by simp [u8s, List.getD_eq_getElem?_getD, hj]⟩
section
variable {P : Program} {n : Nat} {D : List Deferred} {L : List (Nat × Value)} {S : World → Prop} {o : Oper}
theorem PV.ptrNil {t t' : TypeId} {x y : Operand} {a : Addr} (ho : o.op = .binOp .eql t x y t') (ht : P.underlying t = some (.pointer (P.pointee t))) (hx : evL L x = some (.pointer (some a))) (hy : evL L y = some (.pointer none)) : PV P n D L S o (.bool false) :=
 PV.bin ho hx hy fun w => by
  have := run_eql_pointer_nil (P := P) w t (some a) ht
  simpa [eqGuard] using this
theorem PV.nilPtrNil {t t' : TypeId} {x y : Operand} (ho : o.op = .binOp .eql t x y t') (ht : P.underlying t = some (.pointer (P.pointee t))) (hx : evL L x = some (.pointer none)) (hy : evL L y = some (.pointer none)) : PV P n D L S o (.bool true) :=
 PV.bin ho hx hy fun w => by
  have := run_eql_pointer_nil (P := P) w t none ht
  simpa [eqGuard] using this
theorem PV.ptrNotNil {t t' : TypeId} {x y : Operand} {a : Addr} (ho : o.op = .binOp .neq t x y t') (ht : P.underlying t = some (.pointer (P.pointee t))) (hx : evL L x = some (.pointer (some a))) (hy : evL L y = some (.pointer none)) : PV P n D L S o (.bool true) :=
 PV.bin ho hx hy fun w => by
  have := run_neq_pointer_nil (P := P) w t (some a) ht
  simpa [eqGuard] using this
theorem PV.nilPtrNotNil {t t' : TypeId} {x y : Operand} (ho : o.op = .binOp .neq t x y t') (ht : P.underlying t = some (.pointer (P.pointee t))) (hx : evL L x = some (.pointer none)) (hy : evL L y = some (.pointer none)) : PV P n D L S o (.bool false) :=
 PV.bin ho hx hy fun w => by
  have := run_neq_pointer_nil (P := P) w t none ht
  simpa [eqGuard] using this
end
end Leg
namespace Leg
open Go Codec Api
section
variable {P : Program} {n : Nat} {D : List Deferred} {L : List (Nat × Value)} {S : World → Prop} {o : Oper}
end
end Leg
namespace Leg
open Go
section
variable {P : Program} {w0 : World} {F : Hl} {n : Nat} {Q : QQ} {D : List Deferred} {L : List (Nat × Value)} {H : List HP}
theorem TC.cut {α : Type} {c : Code} {K : Act → World → Prop} (Inv : α → Prop) (Lf : α → List (Nat × Value)) (Hf : α → List HP) (tail : ∀ x, Inv x → TE w0 F n (Exit.then K Q) .normal D (Lf x) (Hf x))
 (main : (∀ x, Inv x → TE w0 F n (Exit.then K Q) .normal D (Lf x) (Hf x)) → TC P w0 F n c (Exit.then K Q) D L H) : TC P w0 F n c (Exit.then K Q) D L H := main tail
end
end Leg
end

section
namespace Leg
open Go Codec Api
def kindL : Lit → Option (Option IntKind)
 | .int q _ => some (some q)
 | .bool _ => some none
 | _ => none
def cellL : Lit → Value
 | .int q n => .int q n
 | .bool b => .bool b
 | _ => undef
def flatKF (P : Program) (g : TypeId → Option (List (Option IntKind))) : List Field → Nat → Option (List (Option IntKind))
 | [], _ => some []
 | f :: fs, o => match g f.type with
  | some c => if f.offset = o ∧ P.cellsOf f.type = c.length then (flatKF P g fs (o + c.length)).map (c ++ ·) else none
  | none => none
def flatK (P : Program) : Nat → TypeId → Option (List (Option IntKind))
 | 0, _ => none
 | d + 1, t => match P.underlying t with
  | some (.int q) => some [some q]
  | some .bool => some [none]
  | some (.array n e) => match flatK P d e with
   | some c => if P.cellsOf e = c.length ∧ P.cellsOf t = n * c.length then some (List.replicate n c).flatten else none
   | none => none
  | some (.struct fs) => match flatKF P (flatK P d) fs.toList 0 with
   | some m => if P.cellsOf t = m.length ∧ fs.all (·.name != "_") = true then some m else none
   | none => none
  | _ => none
def Fits (ks : List (Option IntKind)) (ls : List Lit) : Prop := ls.map kindL = ks.map some ∧ ∀ l ∈ ls, l.wf = true
theorem Fits.len {ks : List (Option IntKind)} {ls : List Lit} (h : Fits ks ls) : ls.length = ks.length := by
 have := congrArg List.length h.1
 simpa using this
theorem Fits.sub {ks : List (Option IntKind)} {ls : List Lit} (h : Fits ks ls) (a b : Nat) : Fits ((ks.drop a).take b) ((ls.drop a).take b) :=
 ⟨by rw [List.map_take, List.map_drop, h.1, List.map_take, List.map_drop], fun l hl => h.2 l (List.mem_of_mem_drop (List.mem_of_mem_take hl))⟩
theorem cells_sub (l : List Lit) (a b : Nat) : ((l.map cellL).drop a).take b = ((l.drop a).take b).map cellL := by simp [List.map_drop, List.map_take]
theorem chunk_rep {α : Type} (c : List α) : ∀ (n i : Nat), i < n → ((List.replicate n c).flatten.drop (i * c.length)).take c.length = c
 | 0, _, h => by omega
 | n + 1, 0, _ => by
  rw [List.replicate_succ, List.flatten_cons, Nat.zero_mul, List.drop_zero]
  exact List.take_left
 | n + 1, i + 1, h => by
  rw [List.replicate_succ, List.flatten_cons, List.drop_append, show (i + 1) * c.length = i * c.length + c.length by rw [Nat.add_mul, Nat.one_mul], List.drop_of_length_le (by omega), List.nil_append, Nat.add_sub_cancel]
  exact chunk_rep c n i (by omega)
theorem fields_lits {P : Program} {d : Nat} (ih : ∀ t ks, flatK P d t = some ks → ∀ l : List Lit, Fits ks l → P.keyLits d t (l.map cellL) = some l) (l : List Lit) :
 ∀ (fs : List Field) (o : Nat) (ks : List (Option IntKind)), flatKF P (flatK P d) fs o = some ks → o ≤ l.length → Fits ks (l.drop o) →
  ∃ L, (fs.mapM fun f => P.keyLits d f.type (((l.map cellL).drop f.offset).take (P.cellsOf f.type))) = some L ∧ L.flatten = l.drop o
 | [], o, ks, h, _, hf => by
  simp only [flatKF, Option.some.injEq] at h
  subst h
  have := hf.len
  exact ⟨[], rfl, (List.eq_nil_of_length_eq_zero (by simpa using this)).symm⟩
 | f :: fs, o, ks, h, ho, hf => by
  simp only [flatKF] at h
  split at h
  · rename_i c hc
    split at h
    · rename_i hh
      obtain ⟨m, hm, rfl⟩ := Option.map_eq_some_iff.1 h
      have hlen := hf.len
      rw [List.length_append, List.length_drop] at hlen
      have f1 : Fits c ((l.drop o).take c.length) := by
       have := hf.sub 0 c.length
       simpa using this
      have f2 : Fits m (l.drop (o + c.length)) := by
       have e : (l.drop (o + c.length)) = (((l.drop o).drop c.length).take ((l.drop o).length)) := by
        rw [List.drop_drop, List.take_of_length_le (by simp; omega)]
       have := hf.sub c.length (l.drop o).length
       rw [e]
       have e2 : (((c ++ m).drop c.length).take (l.drop o).length) = m := by
        rw [List.drop_left, List.take_of_length_le (by rw [List.length_drop]; omega)]
       rwa [e2] at this
      obtain ⟨L, h1, h2⟩ := fields_lits ih l fs (o + c.length) m hm (by omega) f2
      have e : P.keyLits d f.type (((l.map cellL).drop f.offset).take (P.cellsOf f.type)) = some ((l.drop o).take c.length) := by
       rw [cells_sub, hh.1, hh.2]
       exact ih f.type c hc _ f1
      refine ⟨(l.drop o).take c.length :: L, by rw [List.mapM_cons, e, h1]; rfl, ?_⟩
      rw [List.flatten_cons, h2, ← List.drop_drop]
      exact List.take_append_drop _ _
    · cases h
  · cases h
theorem keyLits_lits {P : Program} : ∀ (d : Nat) (t : TypeId) (ks : List (Option IntKind)), flatK P d t = some ks → ∀ l : List Lit, Fits ks l → P.keyLits d t (l.map cellL) = some l
 | 0, _, _, h => by simp [flatK] at h
 | d + 1, t, ks, h => fun l hl => by
  have ih := keyLits_lits (P := P) d
  simp only [flatK] at h
  split at h
  · rename_i q hu
    simp only [Option.some.injEq] at h
    subst h
    obtain ⟨x, rfl⟩ := List.length_eq_one_iff.1 (by simpa using hl.len)
    have h1 := hl.1
    have h2 := hl.2 x (by simp)
    simp only [List.map_cons, List.map_nil, List.cons.injEq, and_true] at h1
    cases x <;> simp only [kindL, Option.some.injEq, reduceCtorEq] at h1
    subst h1
    simp [Program.keyLits, hu, cellL, h2]
  · rename_i hu
    simp only [Option.some.injEq] at h
    subst h
    obtain ⟨x, rfl⟩ := List.length_eq_one_iff.1 (by simpa using hl.len)
    have h1 := hl.1
    simp only [List.map_cons, List.map_nil, List.cons.injEq, and_true] at h1
    cases x <;> simp only [kindL, Option.some.injEq, reduceCtorEq] at h1
    simp [Program.keyLits, hu, cellL]
  · rename_i n e hu
    split at h
    · rename_i c hc
      split at h
      · rename_i hh
        simp only [Option.some.injEq] at h
        subst h
        have hlen : l.length = n * c.length := by
         rw [hl.len]; simp [List.length_flatten]
        have hm : ((List.range n).mapM fun i => P.keyLits d e (((l.map cellL).drop (i * P.cellsOf e)).take (P.cellsOf e))) = some ((List.range n).map fun i => (l.drop (i * c.length)).take c.length) := by
         refine mapM_some fun i hi => ?_
         have hi' : i < n := List.mem_range.1 hi
         rw [hh.1, cells_sub]
         refine ih e c hc _ ?_
         have := hl.sub (i * c.length) c.length
         rwa [chunk_rep c n i hi'] at this
        have hf : (((List.range n).map fun i => (l.drop (i * c.length)).take c.length)).flatten = l := chunks c.length n l hlen
        unfold Program.keyLits
        simp only [hu]
        rw [if_pos (by rw [List.length_map, hlen, hh.2]), hm, Option.map_some, hf]
      · cases h
    · cases h
  · rename_i fs hu
    split at h
    · rename_i m' hc
      split at h
      · rename_i hh
        simp only [Option.some.injEq] at h
        subst h
        obtain ⟨L, h1, h2⟩ := fields_lits (P := P) (d := d) (fun t m h l => ih t m h l) l fs.toList 0 _ hc (Nat.zero_le _) (by simpa using hl)
        unfold Program.keyLits
        simp only [hu]
        rw [if_pos ⟨by rw [List.length_map, hl.len, hh.1], hh.2⟩, h1, Option.map_some, h2]
        rfl
      · cases h
    · cases h
  · cases h
section
variable {P : Program} {n : Nat} {D : List Deferred} {L : List (Nat × Value)} {S : World → Prop} {o : Oper}
def aggT (P : Program) (t : TypeId) : Bool := match P.underlying t with
 | some (.struct _) => true
 | some (.array _ _) => true
 | _ => false
theorem formedL {t : TypeId} {l : List Lit} {ks : List (Option IntKind)} (hu : aggT P t = true) (hc : P.cellsOf t = ks.length) (h : Fits ks l) : Value.formed P t (.agg (l.map cellL).toArray) = true := by
 unfold aggT at hu
 unfold Value.formed
 split at hu
 · rename_i h1; simp [h1, hc, h.len]
 · rename_i h1; simp [h1, hc, h.len]
 · cases hu
theorem run_eqL {t : TypeId} {a b : List Lit} [Decidable (a = b)] {m : Nat} {ks : List (Option IntKind)} (hk : P.keyTypeAt m t = true) (hm : Nat.ble m 10000 = true) (hF : flatK P m t = some ks)
 (hu : aggT P t = true) (hc : P.cellsOf t = ks.length) (wa : Fits ks a) (wb : Fits ks b) (w : World) :
 (Op.equalIn 10000 t (.agg (a.map cellL).toArray) (.agg (b.map cellL).toArray)).run P w = .ok (decide (a = b)) w := by
 have hm' : m ≤ 10000 := Nat.le_of_ble_eq_true hm
 obtain ⟨r, hr, hi⟩ := run_equalIn_deep (10000 - m) m t hk w m m (.agg (a.map cellL).toArray) (.agg (b.map cellL).toArray) a b (formedL hu hc wa) (formedL hu hc wb) (by simpa [Value.cells] using keyLits_lits m t ks hF a wa) (by simpa [Value.cells] using keyLits_lits m t ks hF b wb)
 rw [show 10000 - m + m = 10000 by omega] at hr
 have e : r = decide (a = b) := by
  rw [Bool.eq_iff_iff, hi, decide_eq_true_iff]
 rw [hr, e]
theorem PV.eqlL {t t' : TypeId} {x y : Operand} {a b : List Lit} [Decidable (a = b)] {m : Nat} {ks : List (Option IntKind)} (hg : P.eqGuardType P.depth t = false) (hk : P.keyTypeAt m t = true) (hm : Nat.ble m 10000 = true) (hF : flatK P m t = some ks)
 (hu : aggT P t = true) (hc : P.cellsOf t = ks.length) (wa : Fits ks a) (wb : Fits ks b)
 (ho : o.op = .binOp .eql t x y t') (hx : evL L x = some (.agg (a.map cellL).toArray)) (hy : evL L y = some (.agg (b.map cellL).toArray)) : PV P n D L S o (.bool (decide (a = b))) :=
 PV.bin ho hx hy fun w => by
  rw [Sem.run_bind, run_eqGuard_agg w .eql t x y _ _ hg, Result.andThen_ok, run_eql_struct, run_eqL hk hm hF hu hc wa wb w]
  rfl
end
def litB (l : List UInt8) : List Lit := l.map fun b => Lit.int .u8 ((b.toNat : Nat) : Int)
theorem litB_cells (l : List UInt8) : (litB l).map cellL = u8s l := by simp [litB, u8s, cellL]
theorem litB_inj {a b : List UInt8} : litB a = litB b ↔ a = b := by
 refine List.map_inj_right fun u v h => ?_
 injection h with _ h
 exact UInt8.toNat_inj.1 (by exact_mod_cast h)
theorem litB_fits {l : List UInt8} {n : Nat} (h : l.length = n) : Fits (List.replicate n (some .u8)) (litB l) := by
 subst h
 refine ⟨?_, fun x hx => ?_⟩
 · rw [List.map_replicate, litB, List.map_map, List.eq_replicate_iff]
   refine ⟨by simp, fun y hy => ?_⟩
   obtain ⟨z, _, rfl⟩ := List.mem_map.1 hy
   rfl
 · obtain ⟨z, _, rfl⟩ := List.mem_map.1 hx
   have := z.toNat_lt
   have m1 : IntKind.u8.min = 0 := by decide
   have m2 : IntKind.u8.max = 255 := by decide
   simp only [Lit.wf, m1, m2, decide_eq_true_eq, Bool.and_eq_true]
   omega
section
variable {P : Program} {n : Nat} {D : List Deferred} {L : List (Nat × Value)} {S : World → Prop} {o : Oper}
theorem PV.eqlBy {t t' : TypeId} {x y : Operand} {a b : List UInt8} {m c : Nat} (hg : P.eqGuardType P.depth t = false) (hk : P.keyTypeAt m t = true) (hm : Nat.ble m 10000 = true) (hF : flatK P m t = some (List.replicate c (some .u8)))
 (hu : aggT P t = true) (hc : P.cellsOf t = c) (ha : a.length = c) (hb : b.length = c)
 (ho : o.op = .binOp .eql t x y t') (hx : evL L x = some (.agg (u8s a).toArray)) (hy : evL L y = some (.agg (u8s b).toArray)) : PV P n D L S o (.bool (decide (a = b))) := by
 letI : Decidable (litB a = litB b) := decidable_of_iff _ litB_inj.symm
 have := PV.eqlL (P := P) (n := n) (D := D) (L := L) (S := S) (o := o) (t := t) (t' := t') (x := x) (y := y) (a := litB a) (b := litB b) hg hk hm hF hu (by rw [hc, List.length_replicate]) (litB_fits ha) (litB_fits hb) ho (by rw [litB_cells]; exact hx) (by rw [litB_cells]; exact hy)
 simpa [litB_inj] using this
end
end Leg
end

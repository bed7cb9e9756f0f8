/-
  My own layer, first part: what a call owns of memory (a list of pieces, kept apart), and what lies besides.
-/
import Derived.WalkKit
import Derived.Deep.LoopGhost
import Derived.Deep.MidRow
import Derived.Deep.RegionHeld
namespace Leg
open Go

/-! ### Parts of memory -/

/-- A part of memory: some blocks. -/
abbrev Hl := Nat → Option Obj
/-- A claim on a part of memory. -/
abbrev HP := Hl → Prop

def hp (w : World) : Hl := fun b => w.heap[b]?
def Dj (h g : Hl) : Prop := ∀ b, h b = none ∨ g b = none
def jn (h g : Hl) : Hl := fun b => match h b with
  | some o => some o
  | none => g b
def em : Hl := fun _ => none
def sg (b : Nat) (o : Obj) : Hl := fun c => if c = b then some o else none

theorem jn_some {h g : Hl} {b : Nat} {o : Obj} (e : h b = some o) : jn h g b = some o := by simp [jn, e]
theorem jn_none {h g : Hl} {b : Nat} (e : h b = none) : jn h g b = g b := by simp [jn, e]
theorem jn_eq {h g : Hl} {b : Nat} : jn h g b = (match h b with | some o => some o | none => g b) := rfl

theorem Dj.symm {h g : Hl} (d : Dj h g) : Dj g h := fun b => (d b).symm
theorem jn_comm {h g : Hl} (d : Dj h g) : jn h g = jn g h := by
  funext b
  rcases d b with e | e <;> cases e1 : h b <;> cases e2 : g b <;> simp_all [jn]
theorem jn_assoc (h g k : Hl) : jn (jn h g) k = jn h (jn g k) := by
  funext b; cases e1 : h b <;> simp [jn, e1]
theorem Dj.jn_left {h g k : Hl} : Dj (jn h g) k ↔ Dj h k ∧ Dj g k := by
  constructor
  · intro d
    refine ⟨fun b => ?_, fun b => ?_⟩
    · rcases d b with e | e
      · cases e1 : h b <;> simp_all [jn]
      · exact .inr e
    · rcases d b with e | e
      · cases e1 : h b <;> simp_all [jn]
      · exact .inr e
  · rintro ⟨d1, d2⟩ b
    rcases d1 b with e | e
    · rcases d2 b with e' | e'
      · exact .inl (by simp [jn, e, e'])
      · exact .inr e'
    · exact .inr e
theorem Dj.jn_right {h g k : Hl} : Dj h (jn g k) ↔ Dj h g ∧ Dj h k :=
  ⟨fun d => let ⟨a, b⟩ := Dj.jn_left.1 d.symm; ⟨a.symm, b.symm⟩, fun ⟨a, b⟩ => (Dj.jn_left.2 ⟨a.symm, b.symm⟩).symm⟩
theorem jn_em (h : Hl) : jn h em = h := by funext b; cases e : h b <;> simp [jn, e, em]
theorem em_jn (h : Hl) : jn em h = h := by funext b; simp [jn, em]
theorem Dj.em (h : Hl) : Dj h em := fun _ => .inr rfl
theorem Dj.em' (h : Hl) : Dj Leg.em h := fun _ => .inl rfl
/-- h is part of g. -/
def Le (h g : Hl) : Prop := ∀ b o, h b = some o → g b = some o
theorem Le.refl (h : Hl) : Le h h := fun _ _ e => e
theorem Le.trans {h g k : Hl} (a : Le h g) (b : Le g k) : Le h k := fun c o e => b c o (a c o e)
theorem Le.left (h g : Hl) : Le h (jn h g) := fun _ _ e => jn_some e
theorem Le.right {h g : Hl} (d : Dj h g) : Le g (jn h g) := by rw [jn_comm d]; exact Le.left g h

/-! ### Pieces -/

def star (p q : HP) : HP := fun h => ∃ h1 h2, Dj h1 h2 ∧ h = jn h1 h2 ∧ p h1 ∧ q h2
/-- The pieces of a list lie apart in a part of memory (which may hold more). -/
def sep : List HP → HP
  | [] => fun _ => True
  | p :: ps => star p (sep ps)

theorem star_comm {p q : HP} {h : Hl} (s : star p q h) : star q p h := by
  obtain ⟨h1, h2, d, rfl, a, b⟩ := s
  exact ⟨h2, h1, d.symm, jn_comm d, b, a⟩
theorem star_assoc {p q r : HP} {h : Hl} : star (star p q) r h ↔ star p (star q r) h := by
  constructor
  · rintro ⟨_, h3, d, rfl, ⟨h1, h2, d', rfl, a, b⟩, c⟩
    obtain ⟨d1, d2⟩ := Dj.jn_left.1 d
    exact ⟨h1, jn h2 h3, Dj.jn_right.2 ⟨d', d1⟩, jn_assoc .., a, h2, h3, d2, rfl, b, c⟩
  · rintro ⟨h1, _, d, rfl, a, h2, h3, d', rfl, b, c⟩
    obtain ⟨d1, d2⟩ := Dj.jn_right.1 d
    exact ⟨jn h1 h2, h3, Dj.jn_left.2 ⟨d2, d'⟩, (jn_assoc ..).symm, ⟨h1, h2, d1, rfl, a, b⟩, c⟩
theorem star_mono {p p' q q' : HP} {h : Hl} (s : star p q h) (a : ∀ h, p h → p' h) (b : ∀ h, q h → q' h) : star p' q' h := by
  obtain ⟨h1, h2, d, e, x, y⟩ := s
  exact ⟨h1, h2, d, e, a _ x, b _ y⟩
/-- 'sep' bears more memory. -/
theorem sep_more : ∀ (H : List HP) {h g : Hl}, sep H h → Dj h g → sep H (jn h g)
  | [], _, _, _, _ => trivial
  | p :: ps, h, g, s, d => by
    obtain ⟨h1, h2, d', rfl, a, b⟩ := s
    obtain ⟨d1, d2⟩ := Dj.jn_left.1 d
    exact ⟨h1, jn h2 g, Dj.jn_right.2 ⟨d', d1⟩, jn_assoc .., a, sep_more ps b d2⟩
theorem sep_append : ∀ (A B : List HP) {h : Hl}, sep (A ++ B) h ↔ star (sep A) (sep B) h
  | [], B, h => by
    constructor
    · intro s; exact ⟨em, h, Dj.em' h, (em_jn h).symm, trivial, s⟩
    · rintro ⟨h1, h2, d, rfl, _, s⟩
      rw [jn_comm d]; exact sep_more _ s d.symm
  | p :: ps, B, h => by
    show star p (sep (ps ++ B)) h ↔ star (star p (sep ps)) (sep B) h
    rw [star_assoc]
    constructor
    · intro s; exact star_mono s (fun _ x => x) fun _ x => (sep_append ps B).1 x
    · intro s; exact star_mono s (fun _ x => x) fun _ x => (sep_append ps B).2 x
theorem sep_perm {A B : List HP} (e : A.Perm B) : ∀ {h : Hl}, sep A h → sep B h := by
  induction e with
  | nil => intro h s; exact s
  | cons x _ ih => intro h s; exact star_mono s (fun _ y => y) fun _ y => ih y
  | swap x y l =>
    intro h s
    have t := star_assoc.2 s
    exact star_assoc.1 (star_mono t (fun _ z => star_comm z) fun _ z => z)
  | trans _ _ ih1 ih2 => intro h s; exact ih2 (ih1 s)
/-- Fewer pieces. -/
theorem sep_drop {p : HP} {H : List HP} {h : Hl} (s : sep (p :: H) h) : sep H h := by
  obtain ⟨h1, h2, d, rfl, _, b⟩ := s
  rw [jn_comm d]; exact sep_more _ b d.symm

/-- The pieces that a list of places names, and the others. -/
def pick (H : List HP) : List Nat → List HP
  | [] => []
  | i :: is => H.getD i (fun _ => True) :: pick H is
def rest (H : List HP) (is : List Nat) : List HP := (H.zipIdx.filter fun p => !is.contains p.2).map (·.1)

theorem perm_get {α : Type} (d : α) : ∀ (H : List α) (i : Nat), i < H.length → H.Perm (H.getD i d :: H.eraseIdx i)
  | [], i, h => by simp at h
  | x :: xs, 0, _ => by simp
  | x :: xs, i + 1, h => by
    have ih := perm_get d xs i (by simpa using h)
    simp only [List.getD_cons_succ, List.eraseIdx_cons_succ]
    exact (List.Perm.cons x ih).trans (List.Perm.swap ..)

/-- Piece number i, and the rest. -/
theorem sep_get {H : List HP} {h : Hl} (i : Nat) (hi : i < H.length) (s : sep H h) : star (H.getD i (fun _ => True)) (sep (H.eraseIdx i)) h :=
  sep_perm (perm_get _ H i hi) s
theorem sep_put {H : List HP} {h : Hl} {p : HP} (i : Nat) (hi : i < H.length) (s : star p (sep (H.eraseIdx i)) h) : sep (H.set i p) h := by
  have e : (p :: H.eraseIdx i).Perm (H.set i p) := by
    have := perm_get (fun _ => True) (H.set i p) i (by simpa using hi)
    simp only [List.getD_eq_getElem?_getD, List.getElem?_set_self hi, Option.getD_some, List.eraseIdx_set_eq] at this
    exact this.symm
  exact sep_perm e s

/-! ### A block of cells -/

/-- A block of cells, not frozen. -/
def blk (b : Nat) (cs : List Value) (t : TypeId) : HP := fun h => h = sg b (.cells cs.toArray t (0, 0))
/-- Any block. -/
def obj (b : Nat) (o : Obj) : HP := fun h => h = sg b o

/-! ### The world -/

/-- All that is neither memory nor the tape. -/
structure Same (w w' : World) : Prop where
  os : w'.os = w.os
  tape : w'.tape = w.tape
  output : w'.output = w.output
  size : w.heap.size ≤ w'.heap.size
theorem Same.refl (w : World) : Same w w := ⟨rfl, rfl, rfl, Nat.le_refl _⟩
theorem Same.trans {a b c : World} (x : Same a b) (y : Same b c) : Same a c :=
  ⟨y.os.trans x.os, y.tape.trans x.tape, y.output.trans x.output, Nat.le_trans x.size y.size⟩

/-- Memory is: the pieces H, and besides these F. -/
def Sat (H : List HP) (F : Hl) (w : World) : Prop := ∃ h, Dj h F ∧ hp w = jn h F ∧ sep H h

theorem Sat.perm {A B : List HP} {F : Hl} {w : World} (e : A.Perm B) (s : Sat A F w) : Sat B F w := by
  obtain ⟨h, d, e', x⟩ := s
  exact ⟨h, d, e', sep_perm e x⟩
theorem Sat.mono {A B : List HP} {F : Hl} {w : World} (s : Sat A F w) (e : ∀ h, sep A h → sep B h) : Sat B F w := by
  obtain ⟨h, d, e', x⟩ := s
  exact ⟨h, d, e', e h x⟩
theorem Sat.drew {H : List HP} {F : Hl} {w : World} (s : Sat H F w) : Sat H F w.drew := s
/-- What lies besides is as it was. -/
theorem Sat.frame {H : List HP} {F : Hl} {w : World} (s : Sat H F w) {b : Nat} {o : Obj} (e : F b = some o) : w.heap[b]? = some o := by
  obtain ⟨h, d, e', _⟩ := s
  have : hp w b = some o := by
    rw [e']
    rcases d b with x | x
    · rw [jn_none x]; exact e
    · rw [x] at e; cases e
  exact this
/-- Some of the pieces are set aside. -/
theorem Sat.split {A B : List HP} {F : Hl} {w : World} (s : Sat (A ++ B) F w) : ∃ g, Dj g F ∧ sep B g ∧ Sat A (jn g F) w := by
  obtain ⟨h, d, e, x⟩ := s
  obtain ⟨h1, h2, d', rfl, a, b⟩ := (sep_append A B).1 x
  obtain ⟨d1, d2⟩ := Dj.jn_left.1 d
  exact ⟨h2, d2, b, h1, Dj.jn_right.2 ⟨d', d1⟩, by rw [e, jn_assoc], a⟩
theorem Sat.merge {A B : List HP} {F g : Hl} {w : World} (d : Dj g F) (b : sep B g) (s : Sat A (jn g F) w) : Sat (A ++ B) F w := by
  obtain ⟨h, d', e, a⟩ := s
  obtain ⟨d1, d2⟩ := Dj.jn_right.1 d'
  exact ⟨jn h g, Dj.jn_left.2 ⟨d2, d⟩, by rw [e, jn_assoc], (sep_append A B).2 ⟨h, g, d1, rfl, a, b⟩⟩
/-- A block that is a piece of its own. -/
theorem Sat.block {H : List HP} {F : Hl} {w : World} (s : Sat H F w) (i : Nat) {b : Nat} {o : Obj} (hi : i < H.length) (e : H.getD i (fun _ => True) = obj b o) : w.heap[b]? = some o := by
  obtain ⟨h, d, e', x⟩ := s
  obtain ⟨h1, h2, d', rfl, a, _⟩ := sep_get i hi x
  rw [e] at a
  have : hp w b = some o := by
    rw [e', jn_assoc]
    exact jn_some (by rw [a]; simp [sg])
  exact this
theorem Sat.alloc {H : List HP} {F : Hl} {w : World} (s : Sat H F w) (o : Obj) : Sat (obj w.heap.size o :: H) F (w.alloc o) := by
  obtain ⟨h, d, e, x⟩ := s
  have hn : hp w w.heap.size = none := by simp [hp]
  rw [e] at hn
  have n1 : h w.heap.size = none := by cases k : h w.heap.size <;> simp_all [jn]
  have n2 : F w.heap.size = none := by rw [jn_none n1] at hn; exact hn
  have d1 : Dj (sg w.heap.size o) h := fun b => by
    by_cases k : b = w.heap.size
    · exact .inr (k ▸ n1)
    · exact .inl (by simp [sg, k])
  have d2 : Dj (sg w.heap.size o) F := fun b => by
    by_cases k : b = w.heap.size
    · exact .inr (k ▸ n2)
    · exact .inl (by simp [sg, k])
  refine ⟨jn (sg w.heap.size o) h, Dj.jn_left.2 ⟨d2, d⟩, ?_, sg w.heap.size o, h, d1, rfl, rfl, x⟩
  rw [jn_assoc, ← e]
  funext b
  show (w.heap.push o)[b]? = _
  rw [Array.getElem?_push]
  by_cases k : b = w.heap.size
  · subst k; simp [jn, sg]
  · simp [jn, sg, k, hp]
/-- A block is written anew. -/
theorem Sat.write {H : List HP} {F : Hl} {w w' : World} (s : Sat H F w) (i : Nat) {b : Nat} {o o' : Obj} (hi : i < H.length) (e : H.getD i (fun _ => True) = obj b o)
    (hw : w'.heap[b]? = some o') (hother : ∀ k, k ≠ b → w'.heap[k]? = w.heap[k]?) : Sat (H.set i (obj b o')) F w' := by
  obtain ⟨h, d, e', x⟩ := s
  obtain ⟨h1, h2, d', rfl, a, y⟩ := sep_get i hi x
  rw [e] at a
  obtain ⟨d1, d2⟩ := Dj.jn_left.1 d
  have key : ∀ g : Hl, Dj h1 g → Dj (sg b o') g := fun g dg c => by
    by_cases k : c = b
    · subst k
      rcases dg c with z | z
      · rw [a] at z; simp [sg] at z
      · exact .inr z
    · exact .inl (by simp [sg, k])
  refine ⟨jn (sg b o') h2, Dj.jn_left.2 ⟨key _ d1, d2⟩, ?_, sep_put i hi ⟨_, h2, key _ d', rfl, rfl, y⟩⟩
  funext c
  show w'.heap[c]? = _
  by_cases k : c = b
  · subst k; rw [hw]; simp [jn, sg]
  · rw [hother c k]
    show hp w c = _
    rw [e', a]
    simp [jn, sg, k]

end Leg

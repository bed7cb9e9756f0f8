/-
  Slices whose elements are structs of numbers: lists of records.
-/
import Derived.Test.YtdekgkmbcdlekaaLegV
import Derived.Test.YtdekgkmbcdlekaaApiS
namespace Leg
open Go Codec Api

/-- Elements that are structs of numbers, told by a record. -/
def EF {α : Type} (f : α → List Int) (us : List Value) (x : α) (_ : Hl) : Prop := us = ints (f x)
theorem EF.more {α : Type} {f : α → List Int} (us : List Value) (x : α) (F g : Hl) (h : EF f us x F) (_ : Dj g F) : EF f us x (jn g F) := h
section
variable {α : Type} {f : α → List Int} {m : Nat}
theorem flat_sub (hf : ∀ x, (f x).length = m) (l : List α) {i : Nat} (hi : i < l.length) : ((ints (l.flatMap f)).drop (i * m)).take m = ints (f l[i]) := by
  rw [vs_eq]
  have hl := vs_sl hf l
  have := hl.sub (s := ints (f l[i])) i 0 m (by simp [hi]) (by simp [hi]) (sum_rep m l.length i (by omega)) (Nat.le_of_eq (Nat.zero_add m))
  rw [Nat.add_zero] at this
  rw [this, List.drop_zero, List.take_of_length_le (by rw [ints_length, hf]; exact Nat.le_refl _)]
theorem flat_len (hf : ∀ x, (f x).length = m) (l : List α) : (ints (l.flatMap f)).length = l.length * m := by
  rw [ints_length]
  induction l with
  | nil => simp
  | cons x l ih => rw [List.flatMap_cons, List.length_append, ih, hf, List.length_cons, Nat.add_mul]; omega
/-- An owned slice of structs, lent to be read. -/
theorem isF_own (hf : ∀ x, (f x).length = m) (i : Nat) {v : Value} {l : List α} {e : Nat} {B : List HP} {F : Hl} (hi : Nat.blt i B.length = true) (hH : B.getD i (fun _ => True) = own v l.length (ints (l.flatMap f)) e m) : ∀ g, Dj g F → sep B g → IsL m (EF f) v l (jn g F) := fun g _ s => by
  obtain ⟨h1, h2, d', rfl, a, _⟩ := sep_get i (lb hi) s
  rw [hH] at a
  rcases a with ⟨_, ⟨h0, hn, _⟩ | ⟨g, cap, cur, hv, hh, h3, h4, h5, h6⟩⟩
  · exact .inl ⟨h0, List.eq_nil_of_length_eq_zero hn⟩
  · refine .inr (.inr ⟨g, 0, cap, cur.toList, e, (0, 0), hv, h3, by simp only [maxLen] at h4; omega, jn_some (jn_some (by rw [hh]; simp [sg])), fun j hj => ⟨ints (f l[j]), by rw [ints_length, hf], ?_, rfl⟩⟩)
    have hj2 : j * m + m ≤ l.length * m := by rw [← Nat.succ_mul]; exact Nat.mul_le_mul_right m hj
    rw [Nat.zero_add, ← flat_sub hf l hj, ← h6, List.drop_take, List.take_take, Nat.min_eq_left (by omega)]
theorem IsL.src (hm : 0 < m) (hf : ∀ x, (f x).length = m) {S : World → Prop} {v : Value} {l : List α} {F : Hl} (h : IsL m (EF f) v l F) (hS : ∀ w, S w → Frm F w) : Src S v l.length (ints (l.flatMap f)) m := by
  refine ⟨flat_len hf l, ?_⟩
  rcases h with ⟨rfl, rfl⟩ | ⟨a, c, rfl, rfl⟩ | ⟨b, off, cap, cs, T, z, rfl, h1, h2, h3, h4⟩
  · exact .inl ⟨rfl, rfl⟩
  · exact .inr ⟨a, c, rfl, fun w _ j u h => by simp [ints] at h⟩
  · refine .inr ⟨⟨b, off, none⟩, cap, rfl, fun w s j u h => ?_⟩
    have hj := (List.getElem?_eq_some_iff.1 h).1
    rw [flat_len hf] at hj
    have hq : j / m < l.length := (Nat.div_lt_iff_lt_mul hm).2 hj
    obtain ⟨us, e1, e2, e3⟩ := h4 (j / m) hq
    have e4 : us = ints (f l[j / m]) := e3
    have hr := Nat.mod_lt j hm
    have hd := Nat.div_add_mod j m
    rw [Nat.mul_comm] at hd
    have e5 : (((ints (l.flatMap f)).drop (j / m * m)).take m)[j % m]? = some u := by
      rw [List.getElem?_take, if_pos hr, List.getElem?_drop, hd]; exact h
    rw [flat_sub hf l hq, ← e4, ← e2, List.getElem?_take, if_pos hr, List.getElem?_drop] at e5
    rw [addL, cell_ofL (hS w s b _ h3)]
    rw [← e5]; congr 1; show off + j = _; omega
/-- Some elements of a slice. -/
theorem IsL.first {E : List Value → α → Hl → Prop} {a : Option Addr} {c k n : Nat} {l : List α} {F : Hl} (h : IsL m E (.slice a n c) l F) (hk : k ≤ l.length) : IsL m E (.slice a k c) (l.take k) F := by
  have hl : (l.take k).length = k := by rw [List.length_take]; omega
  rcases h with ⟨h, rfl⟩ | ⟨a', c', h, rfl⟩ | ⟨b, off, cap, cs, T, z, h, h1, h2, h3, h4⟩
  · have : k = 0 := by simpa using hk
    subst this
    injection h with e1 e2 e3
    subst e1; subst e3
    exact .inl ⟨rfl, rfl⟩
  · have : k = 0 := by simpa using hk
    subst this
    injection h with e1 e2 e3
    subst e1; subst e3
    exact .inr (.inl ⟨a', c, rfl, rfl⟩)
  · injection h with e1 e2 e3
    subst e1; subst e3
    by_cases e : k = 0
    · subst e; exact .inr (.inl ⟨_, c, rfl, rfl⟩)
    · exact .inr (.inr ⟨b, off, c, cs, T, z, by rw [hl], by omega, h2, h3, fun j hj => let ⟨us, e1, e2, e3⟩ := h4 j (by omega); ⟨us, e1, e2, by rw [List.getElem_take]; exact e3⟩⟩)
end
section
variable {P : Program} {w0 : World} {F : Hl} {n : Nat} {ops : Array Oper} {Q : QQ} {D : List Deferred} {L : List (Nat × Value)} {H : List HP} {o : Oper} {l : List Oper} {S : World → Prop}
theorem TL.ownForm {v : Value} {nn e size : Nat} {xs : List Value} (k : Nat) (hk : Nat.blt k H.length = true) (hH : H.getD k (fun _ => True) = own v nn xs e size)
    (h : ∀ a cap, v = .slice a nn cap → nn ≤ cap → TL P w0 F n ops Q l D L H) : TL P w0 F n ops Q l D L H := fun a w f s m => by
  rcases m.own_form (lb hk) hH with ⟨rfl, rfl, _⟩ | ⟨g, cap, rfl⟩
  · exact h _ _ rfl (Nat.le_refl _) a w f s m
  · obtain ⟨_, _, hc, _⟩ := m.own_block (lb hk) hH
    exact h _ _ rfl hc a w f s m
theorem PV.sliceF {t e s : Nat} {x z : Operand} {a : Option Addr} {len cap hi : Nat} {k' : IntKind} {j : Int} (ho : o.op = .slice t x none (some z) none) (ht : P.underlying t = some (.slice e)) (hs : (P.info? e).map (·.size) = some s)
    (hx : evL L x = some (.slice a len cap)) (hz : evL L z = some (.int k' j)) (hj : j = (hi : Int)) (h2 : hi ≤ cap) : PV P n D L S o (.slice a hi cap) :=
  fun b w g _ => by
    subst hj
    simp only [execOp, ho, g.eval hx, Option.map_some, Option.map_none, g.eval hz]
    by_cases q : cap = 0
    · have e2 : hi = 0 := by omega
      subst e2
      simp [Instr.sliceAt, Instr.slice, run_underlying ht, Instr.sliceBounds, Instr.sliceBound, asIntOf, run_sizeL hs, q]
    · cases a <;> simp [Instr.sliceAt, Instr.slice, run_underlying ht, Instr.sliceBounds, Instr.sliceBound, asIntOf, h2, run_sizeL hs, q, Addr.add]
end
end Leg

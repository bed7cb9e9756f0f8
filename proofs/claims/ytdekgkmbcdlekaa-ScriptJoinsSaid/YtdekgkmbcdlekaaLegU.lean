/-
  Cells that stand in parts one behind the other: reading and writing parts of them.
-/
import Derived.Test.YtdekgkmbcdlekaaLegR
namespace Leg
open Go Codec Api

/-- Parts, and how long each is. -/
inductive SL : List (List Value) → List Nat → Prop
  | nil : SL [] []
  | cons {s : List Value} {n : Nat} {L : List (List Value)} {ns : List Nat} (h : s.length = n) (r : SL L ns) : SL (s :: L) (n :: ns)
theorem SL.split {L : List (List Value)} {ns : List Nat} (h : SL L ns) (i : Nat) {n : Nat} (hn : ns[i]? = some n) : ∃ s A B, L[i]? = some s ∧ s.length = n ∧ L.flatten = A ++ (s ++ B) ∧ A.length = (ns.take i).sum ∧ ∀ v, (L.set i v).flatten = A ++ (v ++ B) := by
  induction h generalizing i with
  | nil => simp at hn
  | @cons s m L ns hs r ih =>
    cases i with
    | zero =>
      simp only [List.getElem?_cons_zero, Option.some.injEq] at hn
      exact ⟨s, [], L.flatten, rfl, by omega, by simp, rfl, fun v => by simp⟩
    | succ i =>
      obtain ⟨t, A, B, h1, h2, h3, h4, h5⟩ := ih i (by simpa using hn)
      exact ⟨t, s ++ A, B, by simpa using h1, h2, by simp [h3], by simp [h4, hs], fun v => by simp [h5 v]⟩
theorem SL.len {L : List (List Value)} {ns : List Nat} (h : SL L ns) : L.flatten.length = ns.sum := by
  induction h with
  | nil => rfl
  | cons hs r ih => simp [ih, hs]
/-- One of the parts, read whole. -/
theorem SL.get {L : List (List Value)} {ns : List Nat} (h : SL L ns) (i : Nat) {s : List Value} {n off : Nat} (hn : ns[i]? = some n) (hs : L[i]? = some s) (ho : (ns.take i).sum = off) : (L.flatten.drop off).take n = s := by
  obtain ⟨t, A, B, h1, h2, h3, h4, _⟩ := h.split i hn
  obtain rfl : t = s := by rw [h1] at hs; exact Option.some.inj hs
  rw [h3, ← ho, ← h4, List.drop_left, ← h2, List.take_left]
/-- A stretch within a part. -/
theorem SL.sub {L : List (List Value)} {ns : List Nat} (h : SL L ns) (i : Nat) {s : List Value} {n off : Nat} (j m : Nat) (hn : ns[i]? = some n) (hs : L[i]? = some s) (ho : (ns.take i).sum = off) (hj : j + m ≤ n) : (L.flatten.drop (off + j)).take m = (s.drop j).take m := by
  obtain ⟨t, A, B, h1, h2, h3, h4, _⟩ := h.split i hn
  obtain rfl : t = s := by rw [h1] at hs; exact Option.some.inj hs
  rw [h3, ← ho, ← h4, ← List.drop_drop, List.drop_left, List.drop_append_of_le_length (by omega), List.take_append_of_le_length (by simp; omega)]
theorem SL.at {L : List (List Value)} {ns : List Nat} (h : SL L ns) (i : Nat) {s : List Value} {n off : Nat} (j : Nat) (hn : ns[i]? = some n) (hs : L[i]? = some s) (ho : (ns.take i).sum = off) (hj : j < n) : L.flatten[off + j]? = s[j]? := by
  obtain ⟨t, A, B, h1, h2, h3, h4, _⟩ := h.split i hn
  obtain rfl : t = s := by rw [h1] at hs; exact Option.some.inj hs
  rw [h3, ← ho, ← h4, List.getElem?_append_right (by omega), Nat.add_sub_cancel_left, List.getElem?_append_left (by omega)]
/-- One of the parts written anew. -/
theorem SL.put {L : List (List Value)} {ns : List Nat} (h : SL L ns) (i : Nat) {n off : Nat} (vs : List Value) (hn : ns[i]? = some n) (ho : (ns.take i).sum = off) (hv : vs.length = n) : wr L.flatten off vs = (L.set i vs).flatten := by
  obtain ⟨t, A, B, h1, h2, h3, h4, h5⟩ := h.split i hn
  rw [h5, h3, ← ho, ← h4, wr_append_right (Nat.le_refl _), Nat.sub_self, wr_append_left (by omega), wr_whole (by omega)]
theorem SL.putIn {L : List (List Value)} {ns : List Nat} (h : SL L ns) (i : Nat) {s s' : List Value} {n off : Nat} (j : Nat) (vs : List Value) (hn : ns[i]? = some n) (hs : L[i]? = some s) (ho : (ns.take i).sum = off) (hj : j + vs.length ≤ n) (hw : wr s j vs = s') : wr L.flatten (off + j) vs = (L.set i s').flatten := by
  obtain ⟨t, A, B, h1, h2, h3, h4, h5⟩ := h.split i hn
  obtain rfl : t = s := by rw [h1] at hs; exact Option.some.inj hs
  rw [h5, h3, ← ho, ← h4, wr_append_right (by omega), Nat.add_sub_cancel_left, wr_append_left (by omega), hw]
theorem SL.set {L : List (List Value)} {ns : List Nat} (h : SL L ns) (i : Nat) {s : List Value} {n off : Nat} (j : Nat) (v : Value) (hn : ns[i]? = some n) (hs : L[i]? = some s) (ho : (ns.take i).sum = off) (hj : j < n) : L.flatten.set (off + j) v = (L.set i (s.set j v)).flatten := by
  obtain ⟨t, A, B, h1, h2, h3, h4, h5⟩ := h.split i hn
  obtain rfl : t = s := by rw [h1] at hs; exact Option.some.inj hs
  rw [h5, h3, ← ho, ← h4, List.set_append_right _ _ (by omega), Nat.add_sub_cancel_left, List.set_append_left _ _ (by omega)]
/-- The parts ahead of one, it, and those behind. -/
theorem SL.around {L : List (List Value)} {ns : List Nat} (h : SL L ns) (i : Nat) {s : List Value} {n off : Nat} (hn : ns[i]? = some n) (hs : L[i]? = some s) (ho : (ns.take i).sum = off) : ∃ A B, L.flatten = A ++ (s ++ B) ∧ A.length = off ∧ ∀ v, (L.set i v).flatten = A ++ (v ++ B) := by
  obtain ⟨t, A, B, h1, h2, h3, h4, h5⟩ := h.split i hn
  obtain rfl : t = s := by rw [h1] at hs; exact Option.some.inj hs
  exact ⟨A, B, h3, by omega, h5⟩
section
variable {P : Program} {w0 : World} {F : Hl} {n : Nat} {ops : Array Oper} {Q : QQ} {D : List Deferred} {L : List (Nat × Value)} {H : List HP} {S : World → Prop}
/-- An operation whose guard was not reckoned. -/
theorem TD.takeNotU {i d fuel j e : Nat} {b : Bool} {listed : Array Bool} {o : Oper} (hi : ops[i]? = some o) (hs : Region.noSelect ops = true) (hf : Region.free .any ops listed i = true) (hr : (Region.ready .any ops listed).contains i = true)
    (hQ : ∀ c a v w, Q (.panic c) (a.put o.dst v) w → Q (.panic c) a w) (hg : o.guard = some (j, b)) (hj : (ops[j]?).bind (·.dst) = some e) (he : lk L e = some undef) (hd : o.dst = some d) (hn : Nat.blt d n = true)
    (h : TD P w0 F n ops Q S fuel (listed.setIfInBounds i true) D ((d, undef) :: L) H) : TD P w0 F n ops Q S (fuel + 1) listed D L H := fun a w f s t hS => by
  refine wpAnyH_take (v := undef) hi hs hf hr (fun c a w => hQ c a undef w) (.inr ⟨?_, rfl⟩) hS ?_
  · simp [Region.wanted, hg, yielded, hj, f.2.2 e _ he, undef]
  rw [hd]
  exact h _ w (f.put (lb hn) _) s t hS
end
end Leg

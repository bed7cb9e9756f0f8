/-
  What layer 15's statements want in plain words: changes as elements, views behind changes.
-/
import Derived.Test.YtdekgkmbcdlekaaRowQ
import Derived.Test.YtdekgkmbcdlekaaLegQ
namespace Api
open Go Leg Codec

/-- Elements that are changes. -/
def EC (us : List Value) (c : ChangeT) (_ : Hl) : Prop := us = ints c.flat
theorem EC.more (us : List Value) (c : ChangeT) (F g : Hl) (h : EC us c F) (_ : Dj g F) : EC us c (jn g F) := h
theorem rng_fold : ∀ (l : List ChangeT) (v : ViewT), Rng v → Rng (l.foldl stepV v)
  | [], _, h => h
  | c :: l, _, h => rng_fold l _ (h.step c)
theorem fold_take {l : List ChangeT} {k : Nat} (h : k < l.length) (v : ViewT) : (l.take (k + 1)).foldl stepV v = stepV ((l.take k).foldl stepV v) l[k] := by
  rw [List.take_succ_eq_append_getElem h, List.foldl_append]; rfl
theorem addE_ok : ∀ (l : List Int) (s : Int), 0 ≤ s → (∀ n ∈ l, okN n = true) → s + l.sum ≤ 1099511627776 → (addE l s).2 = 0
  | [], _, _, _, _ => rfl
  | n :: l, s, h0, h, hs => by
    have hn : 0 ≤ n ∧ n ≤ 1099511627776 := of_decide_eq_true (h n (by simp))
    have hl : 0 ≤ l.sum := by
      have : ∀ l' : List Int, (∀ n ∈ l', okN n = true) → 0 ≤ l'.sum := fun l' => by
        induction l' with
        | nil => intro _; exact Int.le_refl _
        | cons a t ih => intro h; have h1 : 0 ≤ a ∧ a ≤ 1099511627776 := of_decide_eq_true (h a (by simp)); have := ih (fun n hn => h n (by simp [hn])); rw [List.sum_cons]; omega
      exact this l fun n hn => h n (by simp [hn])
    rw [List.sum_cons] at hs
    rw [addE, if_pos (h n (by simp)), if_neg (by omega)]
    exact addE_ok l (s + n) (by omega) (fun n hn => h n (by simp [hn])) (by omega)
/-- What the document says of a cell, so far. -/
def CellSo (c : CellT) (j : Nat) (sum : Int) : Prop := okN c.inn = true ∧ okN c.out = true ∧ (∀ (i : Nat) (h : i < 5), i < j → okN c.given[i] = true) ∧ sum = (c.given.toList.take j).sum
theorem CellSo.step {c : CellT} {j : Nat} {sum : Int} (h : CellSo c j sum) (hj : j < 5) (hg : 0 ≤ c.given[j] ∧ c.given[j] ≤ 1099511627776) : CellSo c (j + 1) (sum + c.given[j]) := by
  obtain ⟨h1, h2, h3, h4⟩ := h
  refine ⟨h1, h2, fun i hi hij => ?_, ?_⟩
  · by_cases q : i = j
    · subst q; exact decide_eq_true hg
    · exact h3 i hi (by omega)
  · rw [List.take_succ_eq_append_getElem (by simpa using hj), List.sum_append, ← h4]; simp
theorem CellSo.okC {c : CellT} {sum : Int} (h : CellSo c 5 sum) (hs : sum ≤ 1099511627776) : okC c = true := by
  obtain ⟨h1, h2, h3, h4⟩ := h
  rw [List.take_of_length_le (by simp)] at h4
  unfold Api.okC
  rw [h1, h2, Bool.true_and, Bool.true_and, decide_eq_true_iff]
  refine addE_ok _ 0 (by omega) (fun n hn => ?_) (by omega)
  obtain ⟨i, hi, rfl⟩ := List.getElem_of_mem hn
  have := h3 i (by simpa using hi) (by simpa using hi)
  simpa using this
/-- What the law makes of a message: small numbers. -/
def tameB (b : BallotT) : BallotT := ⟨b.round % 1024, b.who % 256 % 5⟩
def tameG (c : ChangeT) : ChangeT := ⟨c.kind % 2, c.who % 256 % 5, c.heir % 256 % 5⟩
def fullM (m : MsgT) (v : ViewT) : MsgT := ⟨m.kind % 256 % 10, m.whose % 256 % 5, m.row, m.version % 1024, m.epoch % 1024, tameB m.ballot, tameB m.had, tameG m.change, v⟩
def tameM (m : MsgT) (v : ViewT) : MsgT := normM (fullM m v)
end Api

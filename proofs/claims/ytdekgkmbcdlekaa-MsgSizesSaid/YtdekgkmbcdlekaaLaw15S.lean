/-
  MsgSizes in plain words: how many numbers lie in bytes, and what that says of messages.
-/
import Derived.Test.YtdekgkmbcdlekaaLaw15Q
namespace Api
open Go Leg Codec

def ends (bs : List UInt8) : Nat := bs.countP (fun b => decide (b.toNat < 128))
theorem ends_append (a b : List UInt8) : ends (a ++ b) = ends a + ends b := List.countP_append
theorem ends_encU (n : Nat) : ends (encU n) = 1 := by
  induction n using Nat.strongRecOn with
  | ind n ih =>
    by_cases h : n < 128
    · rw [encU_lo h]
      have e : (UInt8.ofNat n).toNat = n := by simp; omega
      simp [ends, List.countP_cons]; omega
    · rw [encU_hi h]
      have := ih (n / 128) (by omega)
      unfold ends at this ⊢
      rw [List.countP_cons, this]
      have e : (UInt8.ofNat (n % 128 + 128)).toNat = n % 128 + 128 := by simp; omega
      rw [if_neg (by rw [e, decide_eq_true_iff]; omega)]
theorem ends_encN (n : Int) : ends (encN n) = 1 := ends_encU _
theorem ends_encs (l : List Int) : ends (encs l) = l.length := by
  induction l with
  | nil => rfl
  | cons n l ih => rw [encs_cons, ends_append, ends_encN, ih, List.length_cons]; omega
theorem ends_heirs (x : RowT) : ∀ m i, i + m ≤ 5 → m ≤ ends (encHeirs x m i)
  | 0, _, _ => Nat.zero_le _
  | m + 1, i, h => by
    have ih := ends_heirs x m (i + 1) (by omega)
    simp only [encHeirs]
    rw [dif_pos (by omega), ends_append, ends_append, ends_encN]
    omega
theorem ends_row (x : RowT) : 34 ≤ ends (encRow x) := by
  have := ends_heirs x 5 0 (by omega)
  rw [encRow, ends_append, ends_append, ends_encN, ends_encs, flats_length]
  simp only [Vector.length_toList]; omega
theorem enc_ends {m : MsgT} (hk : 0 ≤ m.kind ∧ m.kind < 10) : (kRow m.kind = true ∧ 36 ≤ ends (encM m)) ∨ (¬ kRow m.kind = true ∧ ends (encM m) ≤ 9 ∧ (ends (encM m) = 9 → m.kind = 4 ∨ m.kind = 8)) := by
  unfold encM
  split
  · rename_i c; have := ends_row m.row; refine .inl ⟨c, ?_⟩; rw [ends_append, ends_encs]; simp only [List.length_cons, List.length_nil]; omega
  rename_i c
  refine .inr ⟨c, ?_⟩
  split
  · rw [ends_encs]; simp
  split
  · rw [ends_append, ends_encs, ends_encs]; simp [BallotT.flat]
  split
  · rename_i h; rw [ends_append, ends_append, ends_append, ends_encs, ends_encs, ends_encs, ends_encs]; exact ⟨by simp [BallotT.flat, ChangeT.flat], fun _ => .inl h⟩
  split
  · rw [ends_append, ends_append, ends_encs, ends_encs, ends_encs]; simp [BallotT.flat, ChangeT.flat]
  split
  · rw [ends_append, ends_encs, ends_encs]; simp [ViewT.flat]
  split
  · rename_i h; rw [ends_append, ends_encs, ends_encs]; exact ⟨by simp [ViewT.flat], fun _ => .inr h⟩
  · simp [ends]
theorem encM_head {m : MsgT} (hk : 0 ≤ m.kind ∧ m.kind < 10) : ∃ r, encM m = encN m.kind ++ r := by
  unfold encM
  split
  · exact ⟨encs [m.whose] ++ encRow m.row, by rw [encs_cons, List.append_assoc]⟩
  split
  · exact ⟨_, encs_cons _ _⟩
  split
  · exact ⟨encs [m.epoch] ++ encs m.ballot.flat, by rw [encs_cons, List.append_assoc]⟩
  split
  · exact ⟨encs [m.epoch] ++ (encs m.ballot.flat ++ (encs m.had.flat ++ encs m.change.flat)), by rw [encs_cons]; simp only [List.append_assoc]⟩
  split
  · exact ⟨encs [m.epoch] ++ (encs m.ballot.flat ++ encs m.change.flat), by rw [encs_cons]; simp only [List.append_assoc]⟩
  split
  · exact ⟨encs m.view.flat, by rw [encs_cons, encs_nil, List.append_nil]⟩
  split
  · exact ⟨encs [m.whose] ++ encs m.view.flat, by rw [encs_cons, List.append_assoc]⟩
  rename_i c0 c1 c2 c3 c4 c5 c6
  have := kRow_cases c0 c2
  omega
theorem kind_of {K : Int} (h0 : 0 ≤ K) (h1 : K < 16) {r : List UInt8} {m : MsgT} (hk : 0 ≤ m.kind ∧ m.kind < 10) (h : encN K ++ r = encM m) : m.kind = K := by
  obtain ⟨r', e⟩ := encM_head hk
  have a := numP_encN (n := K) h0 (by omega) r
  have b := numP_encN (n := m.kind) hk.1 (by omega) r'
  rw [h, e, b] at a
  injection a with a; injection a
/-- What is no message, by the count of its numbers. -/
theorem dec_count {K : Int} (h0 : 0 ≤ K) (h1 : K < 16) (r : List UInt8) : (decM (encN K ++ r)).2 = 0 → (0 ≤ K ∧ K < 10) ∧ ((kRow K = true ∧ 36 ≤ 1 + ends r) ∨ (¬ kRow K = true ∧ 1 + ends r ≤ 9 ∧ (1 + ends r = 9 → K = 4 ∨ K = 8))) := fun h => by
  rcases decM_any (encN K ++ r) with ⟨m, e1, e2, _, _, e3⟩ | e1
  · obtain ⟨_, _, hk, _⟩ := msg_spec e3
    have e := kind_of h0 h1 hk e2
    have := enc_ends hk
    rw [← e2, ends_append, ends_encN, e] at this
    exact ⟨by omega, this⟩
  · rw [e1] at h; cases h
theorem dec_snd (bs : List UInt8) : (decM bs).2 = 0 ∨ (decM bs).2 = 1 := by
  rcases decM_any bs with ⟨m, e, _⟩ | e <;> rw [e]
  · exact .inl rfl
  · exact .inr rfl
theorem dec_some {bs : List UInt8} {m : MsgT} {g : Bool} (h : readMsgP bs = some ((m, g), [])) : (decM bs).2 = 0 ↔ g = true := by
  unfold decM; rw [h]
  cases g <;> simp
theorem dec_none {bs : List UInt8} (h : readMsgP bs = none) : (decM bs).2 = 0 ↔ False := by
  unfold decM; rw [h]; simp
theorem small5 {W : Int} (h0 : 0 ≤ W) (h1 : W < 16) (r : List UInt8) : smallP 5 (encN W ++ r) = if W < 5 then some (W, r) else none := by
  split
  · exact smallP_enc h0 (by assumption) (by omega) r
  · exact smallP_big h0 (by assumption) (by omega) r
section
variable {K W : Int} (h0 : 0 ≤ K) (h1 : K < 16) (w0 : 0 ≤ W) (w1 : W < 16) {v : ViewT} (hv : OkV v)
include h0 h1 w0 w1 hv
omit w0 w1 hv in
theorem sizes1 : (decM (encs [K, W] ++ encs v.flat)).2 = 0 → K = 4 ∨ K = 8 := fun h => by
  have := dec_count h0 h1 (encN W ++ encs v.flat) (by rw [← List.append_assoc]; simpa [encs] using h)
  rw [ends_append, ends_encN, ends_encs] at this
  simp only [ViewT.flat, List.length_cons, Vector.length_toList] at this
  rcases this.2 with h | h
  · exfalso; have := h.2; omega
  · exact h.2.2 trivial
omit h0 h1 in
theorem sizes2 (hK : K = 8) : (decM (encs [K, W] ++ encs v.flat)).2 = 0 ↔ W < 5 ∧ rightV v = true := by
  subst hK
  have e : readMsgP (encs [8, W] ++ encs v.flat) = if W < 5 then some ((⟨8, W, .zero, 0, 0, .zero, .zero, .zero, v⟩, rightV v), []) else none := by
    rw [show encs [8, W] ++ encs v.flat = encN 8 ++ (encN W ++ (encs v.flat ++ [])) by simp [encs]]
    unfold readMsgP
    rw [pb_some (smallP_enc (n := 8) (by decide) (by decide) (by decide) _)]
    simp only [kRow, kAsk, show decide ((8 : Int) = 0 ∨ (8 : Int) = 2 ∨ (8 : Int) = 9) = false by decide, show decide ((8 : Int) = 3 ∨ (8 : Int) = 6) = false by decide, Bool.false_eq_true, if_false, show ¬ (8 : Int) = 1 by decide, show ¬ (8 : Int) = 4 by decide, show ¬ (8 : Int) = 5 by decide, show ¬ (8 : Int) = 7 by decide, if_true]
    by_cases c : W < 5
    · rw [if_pos c, pb_some (by rw [small5 w0 w1, if_pos c]), pb_some (view_enc hv [])]; rfl
    · rw [if_neg c, pb_none (by rw [small5 w0 w1, if_neg c])]
  by_cases c : W < 5
  · rw [if_pos c] at e; rw [dec_some e]; simp [c]
  · rw [if_neg c] at e; rw [dec_none e]; simp [c]
omit h0 h1 w0 w1 in
theorem sizes3 (hK : K = 7) : (decM (encs [K] ++ encs v.flat)).2 = 0 ↔ rightV v = true := by
  subst hK
  have e : readMsgP (encs [7] ++ encs v.flat) = some ((⟨7, 0, .zero, 0, 0, .zero, .zero, .zero, v⟩, rightV v), []) := by
    rw [show encs [7] ++ encs v.flat = encN 7 ++ (encs v.flat ++ []) by simp [encs]]
    unfold readMsgP
    rw [pb_some (smallP_enc (n := 7) (by decide) (by decide) (by decide) _)]
    simp only [kRow, kAsk, show decide ((7 : Int) = 0 ∨ (7 : Int) = 2 ∨ (7 : Int) = 9) = false by decide, show decide ((7 : Int) = 3 ∨ (7 : Int) = 6) = false by decide, Bool.false_eq_true, if_false, show ¬ (7 : Int) = 1 by decide, show ¬ (7 : Int) = 4 by decide, show ¬ (7 : Int) = 5 by decide, if_true]
    rw [pb_some (view_enc hv [])]; rfl
  rw [dec_some e]
omit hv in
theorem sizes4 {x : RowT} (hx : TameR x) (hr : rightR x = true) : (decM (encs [K, W] ++ encRow x)).2 = 0 ↔ W < 5 ∧ (K = 0 ∨ K = 2 ∨ K = 9) := by
  have eb : encs [K, W] ++ encRow x = encN K ++ (encN W ++ (encRow x ++ [])) := by simp [encs]
  by_cases c : kRow K = true
  · have hk : K = 0 ∨ K = 2 ∨ K = 9 := of_decide_eq_true c
    have e : readMsgP (encs [K, W] ++ encRow x) = if W < 5 then some ((⟨K, W, x, 0, 0, .zero, .zero, .zero, .zero⟩, rightR x), []) else none := by
      rw [eb]; unfold readMsgP
      rw [pb_some (smallP_enc (n := K) h0 (by omega) (by omega) _)]
      simp only [if_pos c]
      by_cases cw : W < 5
      · rw [if_pos cw, pb_some (by rw [small5 w0 w1, if_pos cw]), pb_some (rowP_enc hx [])]; rfl
      · rw [if_neg cw, pb_none (by rw [small5 w0 w1, if_neg cw])]
    by_cases cw : W < 5
    · rw [if_pos cw] at e; rw [dec_some e]; simp [cw, hk, hr]
    · rw [if_neg cw] at e; rw [dec_none e]; simp [cw]
  · have hk : ¬ (K = 0 ∨ K = 2 ∨ K = 9) := fun e => c (decide_eq_true e)
    constructor
    · intro h
      rw [eb] at h
      have := dec_count h0 h1 _ h
      rw [ends_append, ends_append, ends_encN] at this
      have r := ends_row x
      rcases this.2 with h | h
      · exact absurd h.1 c
      · exfalso; omega
    · intro h; exact absurd h.2 hk
end
/-- The law's views. -/
def maskV (v : ViewT) : ViewT := ⟨v.epoch % 8, v.members % 32, v.heirs.map fun h => h % 8 % 6⟩
theorem maskV_get (v : ViewT) (i : Nat) (h : i < 5) : (maskV v).heirs[i] = v.heirs[i] % 8 % 6 := by simp [maskV]
theorem maskV_ok (v : ViewT) : OkV (maskV v) := ⟨⟨by show 0 ≤ v.epoch % 8; omega, by show v.epoch % 8 < _; omega⟩, ⟨by show 0 ≤ v.members % 32; omega, by show v.members % 32 < _; omega⟩, fun i h => by rw [maskV_get v i h]; omega⟩
theorem maskV_rng (v : ViewT) : Rng (maskV v) := fun i h => by rw [maskV_get v i h]; omega
def rowOf (q : Int) : RowT := { RowT.zero with version := q % 1024 }
theorem rowOf_tame (q : Int) : TameR (rowOf q) := ⟨⟨by show 0 ≤ q % 1024; omega, by show q % 1024 < _; omega⟩, tame_rzero.cells, tame_rzero.heir, tame_rzero.left, tame_rzero.none⟩
theorem rowOf_right (q : Int) : rightR (rowOf q) = true := by
  have h := rightR_zero
  unfold rightR at h ⊢
  rw [Bool.and_eq_true, Bool.and_eq_true, decide_eq_true_iff, decide_eq_true_iff] at h ⊢
  exact ⟨⟨by show 0 ≤ q % 1024; omega, h.1.2⟩, h.2⟩
end Api

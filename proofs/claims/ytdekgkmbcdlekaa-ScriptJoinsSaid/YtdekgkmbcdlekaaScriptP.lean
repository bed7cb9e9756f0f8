/-
  Ops as bytes and back, in plain words.
-/
import Derived.Test.YtdekgkmbcdlekaaLegW
import Derived.Test.YtdekgkmbcdlekaaWalP
namespace Api
open Go Leg Codec Wal

def hv (a b : Int) : UInt8 := r8 (a % 16 + b % 16 * 16)
theorem or16f : ∀ (x y : Fin 16), orI .i64 ((x.val : Nat) : Int) (((y.val * 16 : Nat) : Nat) : Int) = ((x.val + y.val * 16 : Nat) : Int) := by decide +kernel
theorem or16 (a b : Int) : orI .i64 (a % 16) (b % 16 * 16) = a % 16 + b % 16 * 16 := by
  have := or16f ⟨(a % 16).toNat, by omega⟩ ⟨(b % 16).toNat, by omega⟩
  simp only at this
  rw [show (((a % 16).toNat : Nat) : Int) = a % 16 by omega, show ((((b % 16).toNat * 16 : Nat) : Nat) : Int) = b % 16 * 16 by omega] at this
  rw [this]; omega
theorem and15f : ∀ b : Fin 256, andI .u8 ((b.val : Nat) : Int) 15 = ((b.val % 16 : Nat) : Int) := by decide +kernel
theorem shr4f : ∀ b : Fin 256, ((b.val : Nat) : Int).fdiv (2 ^ min (4 : Int).toNat IntKind.u8.bits) = ((b.val / 16 : Nat) : Int) := by decide +kernel
def encOp (o : OpT) : List UInt8 := [hv o.kind o.at', hv o.to' o.key, r8 o.n] ++ (if o.kind = 4 then [hv o.change.kind o.change.who, r8 o.change.heir] else [r8 o.mask, r8 (o.torn + 1)])
def encOps (l : List OpT) : List UInt8 := l.flatMap encOp
def lo4 (b : UInt8) : Int := ((b.toNat % 16 : Nat) : Int)
def hi4 (b : UInt8) : Int := ((b.toNat / 16 : Nat) : Int)
def n8 (b : UInt8) : Int := ((b.toNat : Nat) : Int)
def decOp (b0 b1 b2 b3 b4 : UInt8) : OpT :=
  if lo4 b0 = 4 then ⟨lo4 b0, hi4 b0, lo4 b1, hi4 b1, n8 b2, ⟨lo4 b3, hi4 b3, n8 b4⟩, 0, 0, 0⟩
  else if lo4 b0 = 10 then ⟨lo4 b0, hi4 b0, lo4 b1, hi4 b1, n8 b2, .zero, n8 b3, n8 b4 - 1, n8 b2⟩
  else ⟨lo4 b0, hi4 b0, lo4 b1, hi4 b1, n8 b2, .zero, 0, 0, 0⟩
def opsP : List UInt8 → List OpT
  | b0 :: b1 :: b2 :: b3 :: b4 :: r => decOp b0 b1 b2 b3 b4 :: opsP r
  | _ => []
def tameO (o : OpT) : OpT :=
  if o.kind % 16 = 4 then ⟨o.kind % 16, o.at' % 16, o.to' % 16, o.key % 16, o.n % 256, ⟨o.change.kind % 16, o.change.who % 16, o.change.heir % 256⟩, 0, 0, 0⟩
  else if o.kind % 16 = 10 then ⟨o.kind % 16, o.at' % 16, o.to' % 16, o.key % 16, o.n % 256, .zero, o.mask % 256, (o.torn + 1) % 256 - 1, o.n % 256⟩
  else ⟨o.kind % 16, o.at' % 16, o.to' % 16, o.key % 16, o.n % 256, .zero, 0, 0, 0⟩
theorem wrap_256 (x : Int) : IntKind.i64.wrap x % 256 = x % 256 := by
  simp only [IntKind.wrap, IntKind.signed, IntKind.bits]
  simp
  split <;> omega
theorem r8_wrapI (x : Int) : r8 (IntKind.i64.wrap x) = r8 x := by unfold r8; rw [wrap_256]
theorem r8_n (x : Int) : n8 (r8 x) = x % 256 := by unfold n8; rw [r8_nat]
theorem hv_lo (a b : Int) : lo4 (hv a b) = a % 16 := by unfold lo4 hv; have := r8_nat (a % 16 + b % 16 * 16); omega
theorem hv_hi (a b : Int) : hi4 (hv a b) = b % 16 := by unfold hi4 hv; have := r8_nat (a % 16 + b % 16 * 16); omega
theorem opsP_step {r : List UInt8} (h : 5 ≤ r.length) : opsP r = decOp (r.getD 0 0) (r.getD 1 0) (r.getD 2 0) (r.getD 3 0) (r.getD 4 0) :: opsP (r.drop 5) := by
  match r, h with
  | b0 :: b1 :: b2 :: b3 :: b4 :: r, _ => rfl
theorem opsP_stop {r : List UInt8} (h : r.length < 5) : opsP r = [] := by
  match r, h with
  | [], _ | [_], _ | [_, _], _ | [_, _, _], _ | [_, _, _, _], _ => rfl
theorem opsP_len (n : Nat) : ∀ r : List UInt8, r.length = n → (opsP r).length = n / 5 := by
  induction n using Nat.strongRecOn with
  | ind n ih =>
    intro r hr
    by_cases h : 5 ≤ r.length
    · rw [opsP_step h, List.length_cons, ih (n - 5) (by omega) (r.drop 5) (by rw [List.length_drop]; omega)]; omega
    · rw [opsP_stop (by omega)]; simp; omega
theorem encOp_len (o : OpT) : (encOp o).length = 5 := by unfold encOp; split <;> rfl
theorem encOps_len (l : List OpT) : (encOps l).length = 5 * l.length := by
  induction l with
  | nil => rfl
  | cons o l ih => rw [encOps, List.flatMap_cons, List.length_append, encOp_len, List.length_cons]; unfold encOps at ih; rw [ih]; omega
theorem opsP_app (n : Nat) : ∀ (x y : List UInt8), x.length = 5 * n → opsP (x ++ y) = opsP x ++ opsP y := by
  induction n with
  | zero => intro x y h; obtain rfl := List.eq_nil_of_length_eq_zero h; rfl
  | succ n ih =>
    intro x y h
    match x, h with
    | b0 :: b1 :: b2 :: b3 :: b4 :: x, h =>
      have := ih x y (by simp at h; omega)
      show decOp b0 b1 b2 b3 b4 :: opsP (x ++ y) = decOp b0 b1 b2 b3 b4 :: opsP x ++ opsP y
      rw [this]; rfl
theorem op_dec (o : OpT) (r : List UInt8) : opsP (encOp (tameO o) ++ r) = tameO o :: opsP r := by
  by_cases h : o.kind % 16 = 4
  · have e : tameO o = ⟨o.kind % 16, o.at' % 16, o.to' % 16, o.key % 16, o.n % 256, ⟨o.change.kind % 16, o.change.who % 16, o.change.heir % 256⟩, 0, 0, 0⟩ := by rw [tameO, if_pos h]
    rw [e]
    simp only [encOp, if_pos h, List.cons_append, List.nil_append, opsP, decOp, hv_lo, hv_hi, r8_n, List.cons.injEq, and_true]
    rw [if_pos (by omega)]
    simp only [OpT.mk.injEq, ChangeT.mk.injEq, and_true]
    omega
  · by_cases h2 : o.kind % 16 = 10
    · have e : tameO o = ⟨o.kind % 16, o.at' % 16, o.to' % 16, o.key % 16, o.n % 256, .zero, o.mask % 256, (o.torn + 1) % 256 - 1, o.n % 256⟩ := by rw [tameO, if_neg h, if_pos h2]
      rw [e]
      simp only [encOp, if_neg h, List.cons_append, List.nil_append, opsP, decOp, hv_lo, hv_hi, r8_n, List.cons.injEq, and_true]
      rw [if_neg (by omega), if_pos (by omega)]
      simp only [OpT.mk.injEq, true_and]
      omega
    · have e : tameO o = ⟨o.kind % 16, o.at' % 16, o.to' % 16, o.key % 16, o.n % 256, .zero, 0, 0, 0⟩ := by rw [tameO, if_neg h, if_neg h2]
      rw [e]
      simp only [encOp, if_neg h, List.cons_append, List.nil_append, opsP, decOp, hv_lo, hv_hi, r8_n, List.cons.injEq, and_true]
      rw [if_neg (by omega), if_neg (by omega)]
      simp only [OpT.mk.injEq, and_true]
      omega
theorem ops_back (l : List OpT) (r : List UInt8) (h : r.length < 5) : opsP (encOps (l.map tameO) ++ r) = l.map tameO := by
  induction l with
  | nil => exact opsP_stop h
  | cons o l ih =>
    simp only [List.map_cons, encOps, List.flatMap_cons, List.append_assoc]
    rw [op_dec]; unfold encOps at ih; rw [ih]
theorem lo4_bd (b : UInt8) : 0 ≤ lo4 b ∧ lo4 b < 16 := by unfold lo4; omega
theorem hi4_bd (b : UInt8) : 0 ≤ hi4 b ∧ hi4 b < 16 := by unfold hi4; have := b.toNat_lt; omega
theorem n8_bd (b : UInt8) : 0 ≤ n8 b ∧ n8 b < 256 := by unfold n8; have := b.toNat_lt; omega
theorem dec_tame (b0 b1 b2 b3 b4 : UInt8) : tameO (decOp b0 b1 b2 b3 b4) = decOp b0 b1 b2 b3 b4 := by
  have h0 := lo4_bd b0
  have h1 := hi4_bd b0
  have h2 := lo4_bd b1
  have h3 := hi4_bd b1
  have h4 := n8_bd b2
  have h5 := lo4_bd b3
  have h6 := hi4_bd b3
  have h7 := n8_bd b3
  have h8 := n8_bd b4
  unfold decOp
  split
  · rename_i c
    unfold tameO
    simp only
    rw [if_pos (by omega)]
    simp only [OpT.mk.injEq, ChangeT.mk.injEq, and_true]
    omega
  split
  · rename_i c
    unfold tameO
    simp only
    rw [if_neg (by omega), if_pos (by omega)]
    simp only [OpT.mk.injEq, true_and]
    omega
  · rename_i c c2
    unfold tameO
    simp only
    rw [if_neg (by omega), if_neg (by omega)]
    simp only [OpT.mk.injEq, and_true]
    omega
theorem opsP_tame (n : Nat) : ∀ r : List UInt8, r.length = n → ∀ o ∈ opsP r, tameO o = o := by
  induction n using Nat.strongRecOn with
  | ind n ih =>
    intro r hr o ho
    by_cases h : 5 ≤ r.length
    · rw [opsP_step h] at ho
      rcases List.mem_cons.1 ho with rfl | ho
      · exact dec_tame _ _ _ _ _
      · exact ih (n - 5) (by omega) (r.drop 5) (by rw [List.length_drop]; omega) o ho
    · rw [opsP_stop (by omega)] at ho; cases ho
theorem tameO_ok (o : OpT) : ∀ n ∈ (tameO o).flat, -1 ≤ n ∧ n < 256 := by
  intro n hn
  unfold tameO at hn
  split at hn
  · simp only [OpT.flat, ChangeT.flat, List.cons_append, List.nil_append, List.mem_cons, List.not_mem_nil, or_false] at hn
    omega
  split at hn
  · simp only [OpT.flat, ChangeT.flat, ChangeT.zero, List.cons_append, List.nil_append, List.mem_cons, List.not_mem_nil, or_false] at hn
    omega
  · simp only [OpT.flat, ChangeT.flat, ChangeT.zero, List.cons_append, List.nil_append, List.mem_cons, List.not_mem_nil, or_false] at hn
    omega
theorem tameO_wf (o : OpT) : WF (tameO o).flat := fun n hn => by
  have := tameO_ok o n hn
  have m1 : IntKind.i64.min = -9223372036854775808 := by decide
  have m2 : IntKind.i64.max = 9223372036854775807 := by decide
  simp only [Lit.wf, m1, m2, Bool.and_eq_true, decide_eq_true_eq]
  omega
theorem opsP_get (bs : List UInt8) {k : Nat} (h : k < (opsP bs).length) : tameO (opsP bs)[k] = (opsP bs)[k] := opsP_tame _ bs rfl _ (List.getElem_mem h)
theorem opsP_wf (bs : List UInt8) {k : Nat} (h : k < (opsP bs).length) : WF ((opsP bs)[k]).flat := by rw [← opsP_get bs h]; exact tameO_wf _
theorem OpT.flat_length (o : OpT) : o.flat.length = 11 := by simp [OpT.flat, ChangeT.flat]
theorem OpT.of (l : List Int) (h : l.length = 11) : ∃ x : OpT, x.flat = l := by
  match l, h with
  | [a, b, c, d, e, f, g, i, j, k, m], _ => exact ⟨⟨a, b, c, d, e, ⟨f, g, i⟩, j, k, m⟩, rfl⟩
theorem ops_joins (a b : List OpT) : opsP (encOps a ++ encOps b) = opsP (encOps a) ++ opsP (encOps b) := opsP_app a.length _ _ (encOps_len a)
theorem ops_count (a : List OpT) : (opsP (encOps a)).length = a.length := by rw [opsP_len _ _ rfl, encOps_len]; omega
theorem ops_first (a b : List OpT) : (opsP (encOps a ++ encOps b)).take a.length = opsP (encOps a) := by
  rw [ops_joins, ← ops_count a, List.take_left]
theorem encOps_app (a b : List OpT) : encOps (a ++ b) = encOps a ++ encOps b := by simp [encOps]
end Api

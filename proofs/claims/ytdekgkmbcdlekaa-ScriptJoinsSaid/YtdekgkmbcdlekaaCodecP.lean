/-
  Numbers and their bytes, there and back: plain laws.
-/
import Derived.Test.YtdekgkmbcdlekaaCodecW
namespace Codec
open Go Leg Api

theorem u8_ofNat_toNat (c : UInt8) : UInt8.ofNat c.toNat = c := by simp
/-- What is read has these very bytes. -/
theorem parse_enc : ∀ (bs : List UInt8) (k acc m : Nat) (r : List UInt8), k ≤ 9 → parse k acc bs = some (m, r) → ∃ p, m = acc + p * 2 ^ (7 * k) ∧ bs = encU p ++ r ∧ (0 < k → 0 < p) ∧ p < 2 ^ (7 * (9 - k))
  | [], k, acc, m, r, _, h => by simp [parse] at h
  | c :: cs, k, acc, m, r, hk, h => by
    have hc : c.toNat < 256 := c.toNat_lt
    simp only [parse] at h
    split at h
    · cases h
    · rename_i h9
      split at h
      · rename_i h128
        obtain ⟨p, h1, h2, h3, h4⟩ := parse_enc cs (k + 1) _ m r (by omega) h
        have hp := h3 (by omega)
        refine ⟨c.toNat % 128 + 128 * p, ?_, ?_, fun _ => by omega, ?_⟩
        · rw [h1, show 7 * (k + 1) = 7 * k + 7 by omega, Nat.pow_add, Nat.add_mul, Nat.add_assoc]
          congr 2
          rw [Nat.mul_comm 128 p, Nat.mul_assoc, Nat.mul_comm 128]
        · rw [encU_hi (by omega), show (c.toNat % 128 + 128 * p) % 128 + 128 = c.toNat by omega, show (c.toNat % 128 + 128 * p) / 128 = p by omega, u8_ofNat_toNat, h2]; rfl
        · rw [show 7 * (9 - k) = 7 * (9 - (k + 1)) + 7 by omega, Nat.pow_add]; omega
      · rename_i h128
        split at h
        · cases h
        · rename_i h0
          simp only [Option.some.injEq, Prod.mk.injEq] at h
          obtain ⟨rfl, rfl⟩ := h
          refine ⟨c.toNat, by rw [show c.toNat % 128 = c.toNat by omega], by rw [encU_lo (by omega), u8_ofNat_toNat]; rfl, fun _ => by omega, ?_⟩
          have : 2 ^ 7 ≤ 2 ^ (7 * (9 - k)) := Nat.pow_le_pow_right (by decide) (by omega)
          omega
/-- What was laid is read. -/
theorem enc_parse : ∀ (j p k acc : Nat) (r : List UInt8), k + j = 8 → p < 2 ^ (7 * (j + 1)) → (0 < k → 0 < p) → parse k acc (encU p ++ r) = some (acc + p * 2 ^ (7 * k), r)
  | j, p, k, acc, r, hj, hp, h0 => by
    by_cases h : p < 128
    · rw [encU_lo h]
      simp only [List.cons_append, List.nil_append, parse]
      have e : (UInt8.ofNat p).toNat = p := by simp; omega
      rw [e, if_neg (by omega), if_neg (by omega), if_neg (by omega), show p % 128 = p by omega]
    · rw [encU_hi h]
      simp only [List.cons_append, parse]
      have e : (UInt8.ofNat (p % 128 + 128)).toNat = p % 128 + 128 := by simp; omega
      rw [e, if_neg (by omega), if_pos (by omega)]
      match j, hj, hp with
      | 0, _, hp => simp at hp; omega
      | j + 1, hj, hp =>
        have hp' : p / 128 < 2 ^ (7 * (j + 1)) := by
          rw [show 7 * (j + 1 + 1) = 7 * (j + 1) + 7 by omega, Nat.pow_add] at hp; omega
        rw [enc_parse j (p / 128) (k + 1) _ r (by omega) hp' (fun _ => by omega)]
        congr 2
        rw [show 7 * (k + 1) = 7 * k + 7 by omega, Nat.pow_add, show (p % 128 + 128) % 128 = p % 128 by omega]
        have e2 : p = p % 128 + 128 * (p / 128) := by omega
        conv => rhs; rw [e2, Nat.add_mul]
        rw [Nat.add_assoc]
        congr 2
        rw [Nat.mul_comm 128, Nat.mul_assoc, Nat.mul_comm 128]
theorem numP_spec {bs r : List UInt8} {n : Int} (h : numP bs = some (n, r)) : 0 ≤ n ∧ n < 9223372036854775808 ∧ bs = encN n ++ r := by
  simp only [numP] at h
  split at h
  · cases h
  · rename_i m r' hm
    simp only [Option.some.injEq, Prod.mk.injEq] at h
    obtain ⟨rfl, rfl⟩ := h
    obtain ⟨p, h1, h2, _, h4⟩ := parse_enc bs 0 0 m r' (by omega) hm
    simp at h1
    subst h1
    refine ⟨by omega, by simp at h4; omega, ?_⟩
    rw [h2, encN]
    congr 2
    simp at h4
    omega
theorem numP_encN {n : Int} (h0 : 0 ≤ n) (h1 : n < 9223372036854775808) (r : List UInt8) : numP (encN n ++ r) = some (n, r) := by
  have hp := enc_parse 8 (n % 18446744073709551616).toNat 0 0 r rfl (by simp; omega) (by omega)
  simp at hp
  simp only [numP, encN]
  rw [hp]
  simp
  omega
end Codec

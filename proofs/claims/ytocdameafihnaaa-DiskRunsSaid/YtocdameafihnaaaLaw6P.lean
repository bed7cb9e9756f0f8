/-
  Layer 6's statements: the plain law.
-/
import Derived.Test.YtocdameafihnaaaDiskP
import Derived.Test.YtocdameafihnaaaLegJ
namespace Dsk
open Go Leg Codec Api

/-! ### DiskArms -/
def aws : Nat → Secs
  | 0 => []
  | k + 1 => aws k ++ [((k : Int), padS [1])]
theorem aws_len : ∀ k, (aws k).length = k
  | 0 => rfl
  | k + 1 => by simp [aws, aws_len k]
theorem aws_whole : ∀ k, Whole (aws k)
  | 0 => whole_nil
  | k + 1 => (aws_whole k).add _ (padS_len (by simp))
def armD (N k : Nat) : DS := ⟨[], aws k, true, ((N - k : Nat) : Int), false⟩
def downD (N : Nat) (b : Bool) : DS := ⟨[], aws N, true, 0, b⟩
theorem armD_ok {N k : Nat} (h : N ≤ 64) : (armD N k).Ok := ⟨whole_nil, aws_whole k, by simp only [armD]; omega⟩
theorem downD_ok {N : Nat} {b : Bool} : (downD N b).Ok := ⟨whole_nil, aws_whole N, by simp [downD]⟩
theorem armD_new (N : Nat) : DS.new.arm ((N : Nat) : Int) = armD N 0 := by
  simp only [DS.arm, DS.new, armD, aws, DS.mk.injEq, true_and]
  simp
theorem armD_write {N k : Nat} (h : k < N) (hN : N ≤ 64) : (armD N k).write ((k : Nat) : Int) [1] = (0, armD N (k + 1)) := by
  unfold DS.write
  rw [if_neg (by simp; omega), if_neg (by simp [armD]; omega)]
  simp only [armD, aws, Prod.mk.injEq, DS.mk.injEq, true_and, and_true, if_true]
  omega
theorem armD_end (N : Nat) : armD N N = downD N false := by simp [armD, downD]
theorem downD_write (N : Nat) (b : Bool) : (downD N b).write 0 [] = (4, downD N true) := by
  unfold DS.write
  rw [if_neg (by simp), if_pos (by simp [downD])]
  rfl
theorem downD_sync (N : Nat) : (downD N true).sync = (4, downD N true) := rfl

/-! ### DiskSures -/
def wl (base : Int) (l : List (List UInt8)) : Secs := l.mapIdx fun i b => (base + i, padS b)
theorem wl_len (base : Int) (l : List (List UInt8)) : (wl base l).length = l.length := by simp [wl]
theorem wl_succ (base : Int) {l : List (List UInt8)} {k : Nat} (h : k < l.length) : wl base (l.take (k + 1)) = wl base (l.take k) ++ [(base + k, padS l[k])] := by
  rw [wl, wl, List.take_succ_eq_append_getElem h, List.mapIdx_append]
  simp [Nat.min_eq_left (Nat.le_of_lt h)]
theorem wl_whole (base : Int) {l : List (List UInt8)} (h : ∀ b ∈ l, b.length ≤ 64) : Whole (wl base l) := fun p hp => by
  obtain ⟨i, hi⟩ := List.getElem?_of_mem hp
  simp only [wl, List.getElem?_mapIdx] at hi
  obtain ⟨b, hb, rfl⟩ := Option.map_eq_some_iff.1 hi
  exact padS_len (h b (List.mem_of_getElem? hb))
theorem wat_wl (base : Int) {l : List (List UInt8)} {k : Nat} (h : k < l.length) : wat (wl base l) k = (base + k, padS l[k]) := by
  rw [wat_eq (by rw [wl_len]; exact h)]
  simp [wl]
theorem sget_lay_wl (base : Int) (l : List (List UInt8)) (s : Secs) (j : Int) : ∀ k, k ≤ l.length → sget (layN s (wl base l) k) j = if base ≤ j ∧ j < base + k then padS (l.getD (j - base).toNat []) else sget s j
  | 0, _ => by rw [if_neg (by omega)]; rfl
  | k + 1, hk => by
    rw [layN, wat_wl base (by omega), sget_put, sget_lay_wl base l s j k (by omega)]
    by_cases h : j = base + k
    · rw [if_pos h, if_pos (by omega), show (j - base).toNat = k by omega]
      simp [List.getD_eq_getElem?_getD, show k < l.length by omega]
    · rw [if_neg h]
      by_cases h2 : base ≤ j ∧ j < base + k
      · rw [if_pos h2, if_pos (by omega)]
      · rw [if_neg h2, if_neg (by omega)]
theorem sget_crash_out (mask torn : Int) (c : Nat) (base : Int) (l : List (List UInt8)) (s : Secs) (j : Int) : ∀ k, k ≤ l.length → ¬ (base ≤ j ∧ j < base + k) → sget (crashN mask torn c s (wl base l) k) j = sget s j
  | 0, _, _ => rfl
  | k + 1, hk, h => by
    have ih := sget_crash_out mask torn c base l s j k (by omega) (by omega)
    simp only [crashN, crashStep, wat_wl base (show k < l.length by omega)]
    split
    · rw [sget_put, if_neg (by omega)]; exact ih
    · split
      · rw [sget_put, if_neg (by omega)]; exact ih
      · exact ih
theorem sget_crash_in (mask torn : Int) (c : Nat) (base : Int) (l : List (List UInt8)) (s : Secs) (i : Nat) (hi : (i : Int) ≠ torn) : ∀ k, k ≤ l.length → (h : i < k) → sget (crashN mask torn c s (wl base l) k) (base + i) = padS (l.getD i []) ∨ sget (crashN mask torn c s (wl base l) k) (base + i) = sget s (base + i)
  | 0, _, h => by omega
  | k + 1, hk, h => by
    simp only [crashN, crashStep, wat_wl base (show k < l.length by omega)]
    by_cases e : i = k
    · subst e
      rw [if_neg hi]
      split
      · rw [sget_put, if_pos rfl]
        left
        simp [List.getD_eq_getElem?_getD, show i < l.length by omega]
      · right
        exact sget_crash_out mask torn c base l s _ i (by omega) (by omega)
    · have ih := sget_crash_in mask torn c base l s i hi k (by omega) (by omega)
      split
      · rw [sget_put, if_neg (by omega)]; exact ih
      · split
        · rw [sget_put, if_neg (by omega)]; exact ih
        · exact ih
/-- The states that the statement goes through. -/
def sA (data : List (List UInt8)) (k : Nat) : DS := ⟨[], wl 0 (data.take k), false, 0, false⟩
def sSecs (data : List (List UInt8)) : Secs := layN [] (wl 0 data) data.length
def sB (data more : List (List UInt8)) (k : Nat) : DS := ⟨sSecs data, wl 100 (more.take k), false, 0, false⟩
def sD (data more : List (List UInt8)) : DS := ⟨sSecs data, wl 100 more, true, 0, true⟩
def sC (data more : List (List UInt8)) (mask torn n : Int) : DS := ⟨crashN mask torn (cutN n) (sSecs data) (wl 100 more) more.length, [], false, 0, false⟩
section
variable {data more : List (List UInt8)} (hd : ∀ b ∈ data, b.length ≤ 64) (hm : ∀ b ∈ more, b.length ≤ 64) {mask torn n : Int}
include hd
theorem sSecs_whole : Whole (sSecs data) := whole_nil.lay (wl_whole 0 hd) _ (by rw [wl_len]; exact Nat.le_refl _)
omit hd in
theorem sA_ok {k : Nat} (h : ∀ i (hi : i < data.length), i < k → data[i].length ≤ 64) : (sA data k).Ok := ⟨whole_nil, wl_whole 0 fun b hb => by
  obtain ⟨i, hi, rfl⟩ := List.mem_take_iff_getElem.1 hb
  exact h i (by omega) (by omega), by simp [sA]⟩
omit hd in
theorem sA_write {k : Nat} (hk : k < data.length) (h30 : data.length ≤ 30) (hl : data[k].length ≤ 64) : (sA data k).write ((k : Nat) : Int) data[k] = (0, sA data (k + 1)) := by
  unfold DS.write
  rw [if_neg (by omega), if_neg (by simp [sA])]
  simp only [sA, wl_succ 0 hk]
  simp
omit hd in
theorem sA_sync : (sA data data.length).sync = (0, sB data more 0) := by
  simp [DS.sync, sA, sB, sSecs, wl, List.take_of_length_le]
theorem sB_ok {k : Nat} (h : ∀ i (hi : i < more.length), i < k → more[i].length ≤ 64) : (sB data more k).Ok := ⟨sSecs_whole hd, wl_whole 100 fun b hb => by
  obtain ⟨i, hi, rfl⟩ := List.mem_take_iff_getElem.1 hb
  exact h i (by omega) (by omega), by simp [sB]⟩
omit hd in
theorem sB_write {k : Nat} (hk : k < more.length) (h30 : more.length ≤ 30) (hl : more[k].length ≤ 64) : (sB data more k).write (100 + ((k : Nat) : Int)) more[k] = (0, sB data more (k + 1)) := by
  unfold DS.write
  rw [if_neg (by omega), if_neg (by simp [sB])]
  simp only [sB, wl_succ 100 hk]
  simp
omit hd in
theorem sB_arm : (((sB data more more.length).arm 0).write 5 []) = (4, sD data more) := by
  unfold DS.write
  rw [if_neg (by simp), if_pos (by simp [DS.arm])]
  simp [DS.arm, sB, sD, List.take_of_length_le]
theorem sBarm_ok (hm : ∀ b ∈ more, b.length ≤ 64) : ((sB data more more.length).arm 0).Ok := DS.arm_ok (sB_ok hd fun i hi _ => hm _ (List.getElem_mem hi)) (by decide)
theorem sD_ok (hm : ∀ b ∈ more, b.length ≤ 64) : (sD data more).Ok := ⟨sSecs_whole hd, wl_whole 100 hm, by simp [sD]⟩
omit hd in
theorem sD_sync : (sD data more).sync = (4, sD data more) := rfl
omit hd in
theorem sD_crash : (sD data more).crash mask torn n = sC data more mask torn n := by simp [DS.crash, sD, sC, wl_len]
theorem sC_ok (hm : ∀ b ∈ more, b.length ≤ 64) : (sC data more mask torn n).Ok := ⟨(sSecs_whole hd).crash (wl_whole 100 hm) _ (by rw [wl_len]; exact Nat.le_refl _), whole_nil, by simp [sC]⟩
omit hd in
theorem sC_sure {k : Nat} (hk : k < data.length) (h30 : data.length ≤ 30) : sget (sC data more mask torn n).s ((k : Nat) : Int) = padS data[k] := by
  simp only [sC]
  rw [sget_crash_out _ _ _ _ _ _ _ _ (Nat.le_refl _) (by omega), sSecs, sget_lay_wl 0 data [] _ _ (Nat.le_refl _), if_pos (by omega)]
  simp [List.getD_eq_getElem?_getD, hk]
omit hd in
theorem sC_read (j : Int) : (sC data more mask torn n).read j = sget (sC data more mask torn n).s j := rfl
omit hd in
theorem sC_more {k : Nat} (hk : k < more.length) (h30 : data.length ≤ 30) (ht : (k : Int) ≠ torn) : (sC data more mask torn n).read (100 + ((k : Nat) : Int)) = padS more[k] ∨ (sC data more mask torn n).read (100 + ((k : Nat) : Int)) = zs := by
  rw [sC_read]
  simp only [sC]
  rcases sget_crash_in mask torn (cutN n) 100 more (sSecs data) k ht more.length (Nat.le_refl _) hk with h | h
  · left; rw [h]; simp [List.getD_eq_getElem?_getD, hk]
  · right
    rw [h, sSecs, sget_lay_wl 0 data [] _ _ (Nat.le_refl _), if_neg (by omega)]
    rfl
end
end Dsk

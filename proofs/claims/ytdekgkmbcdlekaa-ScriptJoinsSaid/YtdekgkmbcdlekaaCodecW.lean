/-
  The bytes of numbers, in plain words; slices of numbers in memory.
-/
import Derived.Test.YtdekgkmbcdlekaaCodecA
namespace Codec
open Go Leg Api

/-- A number's bytes. -/
def encU (n : Nat) : List UInt8 := if n < 128 then [UInt8.ofNat n] else UInt8.ofNat (n % 128 + 128) :: encU (n / 128)
termination_by n
decreasing_by omega
theorem encU_lo {n : Nat} (h : n < 128) : encU n = [UInt8.ofNat n] := by rw [encU, if_pos h]
theorem encU_hi {n : Nat} (h : ¬ n < 128) : encU n = UInt8.ofNat (n % 128 + 128) :: encU (n / 128) := by rw [encU, if_neg h]
theorem encU_pos (n : Nat) : 1 ≤ (encU n).length := by
  by_cases h : n < 128
  · rw [encU_lo h]; simp
  · rw [encU_hi h]; simp
theorem encU_len : ∀ (k n : Nat), n < 2 ^ (7 * (k + 1)) → (encU n).length ≤ k + 1
  | 0, n, h => by rw [encU_lo (by simpa using h)]; simp
  | k + 1, n, h => by
    by_cases h1 : n < 128
    · rw [encU_lo h1]; simp
    · rw [encU_hi h1, List.length_cons]
      have : 2 ^ (7 * (k + 1 + 1)) = 128 * 2 ^ (7 * (k + 1)) := by rw [Nat.mul_add, Nat.pow_add]; omega
      have := encU_len k (n / 128) (by omega)
      omega
/-- The bytes of an int, as the machine has it: 64 bits without a sign. -/
def encN (n : Int) : List UInt8 := encU (n % 18446744073709551616).toNat
def encs (l : List Int) : List UInt8 := l.flatMap encN
theorem encN_len (n : Int) : (encN n).length ≤ 10 := encU_len 9 _ (by omega)
theorem encs_len (l : List Int) : (encs l).length ≤ 10 * l.length := by
  induction l with
  | nil => simp [encs]
  | cons n l ih => have := encN_len n; simp only [encs, List.flatMap_cons, List.length_append, List.length_cons] at ih ⊢; omega
theorem encs_cons (n : Int) (l : List Int) : encs (n :: l) = encN n ++ encs l := rfl
theorem encs_append (a b : List Int) : encs (a ++ b) = encs a ++ encs b := by simp [encs]
theorem encs_nil : encs [] = [] := rfl
theorem encs_drop {l : List Int} {k : Nat} (h : k < l.length) : encs (l.drop k) = encN (l.getD k 0) ++ encs (l.drop (k + 1)) := by
  rw [List.drop_eq_getElem_cons h, encs_cons]; simp [List.getD_eq_getElem?_getD, h]
theorem wrap_u64_nat (n : Int) : IntKind.u64.wrap n = (((n % 18446744073709551616).toNat : Nat) : Int) := by
  simp only [IntKind.wrap, IntKind.signed, IntKind.bits]; simp; omega
theorem or128 (n : Nat) : orI .u8 (IntKind.u8.wrap (n : Int)) 128 = (((UInt8.ofNat (n % 128 + 128)).toNat : Nat) : Int) := by
  have e1 : IntKind.u8.wrap (n : Int) = ((n % 256 : Nat) : Int) := by
    simp only [IntKind.wrap, IntKind.signed, IntKind.bits]; simp
  have e : (BitVec.ofInt 8 ((n % 256 : Nat) : Int) ||| BitVec.ofInt 8 128).toNat = n % 128 + 128 := by
    have key : ∀ m : Nat, m < 256 → (BitVec.ofInt 8 ((m : Nat) : Int) ||| BitVec.ofInt 8 128).toNat = m % 128 + 128 := by decide +kernel
    rw [key _ (by omega)]; omega
  rw [e1]
  show IntKind.u8.wrap ((BitVec.ofInt 8 ((n % 256 : Nat) : Int) ||| BitVec.ofInt 8 128).toNat : Int) = _
  rw [e, wrap_u8 (by omega) (by omega)]
  simp; omega
theorem byte_lo {n : Nat} (h : n < 128) : IntKind.u8.wrap (n : Int) = (((UInt8.ofNat n).toNat : Nat) : Int) := by
  rw [wrap_u8 (by omega) (by omega)]; simp; omega
theorem shr7 (n : Nat) : ((n : Nat) : Int).fdiv (2 ^ min (7 : Int).toNat IntKind.u64.bits) = ((n / 128 : Nat) : Int) := by
  have : min (7 : Int).toNat IntKind.u64.bits = 7 := by decide
  rw [this, Int.fdiv_eq_ediv_of_nonneg _ (by decide)]
  simp

/-- A slice's value holds these numbers, in what lies besides. -/
def IsN (v : Value) (l : List Int) (F : Hl) : Prop :=
  (v = .slice none 0 0 ∧ l = []) ∨ ∃ b off cap cs T z, v = .slice (some ⟨b, off, none⟩) l.length cap ∧ F b = some (.cells (List.toArray cs) T z) ∧ ∀ j, j < l.length → cs[off + j]? = some (.int .i64 (l.getD j 0))
theorem IsN.more {v : Value} {l : List Int} {F g : Hl} (h : IsN v l F) (d : Dj g F) : IsN v l (jn g F) := by
  rcases h with h | ⟨b, off, cap, cs, T, z, h0, h3, h4⟩
  · exact .inl h
  · exact .inr ⟨b, off, cap, cs, T, z, h0, Le.right d _ _ h3, h4⟩
theorem isN_piece (i : Nat) {b off cap T m : Nat} {cs : List Value} {l : List Int} {B : List HP} {F : Hl} (hi : Nat.blt i B.length = true) (e : B.getD i (fun _ => True) = blkA b cs T) (hm : m = l.length) (hl : (cs.drop off).take l.length = ints l) :
    ∀ g, Dj g F → sep B g → IsN (.slice (some ⟨b, off, none⟩) m cap) l (jn g F) := fun g d s => by
  subst hm
  refine .inr ⟨b, off, cap, cs, T, (0, 0), rfl, ro_piece i hi e g d s, fun j hj => ?_⟩
  have h1 : ((cs.drop off).take l.length)[j]? = some (.int .i64 (l.getD j 0)) := by rw [hl]; exact ints_get l j hj
  rw [List.getElem?_take, if_pos hj, List.getElem?_drop] at h1
  exact h1

/-- What stands behind a row's cells. -/
def encHeirs (x : RowT) : (m i : Nat) → List UInt8
  | 0, _ => []
  | m + 1, i => (if h : i < 5 then encN (x.heir[i]'h) ++ (if 0 < x.heir[i]'h then encs (flats (x.left[i]'h).toList) else []) else []) ++ encHeirs x m (i + 1)
def encRow (x : RowT) : List UInt8 := encN x.version ++ (encs (flats x.cells.toList) ++ encHeirs x 5 0)
theorem encHeirs_len (x : RowT) : ∀ m i, (encHeirs x m i).length ≤ 290 * m
  | 0, _ => by simp [encHeirs]
  | m + 1, i => by
    have ih := encHeirs_len x m (i + 1)
    simp only [encHeirs, List.length_append]
    by_cases h : i < 5
    · rw [dif_pos h, List.length_append]
      have h1 := encN_len (x.heir[i])
      have h2 := encs_len (flats (x.left[i]).toList)
      rw [flats_length] at h2
      simp at h2
      split <;> simp <;> omega
    · rw [dif_neg h]; simp; omega
theorem encRow_len (x : RowT) : (encRow x).length ≤ 1740 := by
  have h1 := encN_len x.version
  have h2 := encs_len (flats x.cells.toList)
  have h3 := encHeirs_len x 5 0
  rw [flats_length] at h2
  simp at h2
  simp only [encRow, List.length_append]
  omega
theorem flats_drop {l : List CellT} {k : Nat} (h : k < l.length) : encs (flats (l.drop k)) = encs (l[k]).flat ++ encs (flats (l.drop (k + 1))) := by
  rw [List.drop_eq_getElem_cons h, flats, List.flatMap_cons, encs_append]; rfl
theorem encHeirs_step {x : RowT} {i : Nat} (h : i < 5) : encHeirs x (5 - i) i = encN x.heir[i] ++ ((if 0 < x.heir[i] then encs (flats (x.left[i]).toList) else []) ++ encHeirs x (5 - (i + 1)) (i + 1)) := by
  rw [show 5 - i = (5 - (i + 1)) + 1 by omega]
  simp only [encHeirs]
  rw [dif_pos h, List.append_assoc]
/-- What a method of a Writer does. -/
def WPost (WR u8 : TypeId) (wb : Nat) (bs : List UInt8) : Ending → List HP → Prop :=
  Ret (fun x H => ∃ v', x = .pointer (some ⟨wb, 0, none⟩) ∧ H = [blkA wb [v'] WR, ownB v' bs u8])
end Codec

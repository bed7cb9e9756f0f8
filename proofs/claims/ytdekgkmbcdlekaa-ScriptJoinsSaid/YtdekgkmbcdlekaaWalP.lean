/-
  Layers 2 and 7 in plain words: sums, records in sectors.
-/
import Derived.Test.YtdekgkmbcdlekaaDiskP
import Derived.Test.YtdekgkmbcdlekaaLegJ
namespace Wal
open Go Leg Codec Api Dsk

/-! ### Bits -/
theorem orI_add32 {x y : Int} (k : Nat) (hx : 0 ≤ x) (hx2 : x < 2 ^ k) (hy : 0 ≤ y) (h : x + y * 2 ^ k < 4294967296) : orI .u32 x (y * 2 ^ k) = x + y * 2 ^ k := by
  obtain ⟨a, rfl⟩ := Int.eq_ofNat_of_zero_le hx
  obtain ⟨b, rfl⟩ := Int.eq_ofNat_of_zero_le hy
  have e2 : ((b : Nat) : Int) * 2 ^ k = ((b * 2 ^ k : Nat) : Int) := by simp
  rw [e2] at h ⊢
  have ha : a < 2 ^ k := by have : (((2 : Nat) ^ k : Nat) : Int) = (2 : Int) ^ k := by simp
                            omega
  have hs : a + b * 2 ^ k < 4294967296 := by omega
  have h1 : (BitVec.ofInt 32 (a : Int)).toNat = a := by rw [BitVec.toNat_ofInt]; omega
  have h2 : (BitVec.ofInt 32 ((b * 2 ^ k : Nat) : Int)).toNat = b * 2 ^ k := by
    rw [BitVec.toNat_ofInt]; generalize b * 2 ^ k = q at *; omega
  have h3 : a ||| b * 2 ^ k = a + b * 2 ^ k := by
    rw [Nat.or_comm, ← Nat.shiftLeft_eq, ← Nat.shiftLeft_add_eq_or_of_lt ha, Nat.add_comm]
  show IntKind.u32.wrap (((BitVec.ofInt 32 (a : Int)) ||| (BitVec.ofInt 32 ((b * 2 ^ k : Nat) : Int))).toNat : Nat) = _
  rw [BitVec.toNat_or, h1, h2, h3]
  generalize b * 2 ^ k = q at *
  rw [wrap_u32 (by omega) (by omega)]
  omega
theorem orI_add64 {x y : Int} (k : Nat) (hx : 0 ≤ x) (hx2 : x < 2 ^ k) (hy : 0 ≤ y) (h : x + y * 2 ^ k < 9223372036854775808) : orI .i64 (y * 2 ^ k) x = x + y * 2 ^ k := by
  obtain ⟨a, rfl⟩ := Int.eq_ofNat_of_zero_le hx
  obtain ⟨b, rfl⟩ := Int.eq_ofNat_of_zero_le hy
  have e2 : ((b : Nat) : Int) * 2 ^ k = ((b * 2 ^ k : Nat) : Int) := by simp
  rw [e2] at h ⊢
  have ha : a < 2 ^ k := by have : (((2 : Nat) ^ k : Nat) : Int) = (2 : Int) ^ k := by simp
                            omega
  have h1 : (BitVec.ofInt 64 (a : Int)).toNat = a := by rw [BitVec.toNat_ofInt]; omega
  have h2 : (BitVec.ofInt 64 ((b * 2 ^ k : Nat) : Int)).toNat = b * 2 ^ k := by
    rw [BitVec.toNat_ofInt]; generalize b * 2 ^ k = q at *; omega
  have h3 : b * 2 ^ k ||| a = a + b * 2 ^ k := by
    rw [← Nat.shiftLeft_eq, ← Nat.shiftLeft_add_eq_or_of_lt ha, Nat.add_comm]
  show IntKind.i64.wrap (((BitVec.ofInt 64 ((b * 2 ^ k : Nat) : Int)) ||| (BitVec.ofInt 64 (a : Int))).toNat : Nat) = _
  rw [BitVec.toNat_or, h1, h2, h3]
  generalize b * 2 ^ k = q at *
  rw [wrap_i64 (by omega) (by omega)]
  omega
theorem u32_range (x : Int) : 0 ≤ IntKind.u32.wrap x ∧ IntKind.u32.wrap x < 4294967296 := by
  simp only [IntKind.wrap, IntKind.signed, IntKind.bits]; simp; omega
theorem xor32_range (a b : Int) : 0 ≤ xorI .u32 a b ∧ xorI .u32 a b < 4294967296 := u32_range _
/-- A number's lowest byte. -/
def r8 (x : Int) : UInt8 := UInt8.ofNat (x % 256).toNat
theorem r8_nat (x : Int) : (((r8 x).toNat : Nat) : Int) = x % 256 := by
  have : (x % 256).toNat < 256 := by omega
  simp only [r8, UInt8.toNat_ofNat']; omega
theorem r8_wrap (x : Int) : IntKind.u8.wrap x = (((r8 x).toNat : Nat) : Int) := by
  rw [r8_nat]; simp only [IntKind.wrap, IntKind.signed, IntKind.bits]; simp

/-! ### Sums -/
def crcBit (r : Int) : Int := if andI .u32 r 1 = 1 then xorI .u32 (r.fdiv 2) 3988292384 else r.fdiv 2
def crcBits (r : Int) : Nat → Int
  | 0 => r
  | k + 1 => crcBit (crcBits r k)
def crcByte (r : Int) (c : UInt8) : Int := crcBits (xorI .u32 r ((c.toNat : Nat) : Int)) 8
def crcRun (r : Int) (bs : List UInt8) : Int := bs.foldl crcByte r
def crcOf (bs : List UInt8) : Int := xorI .u32 4294967295 (crcRun 4294967295 bs)
theorem crcRun_take {r : Int} {bs : List UInt8} {k : Nat} (h : k < bs.length) : crcRun r (bs.take (k + 1)) = crcByte (crcRun r (bs.take k)) (bs.getD k 0) := by
  rw [crcRun, crcRun, List.take_succ_eq_append_getElem h, List.foldl_append, List.getD_eq_getElem?_getD, List.getElem?_eq_getElem h]; rfl
theorem crcRun_append (r : Int) (a b : List UInt8) : crcRun r (a ++ b) = crcRun (crcRun r a) b := by simp [crcRun]
theorem crcRun_flat {r : Int} {ps : List (List UInt8)} {k : Nat} (h : k < ps.length) : crcRun r (ps.take (k + 1)).flatten = crcRun (crcRun r (ps.take k).flatten) ps[k] := by
  rw [List.take_succ_eq_append_getElem h, List.flatten_append, crcRun_append]; simp
theorem crcOf_range (bs : List UInt8) : 0 ≤ crcOf bs ∧ crcOf bs < 4294967296 := xor32_range _ _
def le4 (r : Int) : List UInt8 := [r8 r, r8 (r.fdiv 256), r8 (r.fdiv 65536), r8 (r.fdiv 16777216)]
/-- Four bytes' number, as it is put together. -/
def le32 (a b c d : UInt8) : Int :=
  orI .u32 (orI .u32 (orI .u32 ((a.toNat : Nat) : Int) (IntKind.u32.wrap (((b.toNat : Nat) : Int) * 2 ^ 8))) (IntKind.u32.wrap (((c.toNat : Nat) : Int) * 2 ^ 16))) (IntKind.u32.wrap (((d.toNat : Nat) : Int) * 2 ^ 24))
theorem le32_eq (a b c d : UInt8) : le32 a b c d = ((a.toNat : Nat) : Int) + ((b.toNat : Nat) : Int) * 256 + ((c.toNat : Nat) : Int) * 65536 + ((d.toNat : Nat) : Int) * 16777216 := by
  have ha := a.toNat_lt
  have hb := b.toNat_lt
  have hc := c.toNat_lt
  have hd := d.toNat_lt
  unfold le32
  generalize a.toNat = a at *
  generalize b.toNat = b at *
  generalize c.toNat = c at *
  generalize d.toNat = d at *
  rw [wrap_u32 (x := (b : Int) * 2 ^ 8) (by omega) (by omega), wrap_u32 (x := (c : Int) * 2 ^ 16) (by omega) (by omega), wrap_u32 (x := (d : Int) * 2 ^ 24) (by omega) (by omega)]
  rw [orI_add32 8 (by omega) (by omega) (by omega) (by omega), orI_add32 16 (by omega) (by omega) (by omega) (by omega), orI_add32 24 (by omega) (by omega) (by omega) (by omega)]
  omega
def putP (bs : List UInt8) : List UInt8 := bs ++ le4 (crcOf bs)
def takeP (bs : List UInt8) : Option (List UInt8) :=
  if bs.length < 4 then none
  else if crcOf (bs.take (bs.length - 4)) = le32 ((bs.drop (bs.length - 4)).getD 0 0) ((bs.drop (bs.length - 4)).getD 1 0) ((bs.drop (bs.length - 4)).getD 2 0) ((bs.drop (bs.length - 4)).getD 3 0) then some (bs.take (bs.length - 4)) else none
theorem putP_len (bs : List UInt8) : (putP bs).length = bs.length + 4 := by simp [putP, le4]
theorem le32_le4 {r : Int} (h : 0 ≤ r ∧ r < 4294967296) : le32 (r8 r) (r8 (r.fdiv 256)) (r8 (r.fdiv 65536)) (r8 (r.fdiv 16777216)) = r := by
  rw [le32_eq, r8_nat, r8_nat, r8_nat, r8_nat, Int.fdiv_eq_ediv_of_nonneg _ (by decide), Int.fdiv_eq_ediv_of_nonneg _ (by decide), Int.fdiv_eq_ediv_of_nonneg _ (by decide)]
  omega
theorem takeP_putP (bs : List UInt8) : takeP (putP bs) = some bs := by
  have hl := putP_len bs
  have e1 : (putP bs).take (bs.length + 4 - 4) = bs := by rw [Nat.add_sub_cancel, putP]; exact List.take_left
  have e2 : (putP bs).drop (bs.length + 4 - 4) = le4 (crcOf bs) := by rw [Nat.add_sub_cancel, putP]; exact List.drop_left
  unfold takeP
  rw [hl, if_neg (by omega), e1, e2]
  exact if_pos (le32_le4 (crcOf_range bs)).symm
theorem takeP_len {bs t : List UInt8} (h : takeP bs = some t) : t.length + 4 = bs.length := by
  unfold takeP at h
  split at h
  · cases h
  · split at h
    · injection h with h; subst h; rw [List.length_take]; omega
    · cases h

/-! ### Sectors -/
def piecesN (n : Nat) : Nat := if n = 0 then 1 else (n - 1) / 52 + 1
theorem piecesN_pos (n : Nat) : 0 < piecesN n := by unfold piecesN; split <;> omega
theorem piecesN_le {n : Nat} (h : n ≤ 3000) : piecesN n ≤ 58 := by unfold piecesN; split <;> omega
theorem piecesN_cover (n : Nat) : n ≤ piecesN n * 52 := by unfold piecesN; split <;> omega
theorem piecesN_last {n i : Nat} (h : i + 1 < piecesN n) : (i + 1) * 52 < n := by unfold piecesN at h; split at h <;> omega
def be4 (n : Int) : List UInt8 := [r8 (n.fdiv 16777216), r8 (n.fdiv 65536), r8 (n.fdiv 256), r8 n]
/-- Bytes' number, the highest first. -/
def beI (bs : List UInt8) : Int := bs.foldl (fun h c => orI .i64 (IntKind.i64.wrap (h * 2 ^ 8)) ((c.toNat : Nat) : Int)) 0
theorem beI_take {bs : List UInt8} {k : Nat} (h : k < bs.length) : beI (bs.take (k + 1)) = orI .i64 (IntKind.i64.wrap (beI (bs.take k) * 2 ^ 8)) (((bs.getD k 0).toNat : Nat) : Int) := by
  rw [beI, beI, List.take_succ_eq_append_getElem h, List.foldl_append, List.getD_eq_getElem?_getD, List.getElem?_eq_getElem h]; rfl
theorem be_step {h : Int} (c : UInt8) (h0 : 0 ≤ h) (h1 : h < 4294967296) : orI .i64 (IntKind.i64.wrap (h * 2 ^ 8)) ((c.toNat : Nat) : Int) = h * 256 + ((c.toNat : Nat) : Int) := by
  have hc := c.toNat_lt
  generalize c.toNat = c at *
  rw [wrap_i64 (by omega) (by omega), orI_add64 8 (by omega) (by omega) (by omega) (by omega)]
  omega
theorem beI_four (a b c d : UInt8) : beI [a, b, c, d] = ((a.toNat : Nat) : Int) * 16777216 + ((b.toNat : Nat) : Int) * 65536 + ((c.toNat : Nat) : Int) * 256 + ((d.toNat : Nat) : Int) := by
  have ha := a.toNat_lt
  have hb := b.toNat_lt
  have hc := c.toNat_lt
  have hd := d.toNat_lt
  simp only [beI, List.foldl_cons, List.foldl_nil]
  rw [be_step a (by omega) (by omega), be_step b (by omega) (by omega), be_step c (by omega) (by omega), be_step d (by omega) (by omega)]
  omega
theorem beI_be4 {n : Int} (h0 : 0 ≤ n) (h1 : n < 4294967296) : beI (be4 n) = n := by
  rw [be4, beI_four, r8_nat, r8_nat, r8_nat, r8_nat, Int.fdiv_eq_ediv_of_nonneg _ (by decide), Int.fdiv_eq_ediv_of_nonneg _ (by decide), Int.fdiv_eq_ediv_of_nonneg _ (by decide)]
  omega
def partP (b : List UInt8) (i : Nat) : List UInt8 := (b.drop (i * 52)).take 52
theorem partP_len (b : List UInt8) (i : Nat) : (partP b i).length ≤ 52 := by rw [partP, List.length_take]; omega
theorem part_le {n k : Nat} (h : k < piecesN n) : k * 52 ≤ n := by unfold piecesN at h; split at h <;> omega
theorem part_eq (b : List UInt8) (k : Nat) : ((b.take (min ((k + 1) * 52) b.length)).drop (k * 52)) = partP b k := by
  rw [partP, List.drop_take, Nat.add_mul, Nat.one_mul]
  by_cases q : k * 52 + 52 ≤ b.length
  · rw [Nat.min_eq_left q, Nat.add_sub_cancel_left]
  · rw [Nat.min_eq_right (by omega), List.take_of_length_le (by rw [List.length_drop]; omega), List.take_of_length_le (by rw [List.length_drop]; omega)]
theorem parts_all (b : List UInt8) : ∀ k, b.length ≤ k * 52 → ((List.range k).map (partP b)).flatten = b := by
  have key : ∀ k, ((List.range k).map (partP b)).flatten = b.take (k * 52) := by
    intro k
    induction k with
    | zero => simp
    | succ k ih =>
      rw [List.range_succ, List.map_append, List.flatten_append, ih, Nat.add_mul, Nat.one_mul, List.take_add]
      simp [partP]
  intro k hk
  rw [key, List.take_of_length_le hk]
def textP (number : Int) (place all : Nat) (p : List UInt8) : List UInt8 := be4 number ++ ([r8 (place : Int), r8 (all : Int), r8 (p.length : Int)] ++ (p ++ List.replicate (52 - p.length) 0))
theorem textP_len {number : Int} {place all : Nat} {p : List UInt8} (h : p.length ≤ 52) : (textP number place all p).length = 59 := by simp [textP, be4]; omega
def sectP (number : Int) (place all : Nat) (p : List UInt8) : Sec := putP (textP number place all p) ++ [1]
theorem sectP_len {number : Int} {place all : Nat} {p : List UInt8} (h : p.length ≤ 52) : (sectP number place all p).length = 64 := by simp [sectP, putP_len, textP_len h]
def sectorsP (number : Int) (b : List UInt8) : List Sec := (List.range (piecesN b.length)).map fun i => sectP number i (piecesN b.length) (partP b i)
def secsN (number : Int) (b : List UInt8) (k : Nat) : List Sec := (List.range k).map fun i => sectP number i (piecesN b.length) (partP b i)
theorem secsN_succ (number : Int) (b : List UInt8) (k : Nat) : secsN number b (k + 1) = secsN number b k ++ [sectP number k (piecesN b.length) (partP b k)] := by simp [secsN, List.range_succ]
theorem secsN_len (number : Int) (b : List UInt8) (k : Nat) : (secsN number b k).length = k := by simp [secsN]
theorem secsN_all (number : Int) (b : List UInt8) : secsN number b (piecesN b.length) = sectorsP number b := rfl
theorem text_copy {number : Int} {place all : Nat} {p : List UInt8} (h : p.length ≤ 52) :
    wr (u8s (be4 number ++ ([r8 (place : Int), r8 (all : Int), r8 (p.length : Int)] ++ List.replicate 52 0))) 7 ((u8s p).take (min p.length 52)) = u8s (textP number place all p) := by
  have e : (u8s p).take (min p.length 52) = u8s p := List.take_of_length_le (by rw [u8s_length]; omega)
  rw [e, wr, u8s_length]
  have e2 : (u8s (be4 number ++ ([r8 (place : Int), r8 (all : Int), r8 (p.length : Int)] ++ List.replicate 52 0))).take 7 = u8s (be4 number ++ [r8 (place : Int), r8 (all : Int), r8 (p.length : Int)]) := rfl
  have e3 : (u8s (be4 number ++ ([r8 (place : Int), r8 (all : Int), r8 (p.length : Int)] ++ List.replicate 52 0))).drop (7 + p.length) = u8s (List.replicate (52 - p.length) 0) := by
    rw [← List.drop_drop]
    have : (u8s (be4 number ++ ([r8 (place : Int), r8 (all : Int), r8 (p.length : Int)] ++ List.replicate 52 0))).drop 7 = u8s (List.replicate 52 0) := rfl
    rw [this, u8s, u8s, ← List.map_drop, List.drop_replicate]
  rw [e2, e3, textP]
  simp [u8s]
theorem sectorsP_len (number : Int) (b : List UInt8) : (sectorsP number b).length = piecesN b.length := by simp [sectorsP]
/-- What a sector has of a record. -/
def pieceP (s : Sec) (number place : Int) : Option (List UInt8 × Int) :=
  match takeP (s.take 63) with
  | none => none
  | some t => if s.getD 63 0 ≠ 1 then none
    else if beI (t.take 4) ≠ number ∨ (((t.getD 4 0).toNat : Nat) : Int) ≠ place ∨ place ≥ (((t.getD 5 0).toNat : Nat) : Int) ∨ (((t.getD 6 0).toNat : Nat) : Int) > 52 then none
    else some ((t.drop 7).take (t.getD 6 0).toNat, (((t.getD 5 0).toNat : Nat) : Int))
theorem pieceP_sect {number : Int} {place all : Nat} {p : List UInt8} (h : p.length ≤ 52) (h0 : 0 ≤ number) (h1 : number < 4294967296) (hp : place < all) (ha : all ≤ 255) : pieceP (sectP number place all p) number place = some (p, (all : Int)) := by
  have e1 : (sectP number place all p).take 63 = putP (textP number place all p) := by
    rw [sectP, List.take_append_of_le_length (by rw [putP_len, textP_len h]; omega), List.take_of_length_le (by rw [putP_len, textP_len h]; omega)]
  have e2 : (sectP number place all p).getD 63 0 = 1 := by
    rw [sectP, List.getD_eq_getElem?_getD, List.getElem?_append_right (by rw [putP_len, textP_len h]; omega), putP_len, textP_len h]; rfl
  have n1 : (((r8 (place : Int)).toNat : Nat) : Int) = place := by rw [r8_nat]; omega
  have n2 : (((r8 (all : Int)).toNat : Nat) : Int) = all := by rw [r8_nat]; omega
  have n3 : (((r8 (p.length : Int)).toNat : Nat) : Int) = p.length := by rw [r8_nat]; omega
  unfold pieceP
  rw [e1, takeP_putP]
  simp only [e2, ne_eq, not_true_eq_false, if_false]
  have t4 : (textP number place all p).take 4 = be4 number := rfl
  have g4 : (textP number place all p).getD 4 0 = r8 (place : Int) := rfl
  have g5 : (textP number place all p).getD 5 0 = r8 (all : Int) := rfl
  have g6 : (textP number place all p).getD 6 0 = r8 (p.length : Int) := rfl
  have g7 : (textP number place all p).drop 7 = p ++ List.replicate (52 - p.length) 0 := rfl
  rw [t4, beI_be4 h0 h1, g4, g5, g6, g7, n1, n2, n3]
  rw [if_neg (by omega)]
  have n3' : (r8 (p.length : Int)).toNat = p.length := by omega
  rw [n3']
  simp
/-- A sector that does not end so is no piece. -/
theorem pieceP_end {s : Sec} {number place : Int} (h : s.getD 63 0 ≠ 1) : pieceP s number place = none := by
  unfold pieceP
  split
  · rfl
  · rw [if_pos h]
theorem pieceP_facts {s b : Sec} {number place all : Int} (hs : s.length = 64) (h : pieceP s number place = some (b, all)) : place < all ∧ all ≤ 255 ∧ b.length ≤ 52 := by
  unfold pieceP at h
  split at h
  · cases h
  · rename_i t ht
    have hl := takeP_len ht
    split at h
    · cases h
    · split at h
      · cases h
      · rename_i h2
        injection h with h
        simp only [Prod.mk.injEq] at h
        obtain ⟨rfl, rfl⟩ := h
        have := (t.getD 5 0).toNat_lt
        rw [List.length_take]
        omega

theorem pieceP_none1 {s : Sec} {number place : Int} (h : takeP (s.take 63) = none) : pieceP s number place = none := by simp only [pieceP, h]
theorem pieceP_none2 {s t : Sec} {number place : Int} (h : takeP (s.take 63) = some t) (h2 : beI (t.take 4) ≠ number ∨ (((t.getD 4 0).toNat : Nat) : Int) ≠ place ∨ place ≥ (((t.getD 5 0).toNat : Nat) : Int) ∨ (((t.getD 6 0).toNat : Nat) : Int) > 52) : pieceP s number place = none := by
  simp only [pieceP, h]
  split
  · rfl
  · first | rfl | rw [if_pos h2]
theorem pieceP_some {s t : Sec} {number place : Int} (h : takeP (s.take 63) = some t) (h1 : s.getD 63 0 = 1) (h2 : ¬ (beI (t.take 4) ≠ number ∨ (((t.getD 4 0).toNat : Nat) : Int) ≠ place ∨ place ≥ (((t.getD 5 0).toNat : Nat) : Int) ∨ (((t.getD 6 0).toNat : Nat) : Int) > 52)) :
    pieceP s number place = some ((t.drop 7).take (t.getD 6 0).toNat, (((t.getD 5 0).toNat : Nat) : Int)) := by
  simp only [pieceP, h, h1, ne_eq, not_true_eq_false, if_false]
  rw [if_neg h2]

/-! ### Records -/
/-- The first k pieces of a record. -/
def moreP (rd : Int → Sec) (number at' all : Int) : Nat → Option (List UInt8)
  | 0 => some []
  | k + 1 => match moreP rd number at' all k with
    | none => none
    | some b => match pieceP (rd (at' + k)) number k with
      | none => none
      | some (m, same) => if same = all then some (b ++ m) else none
def standsP (rd : Int → Sec) (number at' : Int) : Option (List UInt8 × Int) :=
  match pieceP (rd at') number 0 with
  | none => none
  | some (_, all) => (moreP rd number at' all all.toNat).map fun b => (b, all)
theorem moreP_none {rd : Int → Sec} {number at' all : Int} {k : Nat} (h : moreP rd number at' all k = none) : ∀ m, k ≤ m → moreP rd number at' all m = none := by
  intro m hm
  induction hm with
  | refl => exact h
  | step _ ih => simp only [moreP, ih]
theorem moreP_stop {rd : Int → Sec} {number at' all : Int} {k : Nat} (h : pieceP (rd (at' + k)) number k = none ∨ ∃ m same, pieceP (rd (at' + k)) number k = some (m, same) ∧ same ≠ all) : ∀ m, k < m → moreP rd number at' all m = none := by
  refine fun m hm => moreP_none (k := k + 1) ?_ m hm
  simp only [moreP]
  cases moreP rd number at' all k with
  | none => rfl
  | some b =>
    rcases h with h | ⟨x, same, h, h2⟩
    · simp only [h]
    · simp only [h, if_neg h2]
theorem moreP_go {rd : Int → Sec} {number at' all : Int} {k : Nat} {b x : List UInt8} (h : moreP rd number at' all k = some b) (h2 : pieceP (rd (at' + k)) number k = some (x, all)) : moreP rd number at' all (k + 1) = some (b ++ x) := by
  simp only [moreP, h, h2, if_true]
theorem moreP_one {rd : Int → Sec} {number at' all : Int} {b : List UInt8} (h : pieceP (rd at') number 0 = some (b, all)) : moreP rd number at' all 1 = some b := by
  have h0 : moreP rd number at' all 0 = some [] := rfl
  have := moreP_go (rd := rd) (number := number) (at' := at') (all := all) (k := 0) h0 (x := b) (by simpa using h)
  simpa using this
theorem standsP_none1 {rd : Int → Sec} {number at' : Int} (h : pieceP (rd at') number 0 = none) : standsP rd number at' = none := by simp only [standsP, h]
theorem standsP_none2 {rd : Int → Sec} {number at' all : Int} {b : List UInt8} (h : pieceP (rd at') number 0 = some (b, all)) (h2 : moreP rd number at' all all.toNat = none) : standsP rd number at' = none := by simp only [standsP, h, h2, Option.map_none]
theorem standsP_some {rd : Int → Sec} {number at' all : Int} {b c : List UInt8} (h : pieceP (rd at') number 0 = some (b, all)) (h2 : moreP rd number at' all all.toNat = some c) : standsP rd number at' = some (c, all) := by simp only [standsP, h, h2, Option.map_some]
/-- The records that stand one behind the other. -/
def scanP (rd : Int → Sec) : Nat → Int → Int → List (List UInt8) × Int
  | 0, _, used => ([], used)
  | f + 1, cnt, used => match standsP rd (cnt + 1) used with
    | none => ([], used)
    | some (b, all) => let r := scanP rd f (cnt + 1) (used + all); (b :: r.1, r.2)
def wipeP : Nat → Int → DS → Int × DS
  | 0, _, D => (0, D)
  | n + 1, at', D => if D.read at' = zs then wipeP n (at' + 1) D else if (D.write at' []).1 = 0 then wipeP n (at' + 1) (D.write at' []).2 else D.write at' []
/-- What Open finds, and how it leaves the disk: an error's number, records, sectors. -/
structure OpenR where
  err : Int
  recs : List (List UInt8)
  used : Int
  D : DS
def fuel0 : Nat := 2049
theorem fuel0_eq : fuel0 = 2049 := rfl
def openP (D : DS) : OpenR :=
  let r := scanP D.read fuel0 0 0
  let w := wipeP (2048 - r.2).toNat r.2 D
  if w.1 ≠ 0 then ⟨w.1, [], 0, w.2⟩ else if w.2.sync.1 ≠ 0 then ⟨w.2.sync.1, [], 0, w.2.sync.2⟩ else ⟨0, r.1, r.2, w.2.sync.2⟩
/-- Sectors that there may be. -/
def In (s : Secs) : Prop := ∀ p ∈ s, 0 ≤ p.1 ∧ p.1 < 2048
def DS.In (D : DS) : Prop := Wal.In D.s ∧ Wal.In D.ws
end Wal

/-
  Joined texts: what a statement's proof reaches.
-/
import Derived.Test.YtobdfjdoilnfcaaGreatPWit3
set_option maxHeartbeats 8000000
section
namespace Wal
open Go Leg Codec Api Dsk

/-! ### Bits -/
theorem orI_add32 {x y : Int} (k : Nat) (hx : 0 ≤ x) (hx2 : x < 2 ^ k) (hy : 0 ≤ y) (h : x + y * 2 ^ k < 4294967296) : orI .u32 x (y * 2 ^ k) = x + y * 2 ^ k := by
  obtain ⟨a, rfl⟩ := Int.eq_ofNat_of_zero_le hx
  obtain ⟨b, rfl⟩ := Int.eq_ofNat_of_zero_le hy
  have e2 : ((b : Nat) : Int) * 2 ^ k = ((b * 2 ^ k : Nat) : Int) := by simp
  rw [e2] at h ⊢
  have ha : a < 2 ^ k := by have : (((2 : Nat) ^ k : Nat) : Int) = (2 : Int) ^ k := by simp
                            omega
  have hs : a + b * 2 ^ k < 4294967296 := by omega
  have h1 : (BitVec.ofInt 32 (a : Int)).toNat = a := by rw [BitVec.toNat_ofInt]; omega
  have h2 : (BitVec.ofInt 32 ((b * 2 ^ k : Nat) : Int)).toNat = b * 2 ^ k := by
    rw [BitVec.toNat_ofInt]; generalize b * 2 ^ k = q at *; omega
  have h3 : a ||| b * 2 ^ k = a + b * 2 ^ k := by
    rw [Nat.or_comm, ← Nat.shiftLeft_eq, ← Nat.shiftLeft_add_eq_or_of_lt ha, Nat.add_comm]
  show IntKind.u32.wrap (((BitVec.ofInt 32 (a : Int)) ||| (BitVec.ofInt 32 ((b * 2 ^ k : Nat) : Int))).toNat : Nat) = _
  rw [BitVec.toNat_or, h1, h2, h3]
  generalize b * 2 ^ k = q at *
  rw [wrap_u32 (by omega) (by omega)]
  omega
theorem orI_add64 {x y : Int} (k : Nat) (hx : 0 ≤ x) (hx2 : x < 2 ^ k) (hy : 0 ≤ y) (h : x + y * 2 ^ k < 9223372036854775808) : orI .i64 (y * 2 ^ k) x = x + y * 2 ^ k := by
  obtain ⟨a, rfl⟩ := Int.eq_ofNat_of_zero_le hx
  obtain ⟨b, rfl⟩ := Int.eq_ofNat_of_zero_le hy
  have e2 : ((b : Nat) : Int) * 2 ^ k = ((b * 2 ^ k : Nat) : Int) := by simp
  rw [e2] at h ⊢
  have ha : a < 2 ^ k := by have : (((2 : Nat) ^ k : Nat) : Int) = (2 : Int) ^ k := by simp
                            omega
  have h1 : (BitVec.ofInt 64 (a : Int)).toNat = a := by rw [BitVec.toNat_ofInt]; omega
  have h2 : (BitVec.ofInt 64 ((b * 2 ^ k : Nat) : Int)).toNat = b * 2 ^ k := by
    rw [BitVec.toNat_ofInt]; generalize b * 2 ^ k = q at *; omega
  have h3 : b * 2 ^ k ||| a = a + b * 2 ^ k := by
    rw [← Nat.shiftLeft_eq, ← Nat.shiftLeft_add_eq_or_of_lt ha, Nat.add_comm]
  show IntKind.i64.wrap (((BitVec.ofInt 64 ((b * 2 ^ k : Nat) : Int)) ||| (BitVec.ofInt 64 (a : Int))).toNat : Nat) = _
  rw [BitVec.toNat_or, h1, h2, h3]
  generalize b * 2 ^ k = q at *
  rw [wrap_i64 (by omega) (by omega)]
  omega
theorem u32_range (x : Int) : 0 ≤ IntKind.u32.wrap x ∧ IntKind.u32.wrap x < 4294967296 := by
  simp only [IntKind.wrap, IntKind.signed, IntKind.bits]; simp; omega
theorem xor32_range (a b : Int) : 0 ≤ xorI .u32 a b ∧ xorI .u32 a b < 4294967296 := u32_range _
def r8 (x : Int) : UInt8 := UInt8.ofNat (x % 256).toNat
theorem r8_nat (x : Int) : (((r8 x).toNat : Nat) : Int) = x % 256 := by
  have : (x % 256).toNat < 256 := by omega
  simp only [r8, UInt8.toNat_ofNat']; omega
theorem r8_wrap (x : Int) : IntKind.u8.wrap x = (((r8 x).toNat : Nat) : Int) := by
  rw [r8_nat]; simp only [IntKind.wrap, IntKind.signed, IntKind.bits]; simp

/-! ### Sums -/
def crcBit (r : Int) : Int := if andI .u32 r 1 = 1 then xorI .u32 (r.fdiv 2) 3988292384 else r.fdiv 2
def crcBits (r : Int) : Nat → Int
  | 0 => r
  | k + 1 => crcBit (crcBits r k)
def crcByte (r : Int) (c : UInt8) : Int := crcBits (xorI .u32 r ((c.toNat : Nat) : Int)) 8
def crcRun (r : Int) (bs : List UInt8) : Int := bs.foldl crcByte r
def crcOf (bs : List UInt8) : Int := xorI .u32 4294967295 (crcRun 4294967295 bs)
theorem crcRun_take {r : Int} {bs : List UInt8} {k : Nat} (h : k < bs.length) : crcRun r (bs.take (k + 1)) = crcByte (crcRun r (bs.take k)) (bs.getD k 0) := by
  rw [crcRun, crcRun, List.take_succ_eq_append_getElem h, List.foldl_append, List.getD_eq_getElem?_getD, List.getElem?_eq_getElem h]; rfl
theorem crcRun_append (r : Int) (a b : List UInt8) : crcRun r (a ++ b) = crcRun (crcRun r a) b := by simp [crcRun]
theorem crcRun_flat {r : Int} {ps : List (List UInt8)} {k : Nat} (h : k < ps.length) : crcRun r (ps.take (k + 1)).flatten = crcRun (crcRun r (ps.take k).flatten) ps[k] := by
  rw [List.take_succ_eq_append_getElem h, List.flatten_append, crcRun_append]; simp
theorem crcOf_range (bs : List UInt8) : 0 ≤ crcOf bs ∧ crcOf bs < 4294967296 := xor32_range _ _
def le4 (r : Int) : List UInt8 := [r8 r, r8 (r.fdiv 256), r8 (r.fdiv 65536), r8 (r.fdiv 16777216)]
def le32 (a b c d : UInt8) : Int :=
  orI .u32 (orI .u32 (orI .u32 ((a.toNat : Nat) : Int) (IntKind.u32.wrap (((b.toNat : Nat) : Int) * 2 ^ 8))) (IntKind.u32.wrap (((c.toNat : Nat) : Int) * 2 ^ 16))) (IntKind.u32.wrap (((d.toNat : Nat) : Int) * 2 ^ 24))
theorem le32_eq (a b c d : UInt8) : le32 a b c d = ((a.toNat : Nat) : Int) + ((b.toNat : Nat) : Int) * 256 + ((c.toNat : Nat) : Int) * 65536 + ((d.toNat : Nat) : Int) * 16777216 := by
  have ha := a.toNat_lt
  have hb := b.toNat_lt
  have hc := c.toNat_lt
  have hd := d.toNat_lt
  unfold le32
  generalize a.toNat = a at *
  generalize b.toNat = b at *
  generalize c.toNat = c at *
  generalize d.toNat = d at *
  rw [wrap_u32 (x := (b : Int) * 2 ^ 8) (by omega) (by omega), wrap_u32 (x := (c : Int) * 2 ^ 16) (by omega) (by omega), wrap_u32 (x := (d : Int) * 2 ^ 24) (by omega) (by omega)]
  rw [orI_add32 8 (by omega) (by omega) (by omega) (by omega), orI_add32 16 (by omega) (by omega) (by omega) (by omega), orI_add32 24 (by omega) (by omega) (by omega) (by omega)]
  omega
def putP (bs : List UInt8) : List UInt8 := bs ++ le4 (crcOf bs)
def takeP (bs : List UInt8) : Option (List UInt8) :=
  if bs.length < 4 then none
  else if crcOf (bs.take (bs.length - 4)) = le32 ((bs.drop (bs.length - 4)).getD 0 0) ((bs.drop (bs.length - 4)).getD 1 0) ((bs.drop (bs.length - 4)).getD 2 0) ((bs.drop (bs.length - 4)).getD 3 0) then some (bs.take (bs.length - 4)) else none
theorem putP_len (bs : List UInt8) : (putP bs).length = bs.length + 4 := by simp [putP, le4]
theorem le32_le4 {r : Int} (h : 0 ≤ r ∧ r < 4294967296) : le32 (r8 r) (r8 (r.fdiv 256)) (r8 (r.fdiv 65536)) (r8 (r.fdiv 16777216)) = r := by
  rw [le32_eq, r8_nat, r8_nat, r8_nat, r8_nat, Int.fdiv_eq_ediv_of_nonneg _ (by decide), Int.fdiv_eq_ediv_of_nonneg _ (by decide), Int.fdiv_eq_ediv_of_nonneg _ (by decide)]
  omega
theorem takeP_putP (bs : List UInt8) : takeP (putP bs) = some bs := by
  have hl := putP_len bs
  have e1 : (putP bs).take (bs.length + 4 - 4) = bs := by rw [Nat.add_sub_cancel, putP]; exact List.take_left
  have e2 : (putP bs).drop (bs.length + 4 - 4) = le4 (crcOf bs) := by rw [Nat.add_sub_cancel, putP]; exact List.drop_left
  unfold takeP
  rw [hl, if_neg (by omega), e1, e2]
  exact if_pos (le32_le4 (crcOf_range bs)).symm
theorem takeP_len {bs t : List UInt8} (h : takeP bs = some t) : t.length + 4 = bs.length := by
  unfold takeP at h
  split at h
  · cases h
  · split at h
    · injection h with h; subst h; rw [List.length_take]; omega
    · cases h

/-! ### Sectors -/
def piecesN (n : Nat) : Nat := if n = 0 then 1 else (n - 1) / 52 + 1
theorem piecesN_pos (n : Nat) : 0 < piecesN n := by unfold piecesN; split <;> omega
theorem piecesN_le {n : Nat} (h : n ≤ 3000) : piecesN n ≤ 58 := by unfold piecesN; split <;> omega
theorem piecesN_cover (n : Nat) : n ≤ piecesN n * 52 := by unfold piecesN; split <;> omega
def be4 (n : Int) : List UInt8 := [r8 (n.fdiv 16777216), r8 (n.fdiv 65536), r8 (n.fdiv 256), r8 n]
def beI (bs : List UInt8) : Int := bs.foldl (fun h c => orI .i64 (IntKind.i64.wrap (h * 2 ^ 8)) ((c.toNat : Nat) : Int)) 0
theorem beI_take {bs : List UInt8} {k : Nat} (h : k < bs.length) : beI (bs.take (k + 1)) = orI .i64 (IntKind.i64.wrap (beI (bs.take k) * 2 ^ 8)) (((bs.getD k 0).toNat : Nat) : Int) := by
  rw [beI, beI, List.take_succ_eq_append_getElem h, List.foldl_append, List.getD_eq_getElem?_getD, List.getElem?_eq_getElem h]; rfl
theorem be_step {h : Int} (c : UInt8) (h0 : 0 ≤ h) (h1 : h < 4294967296) : orI .i64 (IntKind.i64.wrap (h * 2 ^ 8)) ((c.toNat : Nat) : Int) = h * 256 + ((c.toNat : Nat) : Int) := by
  have hc := c.toNat_lt
  generalize c.toNat = c at *
  rw [wrap_i64 (by omega) (by omega), orI_add64 8 (by omega) (by omega) (by omega) (by omega)]
  omega
theorem beI_four (a b c d : UInt8) : beI [a, b, c, d] = ((a.toNat : Nat) : Int) * 16777216 + ((b.toNat : Nat) : Int) * 65536 + ((c.toNat : Nat) : Int) * 256 + ((d.toNat : Nat) : Int) := by
  have ha := a.toNat_lt
  have hb := b.toNat_lt
  have hc := c.toNat_lt
  have hd := d.toNat_lt
  simp only [beI, List.foldl_cons, List.foldl_nil]
  rw [be_step a (by omega) (by omega), be_step b (by omega) (by omega), be_step c (by omega) (by omega), be_step d (by omega) (by omega)]
  omega
theorem beI_be4 {n : Int} (h0 : 0 ≤ n) (h1 : n < 4294967296) : beI (be4 n) = n := by
  rw [be4, beI_four, r8_nat, r8_nat, r8_nat, r8_nat, Int.fdiv_eq_ediv_of_nonneg _ (by decide), Int.fdiv_eq_ediv_of_nonneg _ (by decide), Int.fdiv_eq_ediv_of_nonneg _ (by decide)]
  omega
def partP (b : List UInt8) (i : Nat) : List UInt8 := (b.drop (i * 52)).take 52
theorem partP_len (b : List UInt8) (i : Nat) : (partP b i).length ≤ 52 := by rw [partP, List.length_take]; omega
theorem part_le {n k : Nat} (h : k < piecesN n) : k * 52 ≤ n := by unfold piecesN at h; split at h <;> omega
theorem part_eq (b : List UInt8) (k : Nat) : ((b.take (min ((k + 1) * 52) b.length)).drop (k * 52)) = partP b k := by
  rw [partP, List.drop_take, Nat.add_mul, Nat.one_mul]
  by_cases q : k * 52 + 52 ≤ b.length
  · rw [Nat.min_eq_left q, Nat.add_sub_cancel_left]
  · rw [Nat.min_eq_right (by omega), List.take_of_length_le (by rw [List.length_drop]; omega), List.take_of_length_le (by rw [List.length_drop]; omega)]
theorem parts_all (b : List UInt8) : ∀ k, b.length ≤ k * 52 → ((List.range k).map (partP b)).flatten = b := by
  have key : ∀ k, ((List.range k).map (partP b)).flatten = b.take (k * 52) := by
    intro k
    induction k with
    | zero => simp
    | succ k ih =>
      rw [List.range_succ, List.map_append, List.flatten_append, ih, Nat.add_mul, Nat.one_mul, List.take_add]
      simp [partP]
  intro k hk
  rw [key, List.take_of_length_le hk]
def textP (number : Int) (place all : Nat) (p : List UInt8) : List UInt8 := be4 number ++ ([r8 (place : Int), r8 (all : Int), r8 (p.length : Int)] ++ (p ++ List.replicate (52 - p.length) 0))
theorem textP_len {number : Int} {place all : Nat} {p : List UInt8} (h : p.length ≤ 52) : (textP number place all p).length = 59 := by simp [textP, be4]; omega
def sectP (number : Int) (place all : Nat) (p : List UInt8) : Sec := putP (textP number place all p) ++ [1]
theorem sectP_len {number : Int} {place all : Nat} {p : List UInt8} (h : p.length ≤ 52) : (sectP number place all p).length = 64 := by simp [sectP, putP_len, textP_len h]
def sectorsP (number : Int) (b : List UInt8) : List Sec := (List.range (piecesN b.length)).map fun i => sectP number i (piecesN b.length) (partP b i)
def secsN (number : Int) (b : List UInt8) (k : Nat) : List Sec := (List.range k).map fun i => sectP number i (piecesN b.length) (partP b i)
theorem secsN_succ (number : Int) (b : List UInt8) (k : Nat) : secsN number b (k + 1) = secsN number b k ++ [sectP number k (piecesN b.length) (partP b k)] := by simp [secsN, List.range_succ]
theorem secsN_len (number : Int) (b : List UInt8) (k : Nat) : (secsN number b k).length = k := by simp [secsN]
theorem text_copy {number : Int} {place all : Nat} {p : List UInt8} (h : p.length ≤ 52) :
    wr (u8s (be4 number ++ ([r8 (place : Int), r8 (all : Int), r8 (p.length : Int)] ++ List.replicate 52 0))) 7 ((u8s p).take (min p.length 52)) = u8s (textP number place all p) := by
  have e : (u8s p).take (min p.length 52) = u8s p := List.take_of_length_le (by rw [u8s_length]; omega)
  rw [e, wr, u8s_length]
  have e2 : (u8s (be4 number ++ ([r8 (place : Int), r8 (all : Int), r8 (p.length : Int)] ++ List.replicate 52 0))).take 7 = u8s (be4 number ++ [r8 (place : Int), r8 (all : Int), r8 (p.length : Int)]) := rfl
  have e3 : (u8s (be4 number ++ ([r8 (place : Int), r8 (all : Int), r8 (p.length : Int)] ++ List.replicate 52 0))).drop (7 + p.length) = u8s (List.replicate (52 - p.length) 0) := by
    rw [← List.drop_drop]
    have : (u8s (be4 number ++ ([r8 (place : Int), r8 (all : Int), r8 (p.length : Int)] ++ List.replicate 52 0))).drop 7 = u8s (List.replicate 52 0) := rfl
    rw [this, u8s, u8s, ← List.map_drop, List.drop_replicate]
  rw [e2, e3, textP]
  simp [u8s]
theorem sectorsP_len (number : Int) (b : List UInt8) : (sectorsP number b).length = piecesN b.length := by simp [sectorsP]
def pieceP (s : Sec) (number place : Int) : Option (List UInt8 × Int) :=
  match takeP (s.take 63) with
  | none => none
  | some t => if s.getD 63 0 ≠ 1 then none
    else if beI (t.take 4) ≠ number ∨ (((t.getD 4 0).toNat : Nat) : Int) ≠ place ∨ place ≥ (((t.getD 5 0).toNat : Nat) : Int) ∨ (((t.getD 6 0).toNat : Nat) : Int) > 52 then none
    else some ((t.drop 7).take (t.getD 6 0).toNat, (((t.getD 5 0).toNat : Nat) : Int))
theorem pieceP_sect {number : Int} {place all : Nat} {p : List UInt8} (h : p.length ≤ 52) (h0 : 0 ≤ number) (h1 : number < 4294967296) (hp : place < all) (ha : all ≤ 255) : pieceP (sectP number place all p) number place = some (p, (all : Int)) := by
  have e1 : (sectP number place all p).take 63 = putP (textP number place all p) := by
    rw [sectP, List.take_append_of_le_length (by rw [putP_len, textP_len h]; omega), List.take_of_length_le (by rw [putP_len, textP_len h]; omega)]
  have e2 : (sectP number place all p).getD 63 0 = 1 := by
    rw [sectP, List.getD_eq_getElem?_getD, List.getElem?_append_right (by rw [putP_len, textP_len h]; omega), putP_len, textP_len h]; rfl
  have n1 : (((r8 (place : Int)).toNat : Nat) : Int) = place := by rw [r8_nat]; omega
  have n2 : (((r8 (all : Int)).toNat : Nat) : Int) = all := by rw [r8_nat]; omega
  have n3 : (((r8 (p.length : Int)).toNat : Nat) : Int) = p.length := by rw [r8_nat]; omega
  unfold pieceP
  rw [e1, takeP_putP]
  simp only [e2, ne_eq, not_true_eq_false, if_false]
  have t4 : (textP number place all p).take 4 = be4 number := rfl
  have g4 : (textP number place all p).getD 4 0 = r8 (place : Int) := rfl
  have g5 : (textP number place all p).getD 5 0 = r8 (all : Int) := rfl
  have g6 : (textP number place all p).getD 6 0 = r8 (p.length : Int) := rfl
  have g7 : (textP number place all p).drop 7 = p ++ List.replicate (52 - p.length) 0 := rfl
  rw [t4, beI_be4 h0 h1, g4, g5, g6, g7, n1, n2, n3]
  rw [if_neg (by omega)]
  have n3' : (r8 (p.length : Int)).toNat = p.length := by omega
  rw [n3']
  simp
theorem pieceP_end {s : Sec} {number place : Int} (h : s.getD 63 0 ≠ 1) : pieceP s number place = none := by
  unfold pieceP
  split
  · rfl
  · rw [if_pos h]
theorem pieceP_facts {s b : Sec} {number place all : Int} (hs : s.length = 64) (h : pieceP s number place = some (b, all)) : place < all ∧ all ≤ 255 ∧ b.length ≤ 52 := by
  unfold pieceP at h
  split at h
  · cases h
  · rename_i t ht
    have hl := takeP_len ht
    split at h
    · cases h
    · split at h
      · cases h
      · rename_i h2
        injection h with h
        simp only [Prod.mk.injEq] at h
        obtain ⟨rfl, rfl⟩ := h
        have := (t.getD 5 0).toNat_lt
        rw [List.length_take]
        omega

theorem pieceP_none1 {s : Sec} {number place : Int} (h : takeP (s.take 63) = none) : pieceP s number place = none := by simp only [pieceP, h]
theorem pieceP_none2 {s t : Sec} {number place : Int} (h : takeP (s.take 63) = some t) (h2 : beI (t.take 4) ≠ number ∨ (((t.getD 4 0).toNat : Nat) : Int) ≠ place ∨ place ≥ (((t.getD 5 0).toNat : Nat) : Int) ∨ (((t.getD 6 0).toNat : Nat) : Int) > 52) : pieceP s number place = none := by
  simp only [pieceP, h]
  split
  · rfl
  · first | rfl | rw [if_pos h2]
theorem pieceP_some {s t : Sec} {number place : Int} (h : takeP (s.take 63) = some t) (h1 : s.getD 63 0 = 1) (h2 : ¬ (beI (t.take 4) ≠ number ∨ (((t.getD 4 0).toNat : Nat) : Int) ≠ place ∨ place ≥ (((t.getD 5 0).toNat : Nat) : Int) ∨ (((t.getD 6 0).toNat : Nat) : Int) > 52)) :
    pieceP s number place = some ((t.drop 7).take (t.getD 6 0).toNat, (((t.getD 5 0).toNat : Nat) : Int)) := by
  simp only [pieceP, h, h1, ne_eq, not_true_eq_false, if_false]
  rw [if_neg h2]

/-! ### Records -/
/-- The first k pieces of a record. -/
def moreP (rd : Int → Sec) (number at' all : Int) : Nat → Option (List UInt8)
  | 0 => some []
  | k + 1 => match moreP rd number at' all k with
    | none => none
    | some b => match pieceP (rd (at' + k)) number k with
      | none => none
      | some (m, same) => if same = all then some (b ++ m) else none
def standsP (rd : Int → Sec) (number at' : Int) : Option (List UInt8 × Int) :=
  match pieceP (rd at') number 0 with
  | none => none
  | some (_, all) => (moreP rd number at' all all.toNat).map fun b => (b, all)
theorem moreP_none {rd : Int → Sec} {number at' all : Int} {k : Nat} (h : moreP rd number at' all k = none) : ∀ m, k ≤ m → moreP rd number at' all m = none := by
  intro m hm
  induction hm with
  | refl => exact h
  | step _ ih => simp only [moreP, ih]
theorem moreP_stop {rd : Int → Sec} {number at' all : Int} {k : Nat} (h : pieceP (rd (at' + k)) number k = none ∨ ∃ m same, pieceP (rd (at' + k)) number k = some (m, same) ∧ same ≠ all) : ∀ m, k < m → moreP rd number at' all m = none := by
  refine fun m hm => moreP_none (k := k + 1) ?_ m hm
  simp only [moreP]
  cases moreP rd number at' all k with
  | none => rfl
  | some b =>
    rcases h with h | ⟨x, same, h, h2⟩
    · simp only [h]
    · simp only [h, if_neg h2]
theorem moreP_go {rd : Int → Sec} {number at' all : Int} {k : Nat} {b x : List UInt8} (h : moreP rd number at' all k = some b) (h2 : pieceP (rd (at' + k)) number k = some (x, all)) : moreP rd number at' all (k + 1) = some (b ++ x) := by
  simp only [moreP, h, h2, if_true]
theorem moreP_one {rd : Int → Sec} {number at' all : Int} {b : List UInt8} (h : pieceP (rd at') number 0 = some (b, all)) : moreP rd number at' all 1 = some b := by
  have h0 : moreP rd number at' all 0 = some [] := rfl
  have := moreP_go (rd := rd) (number := number) (at' := at') (all := all) (k := 0) h0 (x := b) (by simpa using h)
  simpa using this
theorem standsP_none1 {rd : Int → Sec} {number at' : Int} (h : pieceP (rd at') number 0 = none) : standsP rd number at' = none := by simp only [standsP, h]
theorem standsP_none2 {rd : Int → Sec} {number at' all : Int} {b : List UInt8} (h : pieceP (rd at') number 0 = some (b, all)) (h2 : moreP rd number at' all all.toNat = none) : standsP rd number at' = none := by simp only [standsP, h, h2, Option.map_none]
theorem standsP_some {rd : Int → Sec} {number at' all : Int} {b c : List UInt8} (h : pieceP (rd at') number 0 = some (b, all)) (h2 : moreP rd number at' all all.toNat = some c) : standsP rd number at' = some (c, all) := by simp only [standsP, h, h2, Option.map_some]
def scanP (rd : Int → Sec) : Nat → Int → Int → List (List UInt8) × Int
  | 0, _, used => ([], used)
  | f + 1, cnt, used => match standsP rd (cnt + 1) used with
    | none => ([], used)
    | some (b, all) => let r := scanP rd f (cnt + 1) (used + all); (b :: r.1, r.2)
def wipeP : Nat → Int → DS → Int × DS
  | 0, _, D => (0, D)
  | n + 1, at', D => if D.read at' = zs then wipeP n (at' + 1) D else if (D.write at' []).1 = 0 then wipeP n (at' + 1) (D.write at' []).2 else D.write at' []
structure OpenR where
  err : Int
  recs : List (List UInt8)
  used : Int
  D : DS
def fuel0 : Nat := 2049
theorem fuel0_eq : fuel0 = 2049 := rfl
def openP (D : DS) : OpenR :=
  let r := scanP D.read fuel0 0 0
  let w := wipeP (2048 - r.2).toNat r.2 D
  if w.1 ≠ 0 then ⟨w.1, [], 0, w.2⟩ else if w.2.sync.1 ≠ 0 then ⟨w.2.sync.1, [], 0, w.2.sync.2⟩ else ⟨0, r.1, r.2, w.2.sync.2⟩
def In (s : Secs) : Prop := ∀ p ∈ s, 0 ≤ p.1 ∧ p.1 < 2048
def DS.In (D : DS) : Prop := Wal.In D.s ∧ Wal.In D.ws
end Wal
end

section
namespace Go.Proofs.YtobdfjdoilnfcaaGreat

open Go Leg Codec Api Dsk Wal

set_option maxRecDepth 100000

theorem of_does (x : Value) (ps : List (List UInt8)) :
    Leg.Does Tryz.prog 92 #[x] (IsBB x ps) [] (Ret (fun v H => v = .int .u32 (crcOf ps.flatten) ∧ H = [])) := by
 refine Leg.Does.body (n := 39) Tryz.func92 rfl rfl rfl (fun w0 F hF => ?_)
 refine sr fun _ J1 => ?_
 refine PS ?_
 refine nx J1 (sr fun _ J2 => ?_)
 refine PS ?_
 refine nx J2 ?_
 refine TC.seq fun _ J3 => ?_
 refine sr fun _ J4 => ?_
 refine PS ?_
 refine tp (PV.lenV rfl Tryz.underlying126 rfl hF.len) ?_
 refine PS ?_
 refine nx J4 ?_
 refine TC.block ?_
 refine TC.loop (α := (Nat)) (fun k => k ≤ ps.length) (fun k => [(2, (.int .u32 0)), (3, (.int .u32 (crcRun 4294967295 (ps.take k).flatten))), (8, x), (9, (.int .i64 (((ps.length : Nat) : Int)))), (10, (.int .i64 (((k : Nat) : Int))))]) (fun k => []) (fun k => ps.length - k) 0
     (Nat.zero_le _) (Sub.r (Sub.cons rfl (by congr 1) (Sub.r (Sub.r (Sub.cons rfl (by congr 1) (Sub.nil _))))))
     (fun _ s => s) (fun k hinv => ?_)
 obtain hk := hinv
 refine sr fun _ J5 => ?_
 refine PS ?_
 refine TL.dec (fun h11 => ?_) (fun h11 => ?_)
 obtain ⟨b_a, off_a, cap_a, cs_a, T_a, z_a, us_a, hv_a, hc_a, hb_a, hl_a, hs_a, hE_a⟩ := IsL.at hF (j := k) (by omega)
 obtain ⟨u_a, rfl, hu_a⟩ := hE_a
 refine nx J5 ?_
 refine TC.seq fun _ J6 => ?_
 refine CY ?_
 refine CX J6 ?_
 refine TC.seq fun _ J7 => ?_
 refine TC.block ?_
 refine sr fun _ J8 => ?_
 refine tp (PV.indexSlV (r := off_a + k) hv_a rfl Tryz.underlying126 sz72 rfl rfl (by omega) (by omega) (by omega)) ?_
 refine tp (PV.load1X (v := u_a) rfl Tryz.underlying72 rfl rfl (RdX.frm hb_a (fun _ h => Frm.of h)) (by have := stretch_get (j := 0) hs_a rfl; simpa using this)) ?_
 refine PS ?_
 refine nx J8 (sr fun _ J9 => ?_)
 refine PS ?_
 refine tp (PV.lenV rfl Tryz.underlying72 rfl hu_a.len) ?_
 refine PS ?_
 refine nx J9 ?_
 refine TC.block ?_
 refine TC.loop (α := (Nat)) (fun j => j ≤ ps[k].length) (fun j => [(2, (.int .u32 0)), (3, (.int .u32 (crcRun (crcRun 4294967295 (ps.take k).flatten) (ps[k].take j)))), (8, x), (9, (.int .i64 (((ps.length : Nat) : Int)))), (10, (.int .i64 (((k : Nat) : Int)))), (14, u_a), (15, (.int .i64 (((ps[k].length : Nat) : Int)))), (16, (.int .i64 (((j : Nat) : Int))))]) (fun j => []) (fun j => ps[k].length - j) 0
     (Nat.zero_le _) (Sub.r (Sub.cons rfl (by congr 1) (Sub.r (Sub.r (Sub.r (Sub.r (Sub.r (Sub.cons rfl (by congr 1) (Sub.nil _)))))))))
     (fun _ s => s) (fun j hinv => ?_)
 obtain hj := hinv
 refine sr fun _ J10 => ?_
 refine PS ?_
 refine TL.dec (fun h17 => ?_) (fun h17 => ?_)
 obtain ⟨b_b, off_b, cap_b, cs_b, T_b, z_b, hv_b, hb_b, hcs_b, hcp_b⟩ := IsW.at hu_a (j := j) (by omega)
 have hlt_b := IsW.lt hu_a
 refine nx J10 ?_
 refine TC.seq fun _ J11 => ?_
 refine CY ?_
 refine CX J11 ?_
 refine TC.seq fun _ J12 => ?_
 refine TC.block ?_
 refine sr fun _ J13 => ?_
 refine tp (PV.indexSlV (r := off_b + j) hv_b rfl Tryz.underlying72 sz5 rfl rfl (by omega) (by omega) (by omega)) ?_
 refine tp (PV.load1X (v := (.int .u8 (((((ps[k]).getD j 0).toNat : Nat) : Int)))) rfl Tryz.underlying5 rfl rfl (RdX.frm hb_b (fun _ h => Frm.of h)) (hcs_b j (by omega))) ?_
 refine PS ?_
 refine nx J13 (sr fun _ J14 => ?_)
 refine PS ?_
 refine PS ?_
 refine tp (PV.convI (r := ((((ps[k]).getD j 0).toNat : Nat) : Int)) rfl Tryz.underlying5 Tryz.underlying163 rfl (wrap_u32 (by omega) (by have := (ps[k].getD j 0).toNat_lt; omega))) ?_
 refine tp (PV.xor (r := xorI .u32 (crcRun (crcRun 4294967295 (ps.take k).flatten) (ps[k].take j)) (((((ps[k]).getD j 0).toNat : Nat) : Int))) rfl rfl rfl rfl) ?_
 refine PS ?_
 refine nx J14 (sr fun _ J15 => ?_)
 refine PS ?_
 refine nx J15 ?_
 refine TC.block ?_
 refine TC.loop (α := (Nat)) (fun i => i ≤ 8) (fun i => [(2, (.int .u32 0)), (3, (.int .u32 (crcBits (xorI .u32 (crcRun (crcRun 4294967295 (ps.take k).flatten) (ps[k].take j)) ((((ps[k]).getD j 0).toNat : Nat) : Int)) i))), (8, x), (9, (.int .i64 (((ps.length : Nat) : Int)))), (10, (.int .i64 (((k : Nat) : Int)))), (14, u_a), (15, (.int .i64 (((ps[k].length : Nat) : Int)))), (16, (.int .i64 (((j : Nat) : Int)))), (24, (.int .i64 (((i : Nat) : Int))))]) (fun i => []) (fun i => 8 - i) 0
     (Nat.zero_le _) (Sub.r (Sub.cons rfl (by congr 1) (Sub.r (Sub.r (Sub.r (Sub.r (Sub.r (Sub.r (Sub.cons rfl (by congr 1) (Sub.nil _))))))))))
     (fun _ s => s) (fun i hinv => ?_)
 obtain hi := hinv
 refine sr fun _ J16 => ?_
 refine PS ?_
 refine TL.dec (fun h25 => ?_) (fun h25 => ?_)
 refine nx J16 ?_
 refine TC.seq fun _ J17 => ?_
 refine CY ?_
 refine CX J17 ?_
 refine TC.seq fun _ J18 => ?_
 refine TC.block ?_
 refine sr fun _ J19 => ?_
 refine PS ?_
 refine tp (PV.and (r := andI .u32 (crcBits (xorI .u32 (crcRun (crcRun 4294967295 (ps.take k).flatten) (ps[k].take j)) ((((ps[k]).getD j 0).toNat : Nat) : Int)) i) 1) rfl rfl rfl rfl) ?_
 refine PS ?_
 refine TL.dec (fun h28 => ?_) (fun h28 => ?_)
 refine nx J19 ?_
 refine CY ?_
 refine TC.region ?_
 refine PS ?_
 refine tp (PV.shr (r := (crcBits (xorI .u32 (crcRun (crcRun 4294967295 (ps.take k).flatten) (ps[k].take j)) ((((ps[k]).getD j 0).toNat : Nat) : Int)) i).fdiv 2) rfl rfl rfl (by omega) rfl) ?_
 refine tp (PV.xor (r := xorI .u32 ((crcBits (xorI .u32 (crcRun (crcRun 4294967295 (ps.take k).flatten) (ps[k].take j)) ((((ps[k]).getD j 0).toNat : Nat) : Int)) i).fdiv 2) 3988292384) rfl rfl rfl rfl) ?_
 refine PS ?_
 refine TL.nil ?_
 refine TE.blockEnd ?_
 refine TE.next J18 ?_
 refine TC.region ?_
 refine tp (PV.add rfl rfl rfl (wrap_i64 (by omega) (by omega))) ?_
 refine PS ?_
 refine TL.nil ?_
 exact TE.round ((i + 1) : (Nat)) (by omega) (by show 8 - (i + 1) < 8 - i; omega)
   (Sub.r (Sub.cons rfl (congrArg (Value.int .u32) (by rw [crcBits, crcBit, if_pos h28])) (Sub.r (Sub.r (Sub.r (Sub.r (Sub.r (Sub.r (Sub.cons rfl (by simp) (Sub.nil _))))))))))
   (fun _ s => s)
 refine nx J19 ?_
 refine CN ?_
 refine TC.region ?_
 refine PS ?_
 refine tp (PV.shr (r := (crcBits (xorI .u32 (crcRun (crcRun 4294967295 (ps.take k).flatten) (ps[k].take j)) ((((ps[k]).getD j 0).toNat : Nat) : Int)) i).fdiv 2) rfl rfl rfl (by omega) rfl) ?_
 refine PS ?_
 refine TL.nil ?_
 refine TE.blockEnd ?_
 refine TE.next J18 ?_
 refine TC.region ?_
 refine tp (PV.add rfl rfl rfl (wrap_i64 (by omega) (by omega))) ?_
 refine PS ?_
 refine TL.nil ?_
 exact TE.round ((i + 1) : (Nat)) (by omega) (by show 8 - (i + 1) < 8 - i; omega)
   (Sub.r (Sub.cons rfl (congrArg (Value.int .u32) (by rw [crcBits, crcBit, if_neg h28])) (Sub.r (Sub.r (Sub.r (Sub.r (Sub.r (Sub.r (Sub.cons rfl (by simp) (Sub.nil _))))))))))
   (fun _ s => s)
 refine nx J16 ?_
 refine TC.seq fun _ J20 => ?_
 refine CN ?_
 refine TC.exit ?_
 refine TE.pass ?_
 refine TE.pass ?_
 refine TE.hit ?_
 refine TE.blockEnd ?_
 refine TE.next J12 ?_
 refine TC.region ?_
 refine tp (PV.add rfl rfl rfl (wrap_i64 (by omega) (by omega))) ?_
 refine PS ?_
 refine TL.nil ?_
 exact TE.round ((j + 1) : (Nat)) (by omega) (by show ps[k].length - (j + 1) < ps[k].length - j; omega)
   (Sub.r (Sub.cons rfl (congrArg (Value.int .u32) (by obtain rfl : i = 8 := (by omega); rw [crcRun_take (by omega)]; rfl)) (Sub.r (Sub.r (Sub.r (Sub.r (Sub.r (Sub.cons rfl (by simp) (Sub.nil _)))))))))
   (fun _ s => s)
 refine nx J10 ?_
 refine TC.seq fun _ J21 => ?_
 refine CN ?_
 refine TC.exit ?_
 refine TE.pass ?_
 refine TE.pass ?_
 refine TE.hit ?_
 refine TE.blockEnd ?_
 refine TE.next J7 ?_
 refine TC.region ?_
 refine tp (PV.add rfl rfl rfl (wrap_i64 (by omega) (by omega))) ?_
 refine PS ?_
 refine TL.nil ?_
 exact TE.round ((k + 1) : (Nat)) (by omega) (by show ps.length - (k + 1) < ps.length - k; omega)
   (Sub.r (Sub.cons rfl (congrArg (Value.int .u32) (by rw [show j = ps[k].length by omega, List.take_length, crcRun_flat (by omega)])) (Sub.r (Sub.r (Sub.cons rfl (by simp) (Sub.nil _))))))
   (fun _ s => s)
 refine nx J5 ?_
 refine TC.seq fun _ J22 => ?_
 refine CN ?_
 refine TC.exit ?_
 refine TE.pass ?_
 refine TE.pass ?_
 refine TE.hit ?_
 refine TE.next J3 ?_
 refine sr fun _ J23 => ?_
 refine PS ?_
 refine tp (PV.com (r := xorI .u32 4294967295 (crcRun 4294967295 (ps.take k).flatten)) rfl rfl rfl) ?_
 refine PS ?_
 refine nx J23 ?_
 refine TC.ret ?_
 refine WK [] ?_
 refine TE.ret1 rfl rfl ?_
 obtain rfl : k = ps.length := by omega
 rw [List.take_length]
 exact ⟨rfl, rfl⟩
theorem sumPut_does (x : Value) (bs : List UInt8) (hb : bs.length ≤ 1000000000) :
    Leg.Does Tryz.prog 60 #[x] (IsW x bs) [] (Ret (fun v H => H = [ownB v (putP bs) 5])) := by
 refine Leg.Does.body (n := 29) Tryz.func60 rfl rfl rfl (fun w0 F hF => ?_)
 refine sr fun _ J1 => ?_
 refine PS ?_
 refine nx J1 (sr fun _ J2 => ?_)
 refine PS ?_
 refine TL.buildSlice (cells := #[x]) (Want.plain rfl) rfl rfl rfl Tryz.underlying126 in72 rfl rfl rfl (fill_one hF.one (by simp)) (fun b6 => ?_)
 refine CQ nm92 (of_does (.slice (some ⟨b6, 0, none⟩) (1) (1)) [bs]) (fun _ s => s) (isBB_one hF 0 rfl rfl) fun vR HR hR => ?_
 obtain ⟨rfl, rfl⟩ := hR
 rw [show [bs].flatten = bs by simp]
 refine PS ?_
 refine nx J2 (sr fun _ J3 => ?_)
 refine PS ?_
 refine tp (PV.lenV rfl Tryz.underlying72 rfl hF.len) ?_
 refine tp (PV.add rfl rfl rfl (wrap_i64 (by omega) (by omega))) ?_
 refine TL.makeB (0) (bs.length + 4) (Want.plain rfl) rfl rfl rfl Tryz.underlying72 in5 rfl rfl rfl (by omega) (by omega) (by omega) (fun b11 => ?_)
 refine TL.mono (H' := [ownB (.slice (some ⟨b11, 0, none⟩) 0 (bs.length + 4)) ([]) 5, blkA b6 [x] 72]) (fun _ s => sep_own 0 rfl rfl (by omega) (by simp only [maxLen]; omega) (by simp [u8s]) rfl s) ?_
 refine PS ?_
 refine nx J3 (sr fun _ J4 => ?_)
 refine PS ?_
 refine PS ?_
 refine TL.append (k := 0) (news := u8s (bs)) (nn' := (bs : List UInt8).length) (xs' := u8s (bs)) (Want.plain rfl) rfl rfl rfl Tryz.underlying72 in5 rfl rfl rfl rfl rfl rfl (fun _ _ => hF.src (fun _ h => Frm.of h)) (u8s_one _) (by simp only [maxLen, List.length_nil]; omega) (by simp only [List.length_nil]; omega) (by simp) (List.nil_append _) (fun v14 ov14 => ?_)
 refine PS ?_
 refine nx J4 (sr fun _ J5 => ?_)
 refine PS ?_
 refine PS ?_
 refine tp (PV.convI (r := (((r8 (crcOf bs)).toNat : Nat) : Int)) rfl Tryz.underlying163 Tryz.underlying5 rfl (r8_wrap _)) ?_
 refine PS ?_
 refine tp (PV.shr (r := (crcOf bs).fdiv 256) rfl rfl rfl (by omega) rfl) ?_
 refine tp (PV.convI (r := (((r8 ((crcOf bs).fdiv 256)).toNat : Nat) : Int)) rfl Tryz.underlying163 Tryz.underlying5 rfl (r8_wrap _)) ?_
 refine PS ?_
 refine tp (PV.shr (r := (crcOf bs).fdiv 65536) rfl rfl rfl (by omega) rfl) ?_
 refine tp (PV.convI (r := (((r8 ((crcOf bs).fdiv 65536)).toNat : Nat) : Int)) rfl Tryz.underlying163 Tryz.underlying5 rfl (r8_wrap _)) ?_
 refine PS ?_
 refine tp (PV.shr (r := (crcOf bs).fdiv 16777216) rfl rfl rfl (by omega) rfl) ?_
 refine tp (PV.convI (r := (((r8 ((crcOf bs).fdiv 16777216)).toNat : Nat) : Int)) rfl Tryz.underlying163 Tryz.underlying5 rfl (r8_wrap _)) ?_
 refine TL.buildSlice (cells := #[(.int .u8 ((((r8 (crcOf bs)).toNat : Nat) : Int))), (.int .u8 ((((r8 ((crcOf bs).fdiv 256)).toNat : Nat) : Int))), (.int .u8 ((((r8 ((crcOf bs).fdiv 65536)).toNat : Nat) : Int))), (.int .u8 ((((r8 ((crcOf bs).fdiv 16777216)).toNat : Nat) : Int)))]) (Want.plain rfl) rfl rfl rfl Tryz.underlying72 in5 rfl rfl rfl (by as_aux_lemma => kernel_rfl) (fun b27 => ?_)
 refine TL.append (k := 1) (news := u8s ([(r8 (crcOf bs)), (r8 ((crcOf bs).fdiv 256)), (r8 ((crcOf bs).fdiv 65536)), (r8 ((crcOf bs).fdiv 16777216))])) (nn' := (bs ++ [(r8 (crcOf bs)), (r8 ((crcOf bs).fdiv 256)), (r8 ((crcOf bs).fdiv 65536)), (r8 ((crcOf bs).fdiv 16777216))] : List UInt8).length) (xs' := u8s (bs ++ [(r8 (crcOf bs)), (r8 ((crcOf bs).fdiv 256)), (r8 ((crcOf bs).fdiv 65536)), (r8 ((crcOf bs).fdiv 16777216))])) (Want.plain rfl) rfl rfl rfl Tryz.underlying72 in5 rfl rfl rfl rfl rfl rfl (fun _ _ => Src.rd rfl (RO 0) rfl) (u8s_one [(r8 (crcOf bs)), (r8 ((crcOf bs).fdiv 256)), (r8 ((crcOf bs).fdiv 65536)), (r8 ((crcOf bs).fdiv 16777216))]) (by simp only [maxLen]; omega) (by omega) (by simp) (u8s_append _ _).symm (fun v28 ov28 => ?_)
 refine PS ?_
 refine nx J5 ?_
 refine TC.ret ?_
 refine WK [1] ?_
 refine TE.ret1 rfl rfl ?_
 exact rfl
theorem take_form (a : Option Addr) (c : Nat) (bs : List UInt8) (hc : bs.length ≤ c) (hb : bs.length ≤ 1000000000) :
    Leg.Does Tryz.prog 145 #[(.slice a bs.length c)] (IsW (.slice a bs.length c) bs) [] (Ret (fun v H => (takeP bs = none ∧ v = .tuple #[.slice none 0 0, .bool false] ∧ H = []) ∨ ∃ t u, takeP bs = some t ∧ v = .tuple #[u, .bool true] ∧ H = [ownB u t 5])) := by
 refine Leg.Does.body (n := 50) Tryz.func145 rfl rfl rfl (fun w0 F hF => ?_)
 refine sr fun _ J1 => ?_
 refine PS ?_
 refine PS ?_
 refine nx J1 ?_
 refine TC.seq fun _ J2 => ?_
 refine sr fun _ J3 => ?_
 refine PS ?_
 refine tp (PV.lenV rfl Tryz.underlying72 rfl ⟨_, _, rfl⟩) ?_
 refine PS ?_
 refine TL.dec (fun h9 => ?_) (fun h9 => ?_)
 refine nx J3 ?_
 refine CY ?_
 refine sr fun _ J4 => ?_
 refine PS ?_
 refine PS ?_
 refine nx J4 ?_
 refine TC.ret ?_
 refine TE.passRet ?_
 refine WK [] ?_
 refine TE.ret2 rfl rfl rfl ?_
 exact .inl ⟨by rw [takeP, if_pos (by omega)], rfl, rfl⟩
 have hT : IsW (cutLH (.slice a bs.length c) 0 (bs.length - 4)) (bs.take (bs.length - 4)) F := by have := hF.cut (lo := 0) (hi := bs.length - 4) (by omega) (by omega); simpa using this
 have hU : IsW (cutLH (.slice a bs.length c) (bs.length - 4) bs.length) (bs.drop (bs.length - 4)) F := by have := hF.cut (lo := bs.length - 4) (hi := bs.length) (by omega) (by omega); rwa [List.take_length] at this
 have hq : (bs.drop (bs.length - 4)).length = 4 := by rw [List.length_drop]; omega
 obtain ⟨b_b, off_b, cap_b, cs_b, T_b, z_b, hv_b, hb_b, hcs_b, hcp_b⟩ := IsW.at hU (j := 0) (by omega)
 have hlt_b := IsW.lt hU
 refine nx J3 ?_
 refine CN ?_
 refine CX J2 ?_
 refine TC.seq fun _ J5 => ?_
 refine D0 mixedD ?_
 refine PD 0 ?_
 refine PD 1 ?_
 refine ta 2 rfl (PV.lenV rfl Tryz.underlying72 rfl ⟨_, _, rfl⟩) ?_
 refine ta 3 rfl (PV.sub (r := (((bs.length - 4 : Nat) : Nat) : Int)) rfl rfl rfl (by rw [show (((bs.length : Nat) : Int) - 4) = ((bs.length - 4 : Nat) : Int) by omega]; exact wrap_i64 (by omega) (by omega))) ?_
 refine ta 4 rfl (PV.sliceH (hi := bs.length - 4) rfl Tryz.underlying72 sz5 rfl rfl rfl (by omega)) ?_
 refine PD 5 ?_
 refine PD 6 ?_
 refine ta 7 rfl (PV.lenV rfl Tryz.underlying72 rfl ⟨_, _, rfl⟩) ?_
 refine ta 8 rfl (PV.sub (r := (((bs.length - 4 : Nat) : Nat) : Int)) rfl rfl rfl (by rw [show (((bs.length : Nat) : Int) - 4) = ((bs.length - 4 : Nat) : Int) by omega]; exact wrap_i64 (by omega) (by omega))) ?_
 refine ta 9 rfl (PV.sliceL (lo := bs.length - 4) rfl Tryz.underlying72 sz5 rfl rfl rfl (by omega)) ?_
 refine PD 10 ?_
 refine PD 11 ?_
 refine TD.done (by kernel_rfl) ?_
 refine TE.next J5 ?_
 refine TC.seq fun _ J6 => ?_
 refine D0 mixedD ?_
 refine PD 0 ?_
 refine ta 1 rfl (PV.indexSlV (r := off_b) hv_b rfl Tryz.underlying72 sz5 rfl rfl (by omega) (by omega) (by omega)) ?_
 refine ta 2 rfl (PV.load1X (v := (.int .u8 ((((((bs.drop (bs.length - 4))).getD 0 0).toNat : Nat) : Int)))) rfl Tryz.underlying5 rfl rfl (RdX.frm hb_b (fun _ h => h.1)) (hcs_b 0 (by omega))) ?_
 refine ta 3 rfl (PV.convI (r := (((((bs.drop (bs.length - 4))).getD 0 0).toNat : Nat) : Int)) rfl Tryz.underlying5 Tryz.underlying163 rfl (wrap_u32 (by omega) (by have := UInt8.toNat_lt (n := (bs.drop (bs.length - 4)).getD 0 0); omega))) ?_
 refine PD 4 ?_
 refine ta 5 rfl (PV.indexSlV (r := off_b + 1) hv_b rfl Tryz.underlying72 sz5 rfl rfl (by omega) (by omega) (by omega)) ?_
 refine ta 6 rfl (PV.load1X (v := (.int .u8 ((((((bs.drop (bs.length - 4))).getD 1 0).toNat : Nat) : Int)))) rfl Tryz.underlying5 rfl rfl (RdX.frm hb_b (fun _ h => h.1)) (hcs_b 1 (by omega))) ?_
 refine ta 7 rfl (PV.convI (r := (((((bs.drop (bs.length - 4))).getD 1 0).toNat : Nat) : Int)) rfl Tryz.underlying5 Tryz.underlying163 rfl (wrap_u32 (by omega) (by have := UInt8.toNat_lt (n := (bs.drop (bs.length - 4)).getD 1 0); omega))) ?_
 refine ta 8 rfl (PV.shl (r := IntKind.u32.wrap ((((((bs.drop (bs.length - 4))).getD 1 0).toNat : Nat) : Int) * 2 ^ 8)) rfl rfl rfl (by omega) rfl) ?_
 refine ta 9 rfl (PV.or (r := orI .u32 (((((bs.drop (bs.length - 4))).getD 0 0).toNat : Nat) : Int) (IntKind.u32.wrap ((((((bs.drop (bs.length - 4))).getD 1 0).toNat : Nat) : Int) * 2 ^ 8))) rfl rfl rfl rfl) ?_
 refine PD 10 ?_
 refine ta 11 rfl (PV.indexSlV (r := off_b + 2) hv_b rfl Tryz.underlying72 sz5 rfl rfl (by omega) (by omega) (by omega)) ?_
 refine ta 12 rfl (PV.load1X (v := (.int .u8 ((((((bs.drop (bs.length - 4))).getD 2 0).toNat : Nat) : Int)))) rfl Tryz.underlying5 rfl rfl (RdX.frm hb_b (fun _ h => h.1)) (hcs_b 2 (by omega))) ?_
 refine ta 13 rfl (PV.convI (r := (((((bs.drop (bs.length - 4))).getD 2 0).toNat : Nat) : Int)) rfl Tryz.underlying5 Tryz.underlying163 rfl (wrap_u32 (by omega) (by have := UInt8.toNat_lt (n := (bs.drop (bs.length - 4)).getD 2 0); omega))) ?_
 refine ta 14 rfl (PV.shl (r := IntKind.u32.wrap ((((((bs.drop (bs.length - 4))).getD 2 0).toNat : Nat) : Int) * 2 ^ 16)) rfl rfl rfl (by omega) rfl) ?_
 refine ta 15 rfl (PV.or (r := orI .u32 (orI .u32 (((((bs.drop (bs.length - 4))).getD 0 0).toNat : Nat) : Int) (IntKind.u32.wrap ((((((bs.drop (bs.length - 4))).getD 1 0).toNat : Nat) : Int) * 2 ^ 8))) (IntKind.u32.wrap ((((((bs.drop (bs.length - 4))).getD 2 0).toNat : Nat) : Int) * 2 ^ 16))) rfl rfl rfl rfl) ?_
 refine PD 16 ?_
 refine ta 17 rfl (PV.indexSlV (r := off_b + 3) hv_b rfl Tryz.underlying72 sz5 rfl rfl (by omega) (by omega) (by omega)) ?_
 refine ta 18 rfl (PV.load1X (v := (.int .u8 ((((((bs.drop (bs.length - 4))).getD 3 0).toNat : Nat) : Int)))) rfl Tryz.underlying5 rfl rfl (RdX.frm hb_b (fun _ h => h.1)) (hcs_b 3 (by omega))) ?_
 refine ta 19 rfl (PV.convI (r := (((((bs.drop (bs.length - 4))).getD 3 0).toNat : Nat) : Int)) rfl Tryz.underlying5 Tryz.underlying163 rfl (wrap_u32 (by omega) (by have := UInt8.toNat_lt (n := (bs.drop (bs.length - 4)).getD 3 0); omega))) ?_
 refine ta 20 rfl (PV.shl (r := IntKind.u32.wrap ((((((bs.drop (bs.length - 4))).getD 3 0).toNat : Nat) : Int) * 2 ^ 24)) rfl rfl rfl (by omega) rfl) ?_
 refine ta 21 rfl (PV.or (r := le32 ((bs.drop (bs.length - 4)).getD 0 0) ((bs.drop (bs.length - 4)).getD 1 0) ((bs.drop (bs.length - 4)).getD 2 0) ((bs.drop (bs.length - 4)).getD 3 0)) rfl rfl rfl rfl) ?_
 refine PD 22 ?_
 refine TD.done (by kernel_rfl) ?_
 refine TE.next J6 ?_
 refine TC.seq fun _ J7 => ?_
 refine sr fun _ J8 => ?_
 refine PS ?_
 refine TL.buildSlice (cells := #[(cutLH (.slice a bs.length c) 0 (bs.length - 4))]) (Want.plain rfl) rfl rfl rfl Tryz.underlying126 in72 rfl rfl rfl (fill_one hT.one (by simp)) (fun b43 => ?_)
 refine CQ nm92 (of_does (.slice (some ⟨b43, 0, none⟩) (1) (1)) [(bs.take (bs.length - 4))]) (fun _ s => s) (isBB_one hT 0 rfl rfl) fun vR HR hR => ?_
 obtain ⟨rfl, rfl⟩ := hR
 rw [show [(bs.take (bs.length - 4))].flatten = (bs.take (bs.length - 4)) by simp]
 refine PS ?_
 refine PS ?_
 refine TL.dec (fun h46 => ?_) (fun h46 => ?_)
 refine nx J8 ?_
 refine CY ?_
 refine sr fun _ J9 => ?_
 refine PS ?_
 refine PS ?_
 refine nx J9 ?_
 refine TC.ret ?_
 refine TE.passRet ?_
 refine WK [] ?_
 refine TE.ret2 rfl rfl rfl ?_
 exact .inl ⟨by rw [takeP, if_neg (by omega), if_neg h46], rfl, rfl⟩
 refine nx J8 ?_
 refine CN ?_
 refine CX J7 ?_
 refine sr fun _ J10 => ?_
 refine TL.buildSlice0 (Want.plain rfl) rfl rfl rfl Tryz.underlying72 sz5 (fun v47 => ?_)
 refine PS ?_
 refine TL.append (k := 0) (news := u8s ((bs.take (bs.length - 4)))) (nn' := ((bs.take (bs.length - 4)) : List UInt8).length) (xs' := u8s ((bs.take (bs.length - 4)))) (Want.plain rfl) rfl rfl rfl Tryz.underlying72 in5 rfl rfl rfl rfl rfl rfl (fun _ _ => hT.src (fun _ h => Frm.of h)) (u8s_one _) (by simp only [maxLen, List.length_nil, List.length_take]; omega) (by simp only [List.length_nil, List.length_take]; omega) (by simp) (List.nil_append _) (fun v49 ov49 => ?_)
 refine PS ?_
 refine PS ?_
 refine nx J10 ?_
 refine TC.ret ?_
 refine WK [0] ?_
 refine TE.ret2 rfl rfl rfl ?_
 exact .inr ⟨_, _, by rw [takeP, if_neg (by omega), if_pos (by simpa using h46)], rfl, rfl⟩
theorem take_does (x : Value) (bs : List UInt8) (hb : bs.length ≤ 1000000000) : Leg.Does Tryz.prog 145 #[x] (IsW x bs) [] (Ret (fun v H => (takeP bs = none ∧ v = .tuple #[.slice none 0 0, .bool false] ∧ H = []) ∨ ∃ t u, takeP bs = some t ∧ v = .tuple #[u, .bool true] ∧ H = [ownB u t 5])) := fun w G h m => by
  obtain ⟨a, c, rfl, hc, _⟩ := h.form
  exact take_form a c bs hc hb w G h m

theorem pieces_does (n : Nat) (hn : n ≤ 1000000000000) :
    Leg.Does Tryz.prog 157 #[(.int .i64 (((n : Nat) : Int)))] (fun _ => True) [] (Ret (fun v H => v = .int .i64 ((piecesN n : Nat) : Int) ∧ H = [])) := by
 refine Leg.Does.body (n := 9) Tryz.func157 rfl rfl rfl (fun w0 F hF => ?_)
 refine sr fun _ J1 => ?_
 refine PS ?_
 refine nx J1 ?_
 refine TC.seq fun _ J2 => ?_
 refine sr fun _ J3 => ?_
 refine PS ?_
 refine PS ?_
 refine TL.dec (fun h4 => ?_) (fun h4 => ?_)
 refine nx J3 ?_
 refine CY ?_
 refine sr fun _ J4 => ?_
 refine PS ?_
 refine nx J4 ?_
 refine TC.ret ?_
 refine TE.passRet ?_
 refine WK [] ?_
 refine TE.ret1 rfl rfl ?_
 obtain rfl : n = 0 := by omega
 exact ⟨rfl, rfl⟩
 refine nx J3 ?_
 refine CN ?_
 refine CX J2 ?_
 refine sr fun _ J5 => ?_
 refine PS ?_
 refine tp (PV.sub rfl rfl rfl (wrap_i64 (by omega) (by omega))) ?_
 refine tp (PV.quo (r := (((n - 1) / 52 : Nat) : Int)) rfl rfl rfl (by omega) (by rw [show (((n : Nat) : Int) - 1) = ((n - 1 : Nat) : Int) by omega]; exact quoNat (n - 1) 52 (by omega))) ?_
 refine tp (PV.add rfl rfl rfl (wrap_i64 (by omega) (by omega))) ?_
 refine PS ?_
 refine nx J5 ?_
 refine TC.ret ?_
 refine WK [] ?_
 refine TE.ret1 rfl rfl ?_
 rw [piecesN, if_neg (by omega)]
 exact ⟨by simp, rfl⟩
theorem secsN_sect {number : Int} {bs : List UInt8} {k : Nat} : secsN number bs (k + 1) = secsN number bs k ++ [putP (textP number k (piecesN bs.length) (partP bs k)) ++ [1]] := secsN_succ number bs k

theorem sectors_form (a : Option Addr) (c number : Nat) (bs : List UInt8) (hc : bs.length ≤ c) (hb : bs.length ≤ 3000) :
    Leg.Does Tryz.prog 159 #[(.int .i64 (((number : Nat) : Int))), (.slice a bs.length c)] (IsW (.slice a bs.length c) bs) [] (Ret (fun v H => H = [recsP 72 5 v (sectorsP ((number : Nat) : Int) bs)])) := by
 refine Leg.Does.body (n := 68) Tryz.func159 rfl rfl rfl (fun w0 F hF => ?_)
 refine sr fun _ J1 => ?_
 refine PS ?_
 refine nx J1 (sr fun _ J2 => ?_)
 refine PS ?_
 refine tp (PV.lenV rfl Tryz.underlying72 rfl ⟨_, _, rfl⟩) ?_
 refine CR nm157 (pieces_does bs.length (by omega)) (fun _ s => s) fun vR HR hR => ?_
 obtain ⟨rfl, rfl⟩ := hR
 refine PS ?_
 refine nx J2 (sr fun _ J3 => ?_)
 refine PS ?_
 refine nx J3 ?_
 refine TC.seq fun _ J4 => ?_
 refine sr fun _ J5 => ?_
 refine PS ?_
 refine PS ?_
 refine nx J5 ?_
 refine TC.block ?_
 refine TC.loop (α := (Nat) × (Value)) (fun ⟨k, vr⟩ => k ≤ piecesN bs.length ∧ vr.oneCell' = true) (fun ⟨k, vr⟩ => [(0, (.int .i64 (((number : Nat) : Int)))), (1, (.slice a bs.length c)), (4, (.slice none 0 0)), (5, (.int .i64 (((piecesN bs.length : Nat) : Int)))), (6, vr), (14, (.int .i64 (((piecesN bs.length : Nat) : Int)))), (15, (.int .i64 (((k : Nat) : Int))))]) (fun ⟨k, vr⟩ => [recsP 72 5 vr (secsN ((number : Nat) : Int) bs k)]) (fun ⟨k, vr⟩ => piecesN bs.length - k) (0, (.slice none 0 0))
     ⟨Nat.zero_le _, rfl⟩ (Sub.r (Sub.r (Sub.r (Sub.r (Sub.r (Sub.r (Sub.cons rfl (by congr 1) (Sub.nil _))))))))
     (fun _ s => sep_recsNil 72 5 s) (fun ⟨k, vr⟩ hinv => ?_)
 obtain ⟨hk, hvr⟩ := hinv
 refine sr fun _ J6 => ?_
 refine PS ?_
 refine TL.dec (fun h16 => ?_) (fun h16 => ?_)
 have hkn := part_le (n := bs.length) (k := k) (by omega)
 have hpe := part_eq bs k
 have hP : IsW (cutLH (.slice a bs.length c) (k * 52) (min ((k + 1) * 52) bs.length)) (partP bs k) F := by rw [← hpe]; exact hF.cut (by omega) (by omega)
 have hpl := partP_len bs k
 have hpk := piecesN_le hb
 have hP2 := hP.len
 refine nx J6 ?_
 refine TC.seq fun _ J7 => ?_
 refine CY ?_
 refine CX J7 ?_
 refine TC.seq fun _ J8 => ?_
 refine TC.block ?_
 refine sr fun _ J9 => ?_
 refine PS ?_
 refine PS ?_
 refine nx J9 (sr fun _ J10 => ?_)
 refine PS ?_
 refine PS ?_
 refine tp (PV.mul (r := ((k * 52 : Nat) : Int)) rfl rfl rfl (by rw [show ((k : Nat) : Int) * 52 = ((k * 52 : Nat) : Int) by omega]; exact wrap_i64 (by omega) (by omega))) ?_
 refine PS ?_
 refine tp (PV.add rfl rfl rfl (wrap_i64 (by omega) (by omega))) ?_
 refine tp (PV.mul (r := (((k + 1) * 52 : Nat) : Int)) rfl rfl rfl (by rw [show (((k : Nat) : Int) + 1) * 52 = (((k + 1) * 52 : Nat) : Int) by omega]; exact wrap_i64 (by omega) (by omega))) ?_
 refine PS ?_
 refine tp (PV.lenV rfl Tryz.underlying72 rfl ⟨_, _, rfl⟩) ?_
 refine tp (PV.minI rfl rfl rfl) ?_
 refine tp (PV.sliceLH (lo := k * 52) (hi := min ((k + 1) * 52) bs.length) rfl Tryz.underlying72 sz5 rfl rfl rfl rfl (by omega) (by omega) (by omega)) ?_
 refine PS ?_
 refine nx J10 (sr fun _ J11 => ?_)
 refine TL.makeB (59) (59) (Want.plain rfl) rfl rfl rfl Tryz.underlying72 in5 rfl rfl rfl rfl (by omega) (by omega) (fun b28 => ?_)
 refine PS ?_
 refine nx J11 ?_
 refine TC.seq fun _ J12 => ?_
 refine sr fun _ J13 => ?_
 refine PS ?_
 refine nx J13 ?_
 refine TC.block ?_
 refine TC.unroll 5 ?_
 refine sr fun _ J14 => ?_
 refine PS ?_
 refine nx J14 ?_
 refine TC.seq fun _ J15 => ?_
 refine CY ?_
 refine CX J15 ?_
 refine TC.seq fun _ J16 => ?_
 refine TC.block ?_
 refine sr fun _ J17 => ?_
 refine PS ?_
 refine PS ?_
 refine nx J17 ?_
 refine TC.region ?_
 refine PS ?_
 refine PS ?_
 refine PS ?_
 refine PS ?_
 refine tp (PV.sub (r := 3) rfl rfl rfl (by decide)) ?_
 refine tp (PV.mul (r := 24) rfl rfl rfl (by decide)) ?_
 refine tp (PV.shr (r := ((number : Nat) : Int).fdiv 16777216) rfl rfl rfl (by omega) rfl) ?_
 refine tp (PV.convI (r := (((r8 (((number : Nat) : Int).fdiv 16777216)).toNat : Nat) : Int)) rfl Tryz.underlying3 Tryz.underlying5 rfl (r8_wrap _)) ?_
 refine tp (PV.indexSl (r := 0) rfl Tryz.underlying72 sz5 rfl rfl (by first | omega | decide) (by first | omega | decide) rfl) ?_
 refine S0 0 sz5 ?_
 refine TL.nil ?_
 refine TE.blockEnd ?_
 refine TE.next J16 ?_
 refine TC.region ?_
 refine tp (PV.add (r := 1) rfl rfl rfl (by decide)) ?_
 refine PS ?_
 refine TL.nil ?_
 refine TE.again ?_
 refine sr fun _ J18 => ?_
 refine PS ?_
 refine nx J18 ?_
 refine TC.seq fun _ J19 => ?_
 refine CY ?_
 refine CX J19 ?_
 refine TC.seq fun _ J20 => ?_
 refine TC.block ?_
 refine sr fun _ J21 => ?_
 refine PS ?_
 refine PS ?_
 refine nx J21 ?_
 refine TC.region ?_
 refine PS ?_
 refine PS ?_
 refine PS ?_
 refine PS ?_
 refine tp (PV.sub (r := 2) rfl rfl rfl (by decide)) ?_
 refine tp (PV.mul (r := 16) rfl rfl rfl (by decide)) ?_
 refine tp (PV.shr (r := ((number : Nat) : Int).fdiv 65536) rfl rfl rfl (by omega) rfl) ?_
 refine tp (PV.convI (r := (((r8 (((number : Nat) : Int).fdiv 65536)).toNat : Nat) : Int)) rfl Tryz.underlying3 Tryz.underlying5 rfl (r8_wrap _)) ?_
 refine tp (PV.indexSl (r := 1) rfl Tryz.underlying72 sz5 rfl rfl (by first | omega | decide) (by first | omega | decide) rfl) ?_
 refine S0 0 sz5 ?_
 refine TL.nil ?_
 refine TE.blockEnd ?_
 refine TE.next J20 ?_
 refine TC.region ?_
 refine tp (PV.add (r := 2) rfl rfl rfl (by decide)) ?_
 refine PS ?_
 refine TL.nil ?_
 refine TE.again ?_
 refine sr fun _ J22 => ?_
 refine PS ?_
 refine nx J22 ?_
 refine TC.seq fun _ J23 => ?_
 refine CY ?_
 refine CX J23 ?_
 refine TC.seq fun _ J24 => ?_
 refine TC.block ?_
 refine sr fun _ J25 => ?_
 refine PS ?_
 refine PS ?_
 refine nx J25 ?_
 refine TC.region ?_
 refine PS ?_
 refine PS ?_
 refine PS ?_
 refine PS ?_
 refine tp (PV.sub (r := 1) rfl rfl rfl (by decide)) ?_
 refine tp (PV.mul (r := 8) rfl rfl rfl (by decide)) ?_
 refine tp (PV.shr (r := ((number : Nat) : Int).fdiv 256) rfl rfl rfl (by omega) rfl) ?_
 refine tp (PV.convI (r := (((r8 (((number : Nat) : Int).fdiv 256)).toNat : Nat) : Int)) rfl Tryz.underlying3 Tryz.underlying5 rfl (r8_wrap _)) ?_
 refine tp (PV.indexSl (r := 2) rfl Tryz.underlying72 sz5 rfl rfl (by first | omega | decide) (by first | omega | decide) rfl) ?_
 refine S0 0 sz5 ?_
 refine TL.nil ?_
 refine TE.blockEnd ?_
 refine TE.next J24 ?_
 refine TC.region ?_
 refine tp (PV.add (r := 3) rfl rfl rfl (by decide)) ?_
 refine PS ?_
 refine TL.nil ?_
 refine TE.again ?_
 refine sr fun _ J26 => ?_
 refine PS ?_
 refine nx J26 ?_
 refine TC.seq fun _ J27 => ?_
 refine CY ?_
 refine CX J27 ?_
 refine TC.seq fun _ J28 => ?_
 refine TC.block ?_
 refine sr fun _ J29 => ?_
 refine PS ?_
 refine PS ?_
 refine nx J29 ?_
 refine TC.region ?_
 refine PS ?_
 refine PS ?_
 refine PS ?_
 refine PS ?_
 refine tp (PV.sub (r := 0) rfl rfl rfl (by decide)) ?_
 refine tp (PV.mul (r := 0) rfl rfl rfl (by decide)) ?_
 refine tp (PV.shr (r := ((number : Nat) : Int)) rfl rfl rfl (by omega) (Int.fdiv_one _)) ?_
 refine tp (PV.convI (r := (((r8 (((number : Nat) : Int))).toNat : Nat) : Int)) rfl Tryz.underlying3 Tryz.underlying5 rfl (r8_wrap _)) ?_
 refine tp (PV.indexSl (r := 3) rfl Tryz.underlying72 sz5 rfl rfl (by first | omega | decide) (by first | omega | decide) rfl) ?_
 refine S0 0 sz5 ?_
 refine TL.nil ?_
 refine TE.blockEnd ?_
 refine TE.next J28 ?_
 refine TC.region ?_
 refine tp (PV.add (r := 4) rfl rfl rfl (by decide)) ?_
 refine PS ?_
 refine TL.nil ?_
 refine TE.again ?_
 refine sr fun _ J30 => ?_
 refine PS ?_
 refine nx J30 ?_
 refine TC.seq fun _ J31 => ?_
 refine CN ?_
 refine TC.exit ?_
 refine TE.pass ?_
 refine TE.pass ?_
 refine TE.hit ?_
 refine TE.next J12 ?_
 refine sr fun _ J32 => ?_
 refine PS ?_
 refine PS ?_
 refine PS ?_
 refine PS ?_
 refine tp (PV.convI (r := (((r8 (((k : Nat) : Int))).toNat : Nat) : Int)) rfl Tryz.underlying3 Tryz.underlying5 rfl (r8_wrap _)) ?_
 refine PS ?_
 refine tp (PV.convI (r := (((r8 (((piecesN bs.length : Nat) : Int))).toNat : Nat) : Int)) rfl Tryz.underlying3 Tryz.underlying5 rfl (r8_wrap _)) ?_
 refine PS ?_
 refine tp (PV.lenV rfl Tryz.underlying72 rfl hP2) ?_
 refine tp (PV.convI (r := (((r8 ((((partP bs k).length : Nat) : Int))).toNat : Nat) : Int)) rfl Tryz.underlying3 Tryz.underlying5 rfl (r8_wrap _)) ?_
 refine tp (PV.indexSl (r := 4) rfl Tryz.underlying72 sz5 rfl rfl (by first | omega | decide) (by first | omega | decide) rfl) ?_
 refine S0 0 sz5 ?_
 refine tp (PV.indexSl (r := 5) rfl Tryz.underlying72 sz5 rfl rfl (by first | omega | decide) (by first | omega | decide) rfl) ?_
 refine S0 0 sz5 ?_
 refine tp (PV.indexSl (r := 6) rfl Tryz.underlying72 sz5 rfl rfl (by first | omega | decide) (by first | omega | decide) rfl) ?_
 refine S0 0 sz5 ?_
 refine nx J32 (sr fun _ J33 => ?_)
 refine PS ?_
 refine tp (PV.sliceLo (k := 7) (v := (.slice (some ⟨b28, 7, none⟩) (52) (52))) rfl Tryz.underlying72 sz5 rfl rfl rfl (by decide) rfl) ?_
 refine PS ?_
 refine TL.copy (i := 0) (m := (partP bs k).length) (news := (u8s (partP bs k))) (H' := [blkA b28 (u8s (textP ((number : Nat) : Int) k (piecesN bs.length) (partP bs k))) 5, recsP 72 5 vr (secsN ((number : Nat) : Int) bs k)]) (Want.plain rfl) rfl rfl rfl Tryz.underlying72 sz5 rfl rfl rfl rfl (fun _ _ => hP.src (fun _ h => Frm.of h)) (u8s_one _) (by show 7 + min (partP bs k).length 52 ≤ 59; omega) (text_copy (number := ((number : Nat) : Int)) (place := k) (all := piecesN bs.length) hpl) rfl ?_
 refine nx J33 ?_
 refine TC.region ?_
 refine PS ?_
 refine PS ?_
 refine CQ nm60 (sumPut_does (.slice (some ⟨b28, 0, none⟩) (59) (59)) (textP ((number : Nat) : Int) k (piecesN bs.length) (partP bs k)) (by rw [textP_len hpl]; decide)) (fun _ s => s) (fun g d s => IsB.w (isB_blkN 0 59 (textP_len hpl) (by decide) rfl rfl g d s)) fun vR HR hR => ?_
 subst hR
 refine TL.buildSlice (cells := #[(.int .u8 1)]) (Want.plain rfl) rfl rfl rfl Tryz.underlying72 in5 rfl rfl rfl (by as_aux_lemma => kernel_rfl) (fun b62 => ?_)
 refine TL.append (k := 1) (news := u8s ([1])) (nn' := (putP (textP ((number : Nat) : Int) k (piecesN bs.length) (partP bs k)) ++ [1] : List UInt8).length) (xs' := u8s (putP (textP ((number : Nat) : Int) k (piecesN bs.length) (partP bs k)) ++ [1])) (Want.plain rfl) rfl rfl rfl Tryz.underlying72 in5 rfl rfl rfl rfl rfl rfl (fun _ _ => Src.rd rfl (RO 0) rfl) (u8s_one [1]) (by rw [putP_len, textP_len hpl]; simp only [maxLen]; omega) (by rw [putP_len, textP_len hpl]; omega) (by simp) (u8s_append _ _).symm (fun v63 ov63 => ?_)
 refine TL.buildSlice (cells := #[v63]) (Want.plain rfl) rfl rfl rfl Tryz.underlying126 in72 rfl rfl rfl (fill_one ov63 (by simp)) (fun b64 => ?_)
 change TL _ _ _ _ _ _ _ _ _ [blkA b64 [v63] 72, blkA b62 [(.int .u8 1)] 5, ownB v63 (putP (textP ((number : Nat) : Int) k (piecesN bs.length) (partP bs k)) ++ [1]) 5, blkA b28 (u8s (textP ((number : Nat) : Int) k (piecesN bs.length) (partP bs k))) 5, recsP 72 5 vr (secsN ((number : Nat) : Int) bs k)]
 refine TL.mono (fun _ s => sep_selR [4] rfl s) ?_
 refine TL.recsOpen (fun us65 => ?_)
 refine TL.append (k := 0) (m := 1) (news := [v63]) (nn' := (secsN ((number : Nat) : Int) bs k).length + 1) (xs' := us65 ++ [v63]) (Want.plain rfl) rfl rfl rfl Tryz.underlying126 in72 rfl rfl rfl rfl rfl rfl (fun _ _ => Src.rd rfl (RO 2) rfl) (List.forall_mem_cons.2 ⟨ov63, fun _ h => by cases h⟩) (by rw [secsN_len]; simp only [maxLen]; omega) (by rw [secsN_len]; omega) rfl rfl (fun v65 ov65 => ?_)
 change TL _ _ _ _ _ _ _ _ _ [own v65 ((secsN ((number : Nat) : Int) bs k).length + 1) (us65 ++ [v63]) 72 1, bunch us65 (secsN ((number : Nat) : Int) bs k) 5, blkA b64 [v63] 72, blkA b62 [(.int .u8 1)] 5, ownB v63 (putP (textP ((number : Nat) : Int) k (piecesN bs.length) (partP bs k)) ++ [1]) 5, blkA b28 (u8s (textP ((number : Nat) : Int) k (piecesN bs.length) (partP bs k))) 5]
 refine TL.mono (fun _ s => sep_sub 4 rfl rfl s) ?_
 refine TL.mono (H' := [own v65 ((secsN ((number : Nat) : Int) bs k).length + 1) (us65 ++ [v63]) 72 1, bunch us65 (secsN ((number : Nat) : Int) bs k) 5, subB v63 (putP (textP ((number : Nat) : Int) k (piecesN bs.length) (partP bs k)) ++ [1]) 5, blkA b64 [v63] 72, blkA b62 [(.int .u8 1)] 5, blkA b28 (u8s (textP ((number : Nat) : Int) k (piecesN bs.length) (partP bs k))) 5]) (fun _ s => sep_selR [0, 0, 2] rfl s) ?_
 refine TL.mono (fun _ s => sep_recsAdd s) ?_
 rw [← secsN_sect]
 refine PS ?_
 refine TL.nil ?_
 refine TE.blockEnd ?_
 refine TE.next J8 ?_
 refine TC.region ?_
 refine tp (PV.add rfl rfl rfl (wrap_i64 (by omega) (by omega))) ?_
 refine PS ?_
 refine TL.nil ?_
 exact TE.round ((k + 1, v65) : (Nat) × (Value)) ⟨by omega, ov65⟩ (by show piecesN bs.length - (k + 1) < piecesN bs.length - k; omega)
   (Sub.r (Sub.r (Sub.r (Sub.r (Sub.r (Sub.r (Sub.cons rfl (by simp) (Sub.nil _))))))))
   (fun _ s => sep_keep [0] rfl s)
 refine nx J6 ?_
 refine TC.seq fun _ J34 => ?_
 refine CN ?_
 refine TC.exit ?_
 refine TE.pass ?_
 refine TE.pass ?_
 refine TE.hit ?_
 refine TE.next J4 ?_
 refine sr fun _ J35 => ?_
 refine PS ?_
 refine PS ?_
 refine nx J35 ?_
 refine TC.ret ?_
 refine WK [0] ?_
 refine TE.ret1 rfl rfl ?_
 obtain rfl : k = piecesN bs.length := by omega
 exact rfl
theorem sectors_does (x : Value) (number : Nat) (bs : List UInt8) (hb : bs.length ≤ 3000) : Leg.Does Tryz.prog 159 #[.int .i64 ((number : Nat) : Int), x] (IsW x bs) [] (Ret (fun v H => H = [recsP 72 5 v (sectorsP ((number : Nat) : Int) bs)])) := fun w G h m => by
  obtain ⟨a, c, rfl, hc, _⟩ := h.form
  exact sectors_form a c number bs hc hb w G h m

theorem piece_does (s : Sec) (number place : Int) (hs : s.length = 64) :
    Leg.Does Tryz.prog 127 #[(.agg (u8s s).toArray), (.int .i64 (number)), (.int .i64 (place))] (fun _ => True) [] (Ret (fun v H => (pieceP s number place = none ∧ v = .tuple #[.slice none 0 0, .int .i64 0, .bool false] ∧ H = []) ∨ ∃ b all u, pieceP s number place = some (b, all) ∧ v = .tuple #[u, .int .i64 all, .bool true] ∧ H = [subB u b 5])) := by
 refine Leg.Does.body (n := 74) Tryz.func127 rfl rfl rfl (fun w0 F hF => ?_)
 refine sr fun _ J1 => ?_
 refine TL.box (Want.plain rfl) rfl rfl rfl rfl (fun b3 => ?_)
 change TL _ _ _ _ _ _ _ _ _ [blkA b3 (u8s s) 109]
 refine PS ?_
 refine PS ?_
 refine PS ?_
 refine nx J1 (sr fun _ J2 => ?_)
 refine tp (PV.sliceArrHi (k := 63) rfl Tryz.underlying109 sz5 rfl rfl (by omega) (by omega) rfl) ?_
 refine CQ nm145 (take_does (.slice (some ⟨b3, 0, none⟩) (63) (64)) (s.take 63) (by rw [List.length_take]; omega)) (fun _ s => s) (fun g d s' => IsB.w (isB_piece 0 63 (by omega) (by omega) (by decide) (by rw [List.take_of_length_le (by rw [u8s_length]; omega)]) hs.symm rfl rfl g d s')) fun vR HR hR => ?_
 rcases hR with ⟨ht, rfl, rfl⟩ | ⟨t, u, ht, rfl, rfl⟩
 refine PS ?_
 refine tp (PV.extract (vs := [(.slice none 0 0), (.bool false)]) rfl rfl rfl) ?_
 refine tp (PV.extract (vs := [(.slice none 0 0), (.bool false)]) rfl rfl rfl) ?_
 refine PS ?_
 refine PS ?_
 refine nx J2 ?_
 refine TC.seq fun _ J3 => ?_
 refine sr fun _ J4 => ?_
 refine PS ?_
 refine tp (PV.not (r := true) rfl rfl rfl) ?_
 refine PS ?_
 refine UT ?_
 refine UT ?_
 refine UT ?_
 refine PS ?_
 refine nx J4 ?_
 refine CY ?_
 refine sr fun _ J5 => ?_
 refine PS ?_
 refine PS ?_
 refine PS ?_
 refine nx J5 ?_
 refine TC.ret ?_
 refine TE.passRet ?_
 refine WK [] ?_
 refine TE.ret3 rfl rfl rfl rfl ?_
 exact .inl ⟨pieceP_none1 ht, rfl, rfl⟩
 have htl := takeP_len ht
 rw [List.length_take] at htl
 have ht59 : t.length = 59 := by omega
 refine TL.ownAt 0 rfl rfl (by omega) (fun g cap hv hcap => ?_)
 refine PS ?_
 refine tp (PV.extract (vs := [u, (.bool true)]) rfl rfl rfl) ?_
 refine tp (PV.extract (vs := [u, (.bool true)]) rfl rfl rfl) ?_
 refine PS ?_
 refine PS ?_
 refine nx J2 ?_
 refine TC.seq fun _ J6 => ?_
 refine sr fun _ J7 => ?_
 refine PS ?_
 refine tp (PV.not (r := false) rfl rfl rfl) ?_
 refine PS ?_
 refine tq (PV.indexArr (r := 63) rfl Tryz.underlying109 sz5 rfl rfl (lz rfl) (lz rfl) rfl) ?_
 refine tq (PV.load1 (v := (.int .u8 ((((s.getD 63 0).toNat : Nat) : Int)))) rfl Tryz.underlying5 rfl rfl (RO 1) (u8s_at (by omega))) ?_
 refine PS ?_
 refine TL.dec (fun h26 => ?_) (fun h26 => ?_)
 refine PS ?_
 refine nx J7 ?_
 refine CY ?_
 refine sr fun _ J8 => ?_
 refine PS ?_
 refine PS ?_
 refine PS ?_
 refine nx J8 ?_
 refine TC.ret ?_
 refine TE.passRet ?_
 refine WK [] ?_
 refine TE.ret3 rfl rfl rfl rfl ?_
 exact .inl ⟨pieceP_end (fun h => h26 (by rw [h]; rfl)), rfl, rfl⟩
 refine PS ?_
 refine nx J7 ?_
 refine CN ?_
 refine CX J6 ?_
 refine sr fun _ J9 => ?_
 refine PS ?_
 refine nx J9 ?_
 refine TC.seq fun _ J10 => ?_
 refine sr fun _ J11 => ?_
 refine PS ?_
 refine tp (PV.to (PV.sliceH (a := some ⟨g, 0, none⟩) (len := t.length) (cap := cap) (hi := 4) rfl Tryz.underlying72 sz5 (by rw [← hv]; rfl) rfl rfl (by omega)) (cutLH_0 (by omega))) ?_
 refine tp (PV.lenSl rfl Tryz.underlying72 rfl) ?_
 refine PS ?_
 refine nx J11 ?_
 refine TC.block ?_
 refine TC.loop (α := (Nat)) (fun k => k ≤ 4) (fun k => [(1, (.int .i64 (number))), (2, (.int .i64 (place))), (6, (.slice none 0 0)), (7, (.int .i64 0)), (8, (.bool false)), (9, u), (11, (.int .i64 (beI (t.take k)))), (29, (.slice (some ⟨g, 0, none⟩) (4) (cap))), (30, (.int .i64 4)), (31, (.int .i64 (((k : Nat) : Int))))]) (fun k => [ownB u (t) 5, blkA b3 (u8s s) 109]) (fun k => 4 - k) 0
     (Nat.zero_le _) (Sub.r (Sub.r (Sub.r (Sub.r (Sub.r (Sub.r (Sub.cons rfl (by congr 1) (Sub.r (Sub.r (Sub.cons rfl (by congr 1) (Sub.nil _)))))))))))
     (fun _ s => s) (fun k hinv => ?_)
 obtain hk := hinv
 refine sr fun _ J12 => ?_
 refine PS ?_
 refine TL.dec (fun h32 => ?_) (fun h32 => ?_)
 refine nx J12 ?_
 refine TC.seq fun _ J13 => ?_
 refine CY ?_
 refine CX J13 ?_
 refine TC.seq fun _ J14 => ?_
 refine TC.block ?_
 refine sr fun _ J15 => ?_
 refine tp (PV.indexSl (r := k) rfl Tryz.underlying72 sz5 rfl rfl (by first | omega | decide) (by first | omega | decide) (by omega)) ?_
 refine tp (PV.load1X (v := (.int .u8 ((((t.getD k 0).toNat : Nat) : Int)))) rfl Tryz.underlying5 rfl rfl (RdX.own 0 rfl hv rfl) (u8s_at (by omega))) ?_
 refine PS ?_
 refine nx J15 ?_
 refine TC.region ?_
 refine PS ?_
 refine tp (PV.shl (r := IntKind.i64.wrap ((beI (t.take k)) * 2 ^ 8)) rfl rfl rfl (by omega) rfl) ?_
 refine PS ?_
 refine tp (PV.convI (r := (((t.getD k 0).toNat : Nat) : Int)) rfl Tryz.underlying5 Tryz.underlying3 rfl (wrap_i64 (by omega) (by have := UInt8.toNat_lt (n := t.getD k 0); omega))) ?_
 refine tp (PV.or (r := orI .i64 (IntKind.i64.wrap ((beI (t.take k)) * 2 ^ 8)) (((t.getD k 0).toNat : Nat) : Int)) rfl rfl rfl rfl) ?_
 refine PS ?_
 refine TL.nil ?_
 refine TE.blockEnd ?_
 refine TE.next J14 ?_
 refine TC.region ?_
 refine tp (PV.add rfl rfl rfl (wrap_i64 (by omega) (by omega))) ?_
 refine PS ?_
 refine TL.nil ?_
 exact TE.round ((k + 1) : (Nat)) (by omega) (by show 4 - (k + 1) < 4 - k; omega)
   (Sub.r (Sub.r (Sub.r (Sub.r (Sub.r (Sub.r (Sub.cons rfl (congrArg (Value.int .i64) (beI_take (by omega)).symm) (Sub.r (Sub.r (Sub.cons rfl (by simp) (Sub.nil _)))))))))))
   (fun _ s => s)
 refine nx J12 ?_
 refine TC.seq fun _ J16 => ?_
 refine CN ?_
 refine TC.exit ?_
 refine TE.pass ?_
 refine TE.pass ?_
 refine TE.hit ?_
 refine TE.next J10 ?_
 refine TC.seq fun _ J17 => ?_
 refine TC.draw (fun w => Frm F w ∧ Hx g (u8s (t)) w ∧ True) mixedD rfl (fun _ s => ⟨Frm.of s, RdX.own 0 rfl hv rfl _ s, trivial⟩) ?_
 refine PD 0 ?_
 refine ta 1 rfl (PV.indexSlV (r := 5) hv rfl Tryz.underlying72 sz5 rfl rfl (by omega) (by omega) rfl) ?_
 refine ta 2 rfl (PV.load1X (v := (.int .u8 ((((t.getD 5 0).toNat : Nat) : Int)))) rfl Tryz.underlying5 rfl rfl (fun _ h => h.2.1) (u8s_at (by omega))) ?_
 refine ta 3 rfl (PV.convI (r := (((t.getD 5 0).toNat : Nat) : Int)) rfl Tryz.underlying5 Tryz.underlying3 rfl (wrap_i64 (by omega) (by have := UInt8.toNat_lt (n := t.getD 5 0); omega))) ?_
 refine PD 4 ?_
 refine ta 5 rfl (PV.indexSlV (r := 6) hv rfl Tryz.underlying72 sz5 rfl rfl (by omega) (by omega) rfl) ?_
 refine ta 6 rfl (PV.load1X (v := (.int .u8 ((((t.getD 6 0).toNat : Nat) : Int)))) rfl Tryz.underlying5 rfl rfl (fun _ h => h.2.1) (u8s_at (by omega))) ?_
 refine ta 7 rfl (PV.convI (r := (((t.getD 6 0).toNat : Nat) : Int)) rfl Tryz.underlying5 Tryz.underlying3 rfl (wrap_i64 (by omega) (by have := UInt8.toNat_lt (n := t.getD 6 0); omega))) ?_
 refine PD 8 ?_
 refine PD 9 ?_
 refine TD.done (by kernel_rfl) ?_
 refine TE.next J17 ?_
 refine TC.seq fun _ J18 => ?_
 refine sr fun _ J19 => ?_
 refine PS ?_
 refine PS ?_
 refine PS ?_
 refine TL.dec (fun h51 => ?_) (fun h51 => ?_)
 refine PS ?_
 refine UT ?_
 refine UT ?_
 refine UT ?_
 refine UT ?_
 refine UT ?_
 refine UT ?_
 refine PS ?_
 refine PS ?_
 refine UT ?_
 refine UT ?_
 refine UT ?_
 refine PS ?_
 refine PS ?_
 refine UT ?_
 refine UT ?_
 refine PS ?_
 refine nx J19 ?_
 refine CY ?_
 refine sr fun _ J20 => ?_
 refine PS ?_
 refine PS ?_
 refine PS ?_
 refine nx J20 ?_
 refine TC.ret ?_
 refine TE.passRet ?_
 refine WK [] ?_
 refine TE.ret3 rfl rfl rfl rfl ?_
 exact .inl ⟨pieceP_none2 ht (.inl (by have : k = 4 := (by omega); subst this; exact h51)), rfl, rfl⟩
 refine PS ?_
 refine PS ?_
 refine tq (PV.indexSlV (r := 4) hv rfl Tryz.underlying72 sz5 rfl rfl (by omega) (by omega) rfl) ?_
 refine tq (PV.load1X (v := (.int .u8 ((((t.getD 4 0).toNat : Nat) : Int)))) rfl Tryz.underlying5 rfl rfl (RdX.own 0 rfl hv rfl) (u8s_at (by omega))) ?_
 refine tq (PV.convI (r := (((t.getD 4 0).toNat : Nat) : Int)) rfl Tryz.underlying5 Tryz.underlying3 rfl (wrap_i64 (by omega) (by have := UInt8.toNat_lt (n := t.getD 4 0); omega))) ?_
 refine PS ?_
 refine PS ?_
 refine TL.dec (fun h58 => ?_) (fun h58 => ?_)
 refine PS ?_
 refine PS ?_
 refine UT ?_
 refine UT ?_
 refine UT ?_
 refine PS ?_
 refine PS ?_
 refine UT ?_
 refine UT ?_
 refine PS ?_
 refine nx J19 ?_
 refine CY ?_
 refine sr fun _ J21 => ?_
 refine PS ?_
 refine PS ?_
 refine PS ?_
 refine nx J21 ?_
 refine TC.ret ?_
 refine TE.passRet ?_
 refine WK [] ?_
 refine TE.ret3 rfl rfl rfl rfl ?_
 exact .inl ⟨pieceP_none2 ht (.inr (.inl h58)), rfl, rfl⟩
 refine PS ?_
 refine PS ?_
 refine PS ?_
 refine PS ?_
 refine PS ?_
 refine TL.dec (fun h63 => ?_) (fun h63 => ?_)
 refine PS ?_
 refine PS ?_
 refine UT ?_
 refine UT ?_
 refine PS ?_
 refine nx J19 ?_
 refine CY ?_
 refine sr fun _ J22 => ?_
 refine PS ?_
 refine PS ?_
 refine PS ?_
 refine nx J22 ?_
 refine TC.ret ?_
 refine TE.passRet ?_
 refine WK [] ?_
 refine TE.ret3 rfl rfl rfl rfl ?_
 exact .inl ⟨pieceP_none2 ht (.inr (.inr (.inl h63))), rfl, rfl⟩
 refine PS ?_
 refine PS ?_
 refine PS ?_
 refine PS ?_
 refine TL.dec (fun h67 => ?_) (fun h67 => ?_)
 refine PS ?_
 refine nx J19 ?_
 refine CY ?_
 refine sr fun _ J23 => ?_
 refine PS ?_
 refine PS ?_
 refine PS ?_
 refine nx J23 ?_
 refine TC.ret ?_
 refine TE.passRet ?_
 refine WK [] ?_
 refine TE.ret3 rfl rfl rfl rfl ?_
 exact .inl ⟨pieceP_none2 ht (.inr (.inr (.inr h67))), rfl, rfl⟩
 refine PS ?_
 refine nx J19 ?_
 refine CN ?_
 refine CX J18 ?_
 refine sr fun _ J24 => ?_
 refine PS ?_
 refine PS ?_
 refine tp (PV.add (r := ((7 + (t.getD 6 0).toNat : Nat) : Int)) rfl rfl rfl (by rw [show (7 : Int) + (((t.getD 6 0).toNat : Nat) : Int) = ((7 + (t.getD 6 0).toNat : Nat) : Int) by omega]; have := UInt8.toNat_lt (n := t.getD 6 0); exact wrap_i64 (by omega) (by omega))) ?_
 refine tp (PV.to (PV.sliceLH (a := some ⟨g, 0, none⟩) (len := t.length) (cap := cap) (lo := 7) (hi := 7 + (t.getD 6 0).toNat) rfl Tryz.underlying72 sz5 (by rw [← hv]; rfl) rfl rfl rfl rfl (by omega) (by omega)) (congrArg (fun q => cutLH q 7 (7 + (t.getD 6 0).toNat)) hv.symm)) ?_
 refine PS ?_
 refine PS ?_
 refine PS ?_
 refine PS ?_
 refine nx J24 ?_
 refine TC.ret ?_
 refine TE.weak (H' := [subB (cutLH u 7 (7 + (t.getD 6 0).toNat)) ((t.drop 7).take (t.getD 6 0).toNat) 5]) (Sub.refl _) (fun _ s' => sep_keep [0] rfl (sep_ownCut 0 rfl rfl hv (by omega) (by omega) (by omega) (by rw [List.drop_take, Nat.add_sub_cancel_left]) s')) ?_
 refine TE.ret3 rfl rfl rfl rfl ?_
 obtain rfl : k = 4 := by omega
 have h1 : s.getD 63 0 = 1 := UInt8.toNat_inj.1 (by have h1' : (1 : UInt8).toNat = 1 := rfl; omega)
 exact .inr ⟨_, _, _, pieceP_some ht h1 (by omega), rfl, rfl⟩
end Go.Proofs.YtobdfjdoilnfcaaGreat
end

section
namespace Wal
open Go Leg Codec Api Dsk

theorem isB_bunch (i : Nat) {us : List Value} {ls : List (List UInt8)} {e k : Nat} {B : List HP} {F : Hl} (hk : k < ls.length) (hi : Nat.blt i B.length = true) (hH : B.getD i (fun _ => True) = bunch us ls e) : ∀ g, Dj g F → sep B g → IsB (us.getD k undef) ls[k] (jn g F) := fun g d s => by
  obtain ⟨h1, h2, d', rfl, a, _⟩ := sep_get i (lb hi) s
  rw [hH] at a
  obtain ⟨hl, a⟩ := a
  obtain ⟨u, e1, k1, k2, dk, rfl, a3⟩ := bunch_at us ls e _ hl a k hk
  rw [List.getD_eq_getElem?_getD, e1]
  exact subB_isB a3 fun b o e => jn_some (jn_some (jn_some e))
theorem In.read {s ws : Secs} (h1 : In s) (h2 : In ws) (at' : Int) (h : ¬ (0 ≤ at' ∧ at' < 2048)) : ∀ k, k ≤ ws.length → readN s ws at' k = zs
  | 0, _ => by
    show sget s at' = zs
    induction s with
    | nil => rfl
    | cons p s ih =>
      obtain ⟨a, b⟩ := p
      simp only [sget]
      have hh := h1 (a, b) (by simp)
      rw [if_neg (fun e => h (by simp only at hh; omega))]
      exact ih fun q hq => h1 q (by simp [hq])
  | k + 1, hk => by
    simp only [readN]
    rw [if_neg, In.read h1 h2 at' h k (by omega)]
    intro e
    rw [wat_eq (by omega)] at e
    have hh := h2 ws[k] (List.getElem_mem _)
    exact h (by omega)
theorem DS.In.read {D : DS} (h : Wal.DS.In D) {at' : Int} (h2 : ¬ (0 ≤ at' ∧ at' < 2048)) : D.read at' = zs := Wal.In.read h.1 h.2 at' h2 _ (Nat.le_refl _)
theorem pieceP_zs (number place : Int) : pieceP zs number place = none := pieceP_end (by decide)
theorem moreP_some {rd : Int → Sec} {number at' all : Int} : ∀ (m : Nat) {b : List UInt8}, moreP rd number at' all m = some b → ∀ k, k < m → ∃ x, pieceP (rd (at' + k)) number k = some (x, all)
  | 0, _, _, k, hk => by omega
  | m + 1, b, h, k, hk => by
    simp only [moreP] at h
    split at h
    · cases h
    · rename_i b' hb
      split at h
      · cases h
      · rename_i x same hx
        split at h
        · rename_i hs
          by_cases e : k = m
          · subst e; exact ⟨x, by rw [hx, hs]⟩
          · exact moreP_some m hb k (by omega)
        · cases h
theorem standsP_facts {rd : Int → Sec} {number at' all : Int} {b : List UInt8} (hl : (rd at').length = 64) (h : standsP rd number at' = some (b, all)) : 0 < all ∧ all ≤ 255 ∧ ∀ k : Nat, (k : Int) < all → ∃ x, pieceP (rd (at' + k)) number k = some (x, all) := by
  unfold standsP at h
  split at h
  · cases h
  · rename_i x al hp
    obtain ⟨f1, f2, _⟩ := pieceP_facts hl hp
    obtain ⟨c, hc, e⟩ := Option.map_eq_some_iff.1 h
    injection e with e1 e2
    subst e1; subst e2
    exact ⟨f1, f2, fun k hk => moreP_some _ hc k (by omega)⟩
theorem standsP_room {D : DS} (hI : Wal.DS.In D) (hD : D.Ok) {number at' all : Int} {b : List UInt8} (h0 : 0 ≤ at') (h : standsP D.read number at' = some (b, all)) : at' + all ≤ 2048 := by
  obtain ⟨f1, f2, f3⟩ := standsP_facts (DS.read_len hD _) h
  obtain ⟨x, hx⟩ := f3 (all - 1).toNat (by omega)
  by_cases q : at' + all ≤ 2048
  · exact q
  · rw [DS.In.read hI (by omega), pieceP_zs] at hx; cases hx
theorem scan_stop {rd : Int → Sec} {f : Nat} {cnt used : Int} (h : standsP rd (cnt + 1) used = none) : scanP rd f cnt used = ([], used) := by
  cases f with
  | zero => rfl
  | succ f => simp only [scanP, h]
theorem scan_go {rd : Int → Sec} {f : Nat} {cnt used all : Int} {b : List UInt8} (h : standsP rd (cnt + 1) used = some (b, all)) : scanP rd (f + 1) cnt used = (b :: (scanP rd f (cnt + 1) (used + all)).1, (scanP rd f (cnt + 1) (used + all)).2) := by simp only [scanP, h]
def Scan (D : DS) (f : Nat) (rs : List (List UInt8)) (used : Int) : Prop :=
  scanP D.read fuel0 0 0 = (rs ++ (scanP D.read f rs.length used).1, (scanP D.read f rs.length used).2) ∧ 0 ≤ used ∧ used ≤ 2048 ∧ 2049 ≤ (f : Int) + used ∧ (rs.length : Int) ≤ used
theorem Scan.start (D : DS) : Scan D fuel0 [] 0 := by
  refine ⟨?_, by omega, by omega, by rw [fuel0_eq]; omega, by simp⟩
  have e : ((([] : List (List UInt8)).length : Nat) : Int) = 0 := rfl
  rw [List.nil_append, e]

theorem Scan.next {D : DS} (hI : Wal.DS.In D) (hD : D.Ok) {f : Nat} {rs : List (List UInt8)} {used all : Int} {b : List UInt8} (h : Scan D f rs used) (h2 : standsP D.read ((rs.length : Int) + 1) used = some (b, all)) : ∃ f', f = f' + 1 ∧ Scan D f' (rs ++ [b]) (used + all) := by
  obtain ⟨h1, h0, h3, h4, h5⟩ := h
  have hr := standsP_room hI hD h0 h2
  have hf := (standsP_facts (DS.read_len hD _) h2).1
  obtain ⟨f', rfl⟩ : ∃ f', f = f' + 1 := ⟨f - 1, by omega⟩
  refine ⟨f', rfl, ?_, by omega, by omega, by omega, by simp; omega⟩
  rw [h1, scan_go h2]
  simp
theorem Scan.stop {D : DS} {f : Nat} {rs : List (List UInt8)} {used : Int} (h : Scan D f rs used) (h2 : standsP D.read ((rs.length : Int) + 1) used = none) : scanP D.read fuel0 0 0 = (rs, used) := by
  rw [h.1, scan_stop h2]; simp
theorem wipe_end {D : DS} {at' : Int} (h : 2048 ≤ at') : wipeP (2048 - at').toNat at' D = (0, D) := by rw [show (2048 - at').toNat = 0 by omega]; rfl
theorem wipe_skip {D : DS} {at' : Int} (h : at' < 2048) (h2 : D.read at' = zs) : wipeP (2048 - at').toNat at' D = wipeP (2048 - (at' + 1)).toNat (at' + 1) D := by
  rw [show (2048 - at').toNat = (2048 - (at' + 1)).toNat + 1 by omega, wipeP, if_pos h2]
theorem wipe_go {D : DS} {at' : Int} (h : at' < 2048) (h2 : D.read at' ≠ zs) (h3 : (D.write at' []).1 = 0) : wipeP (2048 - at').toNat at' D = wipeP (2048 - (at' + 1)).toNat (at' + 1) (D.write at' []).2 := by
  rw [show (2048 - at').toNat = (2048 - (at' + 1)).toNat + 1 by omega, wipeP, if_neg h2, if_pos h3]
theorem wipe_fail {D : DS} {at' : Int} (h : at' < 2048) (h2 : D.read at' ≠ zs) (h3 : (D.write at' []).1 ≠ 0) : wipeP (2048 - at').toNat at' D = D.write at' [] := by
  rw [show (2048 - at').toNat = (2048 - (at' + 1)).toNat + 1 by omega, wipeP, if_neg h2, if_neg h3]
theorem open_fail1 {D D' : DS} {rs : List (List UInt8)} {used e : Int} (h : scanP D.read fuel0 0 0 = (rs, used)) (h2 : wipeP (2048 - used).toNat used D = (e, D')) (h3 : e ≠ 0) : openP D = ⟨e, [], 0, D'⟩ := by
  simp only [openP, h, h2]
  rw [if_pos h3]
theorem open_fail2 {D D' : DS} {rs : List (List UInt8)} {used : Int} (h : scanP D.read fuel0 0 0 = (rs, used)) (h2 : wipeP (2048 - used).toNat used D = (0, D')) (h3 : D'.sync.1 ≠ 0) : openP D = ⟨D'.sync.1, [], 0, D'.sync.2⟩ := by
  simp only [openP, h, h2, ne_eq, not_true_eq_false, if_false]
  rw [if_pos h3]
theorem open_ok {D D' : DS} {rs : List (List UInt8)} {used : Int} (h : scanP D.read fuel0 0 0 = (rs, used)) (h2 : wipeP (2048 - used).toNat used D = (0, D')) (h3 : D'.sync.1 = 0) : openP D = ⟨0, rs, used, D'.sync.2⟩ := by
  simp only [openP, h, h2, ne_eq, not_true_eq_false, if_false]
  rw [if_neg (by simp [h3])]
/-! ### Put -/
def writesP : List Sec → Int → DS → Int × DS
  | [], _, D => (0, D)
  | s :: ss, at', D => if (D.write at' s).1 = 0 then writesP ss (at' + 1) (D.write at' s).2 else D.write at' s
structure PutR where
  err : Int
  cnt : Nat
  used : Int
  D : DS
def putL (D : DS) (cnt : Nat) (used : Int) (bs : List UInt8) : PutR :=
  if 3000 < bs.length then ⟨2, cnt, used, D⟩
  else if (piecesN bs.length : Int) > 2048 - used then ⟨3, cnt, used, D⟩
  else
    let w := writesP (sectorsP ((cnt + 1 : Nat) : Int) bs) used D
    if w.1 ≠ 0 then ⟨w.1, cnt, used, w.2⟩ else if w.2.sync.1 ≠ 0 then ⟨w.2.sync.1, cnt, used, w.2.sync.2⟩ else ⟨0, cnt + 1, used + piecesN bs.length, w.2.sync.2⟩
theorem writes_step {ss : List Sec} {at' : Int} {D : DS} {k : Nat} (hk : k < ss.length) (h : (D.write (at' + k) ss[k]).1 = 0) : writesP (ss.drop k) (at' + k) D = writesP (ss.drop (k + 1)) (at' + (k + 1 : Nat)) (D.write (at' + k) ss[k]).2 := by
  rw [List.drop_eq_getElem_cons hk, writesP, if_pos h]
  congr 1
  omega
theorem writes_fail {ss : List Sec} {at' : Int} {D : DS} {k : Nat} (hk : k < ss.length) (h : (D.write (at' + k) ss[k]).1 ≠ 0) : writesP (ss.drop k) (at' + k) D = D.write (at' + k) ss[k] := by
  rw [List.drop_eq_getElem_cons hk, writesP, if_neg h]
section
variable {D D' : DS} {cnt : Nat} {used : Int} {bs : List UInt8}
theorem put_long (h : 3000 < bs.length) : putL D cnt used bs = ⟨2, cnt, used, D⟩ := by rw [putL, if_pos h]
theorem put_full (h : ¬ 3000 < bs.length) (h2 : (piecesN bs.length : Int) > 2048 - used) : putL D cnt used bs = ⟨3, cnt, used, D⟩ := by rw [putL, if_neg h, if_pos h2]
theorem put_fail1 {e : Int} (h : ¬ 3000 < bs.length) (h2 : ¬ (piecesN bs.length : Int) > 2048 - used) (h3 : writesP (sectorsP ((cnt + 1 : Nat) : Int) bs) used D = (e, D')) (h4 : e ≠ 0) : putL D cnt used bs = ⟨e, cnt, used, D'⟩ := by
  rw [putL, if_neg h, if_neg h2]
  simp only [h3]
  rw [if_pos h4]
theorem put_fail2 (h : ¬ 3000 < bs.length) (h2 : ¬ (piecesN bs.length : Int) > 2048 - used) (h3 : writesP (sectorsP ((cnt + 1 : Nat) : Int) bs) used D = (0, D')) (h4 : D'.sync.1 ≠ 0) : putL D cnt used bs = ⟨D'.sync.1, cnt, used, D'.sync.2⟩ := by
  rw [putL, if_neg h, if_neg h2]
  simp only [h3, ne_eq, not_true_eq_false, if_false]
  rw [if_pos h4]
theorem put_ok (h : ¬ 3000 < bs.length) (h2 : ¬ (piecesN bs.length : Int) > 2048 - used) (h3 : writesP (sectorsP ((cnt + 1 : Nat) : Int) bs) used D = (0, D')) (h4 : D'.sync.1 = 0) : putL D cnt used bs = ⟨0, cnt + 1, used + piecesN bs.length, D'.sync.2⟩ := by
  rw [putL, if_neg h, if_neg h2]
  simp only [h3, ne_eq, not_true_eq_false, if_false]
  rw [if_neg (by simp [h4])]
end
end Wal
end

section
namespace Go.Proofs.YtobdfjdoilnfcaaGreat

open Go Leg Codec Api Dsk Wal

set_option maxRecDepth 100000

abbrev lgP (lg d : Nat) (cnt used : Int) : HP := blkA lg [.pointer (some ⟨d, 0, none⟩), .int .i64 cnt, .int .i64 used] 169
abbrev rcP (v : Value) (ls : List (List UInt8)) : HP := recsP 72 5 v ls

theorem stands_does (d : Nat) (D : DS) (number at' : Int) (hD : D.Ok) (hb : D.ws.length ≤ 1000000000) (ha : 0 ≤ at' ∧ at' ≤ 1000000) :
    Leg.Does Tryz.prog 93 #[(.pointer (some ⟨d, 0, none⟩)), (.int .i64 (number)), (.int .i64 (at'))] (fun _ => True) [dk d (D)] (Ret (fun v H => (standsP D.read number at' = none ∧ v = .tuple #[.slice none 0 0, .int .i64 0, .bool false] ∧ H = [dk d D]) ∨ ∃ b all u, standsP D.read number at' = some (b, all) ∧ v = .tuple #[u, .int .i64 all, .bool true] ∧ H = [subB u b 5, dk d D])) := by
 refine Leg.Does.body (n := 56) Tryz.func93 rfl rfl rfl (fun w0 F hF => ?_)
 refine sr fun _ J1 => ?_
 refine PS ?_
 refine PS ?_
 refine PS ?_
 refine nx J1 (sr fun _ J2 => ?_)
 refine PS ?_
 refine PS ?_
 refine CR nm94 (dk_read d (D) at' hD hb) (fun _ s => s) fun vR HR hR => ?_
 obtain ⟨hv, rfl⟩ := hR
 subst hv
 refine PS ?_
 refine CR nm127 (piece_does ((D).read at') number 0 (DS.read_len hD _)) (fun _ s => s) fun vR HR hR => ?_
 rcases hR with ⟨hp, rfl, rfl⟩ | ⟨b, all, u, hp, rfl, rfl⟩
 refine PS ?_
 refine tp (PV.extract (vs := [(.slice none 0 0), (.int .i64 0), (.bool false)]) rfl rfl rfl) ?_
 refine tp (PV.extract (vs := [(.slice none 0 0), (.int .i64 0), (.bool false)]) rfl rfl rfl) ?_
 refine tp (PV.extract (vs := [(.slice none 0 0), (.int .i64 0), (.bool false)]) rfl rfl rfl) ?_
 refine PS ?_
 refine PS ?_
 refine PS ?_
 refine nx J2 ?_
 refine TC.seq fun _ J3 => ?_
 refine sr fun _ J4 => ?_
 refine PS ?_
 refine tp (PV.not (r := true) rfl rfl rfl) ?_
 refine nx J4 ?_
 refine CY ?_
 refine sr fun _ J5 => ?_
 refine PS ?_
 refine PS ?_
 refine PS ?_
 refine nx J5 ?_
 refine TC.ret ?_
 refine TE.passRet ?_
 refine WK [0] ?_
 refine TE.ret3 rfl rfl rfl rfl ?_
 exact .inl ⟨standsP_none1 hp, rfl, rfl⟩
 refine TL.subLen 0 rfl rfl (fun hul hu => ?_)
 have hpf := pieceP_facts (DS.read_len hD _) hp
 refine PS ?_
 refine tp (PV.extract (vs := [u, (.int .i64 (all)), (.bool true)]) rfl rfl rfl) ?_
 refine tp (PV.extract (vs := [u, (.int .i64 (all)), (.bool true)]) rfl rfl rfl) ?_
 refine tp (PV.extract (vs := [u, (.int .i64 (all)), (.bool true)]) rfl rfl rfl) ?_
 refine PS ?_
 refine PS ?_
 refine PS ?_
 refine nx J2 ?_
 refine TC.seq fun _ J6 => ?_
 refine sr fun _ J7 => ?_
 refine PS ?_
 refine tp (PV.not (r := false) rfl rfl rfl) ?_
 refine nx J7 ?_
 refine CN ?_
 refine CX J6 ?_
 refine TC.seq fun _ J8 => ?_
 refine sr fun _ J9 => ?_
 refine PS ?_
 refine nx J9 ?_
 refine TC.block ?_
 refine TC.loop (α := (Nat) × (List UInt8) × (Value)) (fun ⟨k, c, w⟩ => 1 ≤ k ∧ k ≤ all.toNat ∧ moreP D.read number at' all k = some c ∧ c.length ≤ k * 52 ∧ w.oneCell' = true) (fun ⟨k, c, w⟩ => [(0, (.pointer (some ⟨d, 0, none⟩))), (1, (.int .i64 (number))), (2, (.int .i64 (at'))), (9, w), (10, (.int .i64 (all))), (12, (.int .i64 (((k : Nat) : Int))))]) (fun ⟨k, c, w⟩ => [subB w (c) 5, dk d (D)]) (fun ⟨k, c, w⟩ => all.toNat - k) (1, b, u)
     ⟨Nat.le_refl _, by omega, moreP_one hp, by omega, hu⟩ (Sub.r (Sub.r (Sub.r (Sub.r (Sub.r (Sub.cons rfl (by congr 1) (Sub.nil _)))))))
     (fun _ s => s) (fun ⟨k, c, w⟩ hinv => ?_)
 obtain ⟨hk1, hk2, hk3, hk4, hw⟩ := hinv
 refine TC.seq fun _ J10 => ?_
 refine sr fun _ J11 => ?_
 refine PS ?_
 refine PS ?_
 refine PS ?_
 refine TL.dec (fun h29 => ?_) (fun h29 => ?_)
 refine nx J11 ?_
 refine CY ?_
 refine CX J10 ?_
 refine TC.seq fun _ J12 => ?_
 refine TC.block ?_
 refine sr fun _ J13 => ?_
 refine PS ?_
 refine PS ?_
 refine PS ?_
 refine tp (PV.add rfl rfl rfl (wrap_i64 (by omega) (by omega))) ?_
 refine CR nm94 (dk_read d (D) (at' + ((k : Nat) : Int)) hD hb) (SM [1]) fun vR HR hR => ?_
 obtain ⟨hv, rfl⟩ := hR
 subst hv
 refine PS ?_
 refine PS ?_
 refine CR nm127 (piece_does ((D).read (at' + ((k : Nat) : Int))) number ((k : Nat) : Int) (DS.read_len hD _)) (fun _ s => s) fun vR HR hR => ?_
 rcases hR with ⟨hp2, rfl, rfl⟩ | ⟨b2, all2, u2, hp2, rfl, rfl⟩
 refine PS ?_
 refine tp (PV.extract (vs := [(.slice none 0 0), (.int .i64 0), (.bool false)]) rfl rfl rfl) ?_
 refine tp (PV.extract (vs := [(.slice none 0 0), (.int .i64 0), (.bool false)]) rfl rfl rfl) ?_
 refine tp (PV.extract (vs := [(.slice none 0 0), (.int .i64 0), (.bool false)]) rfl rfl rfl) ?_
 refine PS ?_
 refine PS ?_
 refine PS ?_
 refine nx J13 ?_
 refine TC.seq fun _ J14 => ?_
 refine sr fun _ J15 => ?_
 refine PS ?_
 refine tp (PV.not (r := true) rfl rfl rfl) ?_
 refine PS ?_
 refine UT ?_
 refine UT ?_
 refine UT ?_
 refine PS ?_
 refine nx J15 ?_
 refine CY ?_
 refine sr fun _ J16 => ?_
 refine PS ?_
 refine PS ?_
 refine PS ?_
 refine nx J16 ?_
 refine TC.ret ?_
 refine TE.passRet ?_
 refine TE.blockRet ?_
 refine TE.passRet ?_
 refine TE.passRet ?_
 refine TE.blockRet ?_
 refine TE.passRet ?_
 refine WK [0] ?_
 refine TE.ret3 rfl rfl rfl rfl ?_
 exact .inl ⟨standsP_none2 hp (moreP_stop (.inl hp2) _ (by omega)), rfl, rfl⟩
 refine TL.subLen 0 rfl rfl (fun hul2 hu2 => ?_)
 have hpf2 := pieceP_facts (DS.read_len hD _) hp2
 refine PS ?_
 refine tp (PV.extract (vs := [u2, (.int .i64 (all2)), (.bool true)]) rfl rfl rfl) ?_
 refine tp (PV.extract (vs := [u2, (.int .i64 (all2)), (.bool true)]) rfl rfl rfl) ?_
 refine tp (PV.extract (vs := [u2, (.int .i64 (all2)), (.bool true)]) rfl rfl rfl) ?_
 refine PS ?_
 refine PS ?_
 refine PS ?_
 refine nx J13 ?_
 refine TC.seq fun _ J17 => ?_
 refine sr fun _ J18 => ?_
 refine PS ?_
 refine tp (PV.not (r := false) rfl rfl rfl) ?_
 refine PS ?_
 refine PS ?_
 refine PS ?_
 refine PS ?_
 refine TL.dec (fun h49 => ?_) (fun h49 => ?_)
 refine PS ?_
 refine nx J18 ?_
 refine CY ?_
 refine sr fun _ J19 => ?_
 refine PS ?_
 refine PS ?_
 refine PS ?_
 refine nx J19 ?_
 refine TC.ret ?_
 refine TE.passRet ?_
 refine TE.blockRet ?_
 refine TE.passRet ?_
 refine TE.passRet ?_
 refine TE.blockRet ?_
 refine TE.passRet ?_
 refine WK [1] ?_
 refine TE.ret3 rfl rfl rfl rfl ?_
 exact .inl ⟨standsP_none2 hp (moreP_stop (.inr ⟨b2, all2, hp2, h49⟩) _ (by omega)), rfl, rfl⟩
 refine PS ?_
 refine nx J18 ?_
 refine CN ?_
 refine CX J17 ?_
 refine TC.region ?_
 refine PS ?_
 refine PS ?_
 refine TL.appendS (k := 2) (news := b2) (bs' := c ++ b2) (Want.plain rfl) rfl rfl rfl Tryz.underlying72 in5 rfl rfl rfl rfl (fun _ s => Src.sub 0 rfl rfl s) (by omega) rfl (fun v53 ov53 => ?_)
 refine PS ?_
 refine TL.nil ?_
 refine TE.blockEnd ?_
 refine TE.next J12 ?_
 refine TC.region ?_
 refine PS ?_
 refine tp (PV.add rfl rfl rfl (wrap_i64 (by omega) (by omega))) ?_
 refine PS ?_
 refine TL.nil ?_
 exact TE.round ((k + 1, c ++ b2, v53) : (Nat) × (List UInt8) × (Value)) ⟨by omega, by omega, moreP_go hk3 (by rw [hp2, show all2 = all by omega]), by rw [List.length_append]; omega, ov53⟩ (by show all.toNat - (k + 1) < all.toNat - k; omega)
   (Sub.r (Sub.r (Sub.r (Sub.r (Sub.r (Sub.cons rfl (by simp) (Sub.nil _)))))))
   (fun _ s => sep_keep [2, 1] rfl s)
 refine nx J11 ?_
 refine CN ?_
 refine TC.exit ?_
 refine TE.pass ?_
 refine TE.pass ?_
 refine TE.hit ?_
 refine TE.next J8 ?_
 refine sr fun _ J20 => ?_
 refine PS ?_
 refine PS ?_
 refine PS ?_
 refine PS ?_
 refine PS ?_
 refine nx J20 ?_
 refine TC.ret ?_
 refine WK [0, 0] ?_
 refine TE.ret3 rfl rfl rfl rfl ?_
 exact .inr ⟨c, all, w, standsP_some hp (by rw [show all.toNat = k by omega]; exact hk3), rfl, rfl⟩
theorem room_does (lg d : Nat) (cnt used : Int) (h : 0 ≤ used ∧ used ≤ 2048) :
    Leg.Does Tryz.prog 158 #[(.pointer (some ⟨lg, 0, none⟩))] (fun _ => True) [blkA lg [(.pointer (some ⟨d, 0, none⟩)), (.int .i64 (cnt)), (.int .i64 (used))] 169] (Ret (fun v H => v = .int .i64 (2048 - used) ∧ H = [lgP lg d cnt used])) := by
 refine Leg.Does.body (n := 8) Tryz.func158 rfl rfl rfl (fun w0 F hF => ?_)
 refine sr fun _ J1 => ?_
 refine PS ?_
 refine nx J1 (sr fun _ J2 => ?_)
 refine PS ?_
 refine PS ?_
 refine FA 2 Tryz.underlying169 sz3 ?_
 refine LA 0 Tryz.underlying3 ?_
 refine tp (PV.sub rfl rfl rfl (wrap_i64 (by omega) (by omega))) ?_
 refine PS ?_
 refine nx J2 ?_
 refine TC.ret ?_
 refine WK [0] ?_
 refine TE.ret1 rfl rfl ?_
 exact ⟨rfl, rfl⟩
theorem walPut_does (lg d cnt : Nat) (used : Int) (x : Value) (bs : List UInt8) (D : DS) (hD : D.Ok) (hb : D.ws.length ≤ 1000000) (hu : 0 ≤ used ∧ used ≤ 2048) (hc : cnt ≤ 1000000) :
    Leg.Does Tryz.prog 143 #[(.pointer (some ⟨lg, 0, none⟩)), x] (IsW x bs) [blkA lg [(.pointer (some ⟨d, 0, none⟩)), (.int .i64 (((cnt : Nat) : Int))), (.int .i64 (used))] 169, dk d (D)] (Ret (fun v H => v = .int .i64 (putL D cnt used bs).err ∧ H = [lgP lg d (((putL D cnt used bs).cnt : Nat) : Int) (putL D cnt used bs).used, dk d (putL D cnt used bs).D])) := by
 refine Leg.Does.body (n := 72) Tryz.func143 rfl rfl rfl (fun w0 F hF => ?_)
 refine sr fun _ J1 => ?_
 refine PS ?_
 refine nx J1 ?_
 refine TC.seq fun _ J2 => ?_
 refine sr fun _ J3 => ?_
 refine PS ?_
 refine tp (PV.lenV rfl Tryz.underlying72 rfl hF.len) ?_
 refine PS ?_
 refine TL.dec (fun h12 => ?_) (fun h12 => ?_)
 refine nx J3 ?_
 refine CY ?_
 refine sr fun _ J4 => ?_
 refine PS ?_
 refine nx J4 ?_
 refine TC.ret ?_
 refine TE.passRet ?_
 refine WK [0, 0] ?_
 refine TE.ret1 rfl rfl ?_
 rw [put_long (by omega)]
 exact ⟨rfl, rfl⟩
 refine nx J3 ?_
 refine CN ?_
 refine CX J2 ?_
 refine sr fun _ J5 => ?_
 refine PS ?_
 refine tp (PV.lenV rfl Tryz.underlying72 rfl hF.len) ?_
 refine CR nm157 (pieces_does bs.length (by omega)) (fun _ s => s) fun vR HR hR => ?_
 obtain ⟨rfl, rfl⟩ := hR
 refine PS ?_
 refine nx J5 ?_
 refine TC.seq fun _ J6 => ?_
 refine sr fun _ J7 => ?_
 refine PS ?_
 refine PS ?_
 refine CR nm158 (room_does lg d ((cnt : Nat) : Int) used hu) (fun _ s => s) fun vR HR hR => ?_
 obtain ⟨rfl, rfl⟩ := hR
 refine PS ?_
 refine TL.dec (fun h19 => ?_) (fun h19 => ?_)
 refine nx J7 ?_
 refine CY ?_
 refine sr fun _ J8 => ?_
 refine PS ?_
 refine nx J8 ?_
 refine TC.ret ?_
 refine TE.passRet ?_
 refine WK [0, 0] ?_
 refine TE.ret1 rfl rfl ?_
 rw [put_full (by omega) (by omega)]
 exact ⟨rfl, rfl⟩
 refine nx J7 ?_
 refine CN ?_
 refine CX J6 ?_
 refine TC.seq fun _ J9 => ?_
 refine sr fun _ J10 => ?_
 refine PS ?_
 refine PS ?_
 refine FA 1 Tryz.underlying169 sz3 ?_
 refine LA 0 Tryz.underlying3 ?_
 refine tp (PV.to (v' := (.int .i64 (((cnt + 1 : Nat) : Int)))) (PV.add rfl rfl rfl (wrap_i64 (by omega) (by omega))) rfl) ?_
 refine PS ?_
 refine CQ nm159 (sectors_does x (cnt + 1) bs (by omega)) (fun _ s => s) (fun g d _ => IsW.more hF d) fun vR HR hR => ?_
 have hR := hR
 subst hR
 change TL _ _ _ _ _ _ _ _ _ [recsP 72 5 vR (sectorsP ((cnt + 1 : Nat) : Int) bs), blkA lg [(.pointer (some ⟨d, 0, none⟩)), (.int .i64 (((cnt : Nat) : Int))), (.int .i64 (used))] 169, dk d (D)]
 refine TL.recsLen 0 rfl rfl (fun hrl hro => ?_)
 rw [sectorsP_len] at hrl
 refine tp (PV.lenV rfl Tryz.underlying126 rfl hrl) ?_
 refine PS ?_
 refine nx J10 ?_
 refine TC.block ?_
 refine TC.loop (α := (Nat) × (DS)) (fun ⟨k, D'⟩ => k ≤ piecesN bs.length ∧ writesP (sectorsP ((cnt + 1 : Nat) : Int) bs) used D = writesP ((sectorsP ((cnt + 1 : Nat) : Int) bs).drop k) (used + (k : Nat)) D' ∧ D'.Ok ∧ D'.ws.length ≤ D.ws.length + k) (fun ⟨k, D'⟩ => [(0, (.pointer (some ⟨lg, 0, none⟩))), (5, (.int .i64 (((piecesN bs.length : Nat) : Int)))), (26, vR), (27, (.int .i64 ((((piecesN bs.length) : Nat) : Int)))), (28, (.int .i64 (((k : Nat) : Int))))]) (fun ⟨k, D'⟩ => [blkA lg [(.pointer (some ⟨d, 0, none⟩)), (.int .i64 (((cnt : Nat) : Int))), (.int .i64 (used))] 169, dk d (D'), recsP 72 5 vR (sectorsP ((cnt + 1 : Nat) : Int) bs)]) (fun ⟨k, D'⟩ => piecesN bs.length - k) (0, D)
     ⟨Nat.zero_le _, by simp, hD, by omega⟩ (Sub.r (Sub.r (Sub.r (Sub.r (Sub.cons rfl (by congr 1) (Sub.nil _))))))
     (fun _ s => sep_selR [1, 1, 0] rfl s) (fun ⟨k, D'⟩ hinv => ?_)
 obtain ⟨hk, hwr, hD', hws⟩ := hinv
 refine sr fun _ J11 => ?_
 refine PS ?_
 refine TL.dec (fun h29 => ?_) (fun h29 => ?_)
 refine TL.mono (fun _ s => sep_selR [2] rfl s) ?_
 refine TL.recsOpen (fun us => ?_)
 change TL _ _ _ _ _ _ _ _ _ [own vR ((sectorsP ((cnt + 1 : Nat) : Int) bs).length) (us) 72 1, bunch us (sectorsP ((cnt + 1 : Nat) : Int) bs) 5, blkA lg [(.pointer (some ⟨d, 0, none⟩)), (.int .i64 (((cnt : Nat) : Int))), (.int .i64 (used))] 169, dk d (D')]
 refine TL.fact (p := us.length = (sectorsP ((cnt + 1 : Nat) : Int) bs).length * 1) (fun w m => m.own_len (i := 0) (lb rfl) rfl) (fun hul => ?_)
 rw [sectorsP_len, Nat.mul_one] at hul
 have hkl : k < (sectorsP ((cnt + 1 : Nat) : Int) bs).length := by rw [sectorsP_len]; omega
 obtain ⟨sk, hsk⟩ : ∃ x, (sectorsP ((cnt + 1 : Nat) : Int) bs)[k] = x := ⟨_, rfl⟩
 refine TL.ownAt 0 rfl rfl (by omega) (fun g cap hv hcap => ?_)
 refine nx J11 ?_
 refine TC.seq fun _ J12 => ?_
 refine CY ?_
 refine CX J12 ?_
 refine TC.seq fun _ J13 => ?_
 refine TC.block ?_
 refine sr fun _ J14 => ?_
 refine PS ?_
 refine tp (PV.indexSlV (r := k) hv rfl Tryz.underlying126 sz72 rfl rfl (by omega) (by omega) (by omega)) ?_
 refine tp (PV.load1X (v := (us.getD k undef)) rfl Tryz.underlying72 rfl rfl (RdX.own 0 rfl hv rfl) (by simp [List.getD_eq_getElem?_getD, show k < us.length by omega])) ?_
 refine PS ?_
 refine PS ?_
 refine nx J14 ?_
 refine TC.seq fun _ J15 => ?_
 refine D1 2 mixedD ?_
 refine PD 0 ?_
 refine PD 1 ?_
 refine FD 2 0 Tryz.underlying169 sz76 ?_
 refine ta 3 rfl (PV.load1 (v := (.pointer (some ⟨d, 0, none⟩))) rfl Tryz.underlying76 rfl rfl (fun _ h => h.2.1) rfl) ?_
 refine PD 4 ?_
 refine PD 5 ?_
 refine FD 6 2 Tryz.underlying169 sz3 ?_
 refine ta 7 rfl (PV.load1 (v := (.int .i64 (used))) rfl Tryz.underlying3 rfl rfl (fun _ h => h.2.1) rfl) ?_
 refine PD 8 ?_
 refine ta 9 rfl (PV.add rfl rfl rfl (wrap_i64 (by omega) (by omega))) ?_
 refine PD 10 ?_
 refine TD.all [11] (by kernel_rfl) rfl ?_
 refine AllT.cons rfl ?_ ?_
 refine CQ nm56 (dk_write d D' (used + ((k : Nat) : Int)) (us.getD k undef) sk hD' (by omega)) (SM [3]) (fun g d s => IsB.w (hsk ▸ isB_bunch 1 hkl rfl rfl g d s)) fun vR HR hR => ?_
 obtain ⟨hv2, rfl⟩ := hR
 subst hv2
 refine TL.nil ?_
 refine E1 3 ?_
 refine PD 12 ?_
 refine TD.done (by kernel_rfl) ?_
 refine TE.next J15 ?_
 refine sr fun _ J16 => ?_
 refine PS ?_
 refine PS ?_
 refine TL.dec (fun h46 => ?_) (fun h46 => ?_)
 refine nx J16 ?_
 refine CY ?_
 refine sr fun _ J17 => ?_
 refine PS ?_
 refine PS ?_
 refine nx J17 ?_
 refine TC.ret ?_
 refine TE.blockRet ?_
 refine TE.passRet ?_
 refine TE.passRet ?_
 refine TE.blockRet ?_
 refine TE.passRet ?_
 refine WK [3, 0] ?_
 refine TE.ret1 rfl rfl ?_
 have hf := writes_fail (D := D') (at' := used) hkl (by rw [hsk]; exact h46)
 rw [hsk] at hf
 rw [put_fail1 (by omega) (by omega) (hwr.trans hf) h46]
 exact ⟨rfl, rfl⟩
 refine nx J16 ?_
 refine CN ?_
 refine TC.skip ?_
 refine TE.blockEnd ?_
 refine TE.next J13 ?_
 refine TC.region ?_
 refine tp (PV.add rfl rfl rfl (wrap_i64 (by omega) (by omega))) ?_
 refine PS ?_
 refine TL.nil ?_
 exact TE.round ((k + 1, (D'.write (used + ((k : Nat) : Int)) sk).2) : (Nat) × (DS)) ⟨by omega, by rw [hwr]; subst hsk; exact writes_step hkl (by simpa using h46), DS.write_ok hD' _ _, by have := DS.write_ws (D := D') (at' := used + ((k : Nat) : Int)) (bs := sk); omega⟩ (by show piecesN bs.length - (k + 1) < piecesN bs.length - k; omega)
   (Sub.r (Sub.r (Sub.r (Sub.r (Sub.cons rfl (by simp) (Sub.nil _))))))
   (fun _ s => sep_selR [1, 1, 0] rfl (sep_close (p := fun us : List Value => [own vR (sectorsP ((cnt + 1 : Nat) : Int) bs).length us 72 1, bunch us (sectorsP ((cnt + 1 : Nat) : Int) bs) 5]) us (sep_keep [1, 1, 1, 0] rfl s)))
 exact AllT.nil
 refine nx J11 ?_
 refine TC.seq fun _ J18 => ?_
 refine CN ?_
 refine TC.exit ?_
 refine TE.pass ?_
 refine TE.pass ?_
 refine TE.hit ?_
 refine TE.next J9 ?_
 refine TC.seq fun _ J19 => ?_
 refine sr fun _ J20 => ?_
 refine PS ?_
 refine PS ?_
 refine FA 0 Tryz.underlying169 sz76 ?_
 refine LA 0 Tryz.underlying76 ?_
 refine CR nm57 (dk_sync d (D')  hD') (SM [1]) fun vR HR hR => ?_
 obtain ⟨hv, rfl⟩ := hR
 subst hv
 refine PS ?_
 refine nx J20 (sr fun _ J21 => ?_)
 refine PS ?_
 refine PS ?_
 refine TL.dec (fun h55 => ?_) (fun h55 => ?_)
 refine nx J21 ?_
 refine CY ?_
 refine sr fun _ J22 => ?_
 refine PS ?_
 refine PS ?_
 refine nx J22 ?_
 refine TC.ret ?_
 refine TE.passRet ?_
 refine WK [1, 0] ?_
 refine TE.ret1 rfl rfl ?_
 have hf : writesP (sectorsP ((cnt + 1 : Nat) : Int) bs) used D = (0, D') := by rw [hwr, List.drop_of_length_le (by rw [sectorsP_len]; omega)]; rfl
 rw [put_fail2 (by omega) (by omega) hf h55]
 exact ⟨rfl, rfl⟩
 refine nx J21 ?_
 refine CN ?_
 refine CX J19 ?_
 refine sr fun _ J23 => ?_
 refine PS ?_
 refine PS ?_
 refine FA 1 Tryz.underlying169 sz3 ?_
 refine LA 1 Tryz.underlying3 ?_
 refine tp (PV.add rfl rfl rfl (wrap_i64 (by omega) (by omega))) ?_
 refine PS ?_
 refine FA 1 Tryz.underlying169 sz3 ?_
 refine S0 1 sz3 ?_
 refine nx J23 (sr fun _ J24 => ?_)
 refine PS ?_
 refine PS ?_
 refine FA 2 Tryz.underlying169 sz3 ?_
 refine LA 1 Tryz.underlying3 ?_
 refine PS ?_
 refine tp (PV.add rfl rfl rfl (wrap_i64 (by omega) (by omega))) ?_
 refine PS ?_
 refine FA 2 Tryz.underlying169 sz3 ?_
 refine S0 1 sz3 ?_
 refine nx J24 (sr fun _ J25 => ?_)
 refine PS ?_
 refine nx J25 ?_
 refine TC.ret ?_
 refine WK [1, 0] ?_
 refine TE.ret1 rfl rfl ?_
 have hf : writesP (sectorsP ((cnt + 1 : Nat) : Int) bs) used D = (0, D') := by rw [hwr, List.drop_of_length_le (by rw [sectorsP_len]; omega)]; rfl
 rw [put_ok (by omega) (by omega) hf (by simpa using h55)]
 exact ⟨rfl, rfl⟩
theorem open_does (d : Nat) (D : DS) (hD : D.Ok) (hI : Wal.DS.In D) (hb : D.ws.length ≤ 1000000) :
    Leg.Does Tryz.prog 62 #[(.pointer (some ⟨d, 0, none⟩))] (fun _ => True) [dk d (D)] (Ret (fun v H => ((openP D).err ≠ 0 ∧ v = .tuple #[.pointer none, .slice none 0 0, .int .i64 (openP D).err] ∧ H = [dk d (openP D).D]) ∨ ((openP D).err = 0 ∧ ∃ lg vr, v = .tuple #[.pointer (some ⟨lg, 0, none⟩), vr, .int .i64 0] ∧ H = [lgP lg d (((openP D).recs.length : Nat) : Int) (openP D).used, rcP vr (openP D).recs, dk d (openP D).D]))) := by
 refine Leg.Does.body (n := 80) Tryz.func62 rfl rfl rfl (fun w0 F hF => ?_)
 refine sr fun _ J1 => ?_
 refine PS ?_
 refine PS ?_
 refine PS ?_
 refine nx J1 ?_
 refine TC.seq fun _ J2 => ?_
 refine sr fun _ J3 => ?_
 refine PS ?_
 refine tp (PV.ptrNil rfl Tryz.underlying76 rfl rfl) ?_
 refine nx J3 ?_
 refine CN ?_
 refine CX J2 ?_
 refine sr fun _ J4 => ?_
 refine PS ?_
 refine tp (PV.build (cells := #[(.pointer (some ⟨d, 0, none⟩)), (.int .i64 0), (.int .i64 0)]) rfl rfl (by as_aux_lemma => kernel_rfl)) ?_
 refine TL.box (Want.plain rfl) rfl rfl rfl rfl (fun b17 => ?_)
 refine PS ?_
 refine nx J4 (sr fun _ J5 => ?_)
 refine PS ?_
 refine nx J5 ?_
 refine TC.seq fun _ J6 => ?_
 refine TC.block ?_
 refine TC.loop (α := (Nat) × (List (List UInt8)) × (Int) × (Value)) (fun ⟨f, rs, used, vr⟩ => Scan D f rs used ∧ vr.oneCell' = true) (fun ⟨f, rs, used, vr⟩ => [(0, (.pointer (some ⟨d, 0, none⟩))), (2, (.pointer none)), (3, (.slice none 0 0)), (4, (.int .i64 0)), (5, (.pointer (some ⟨b17, 0, none⟩))), (6, vr)]) (fun ⟨f, rs, used, vr⟩ => [blkA b17 [(.pointer (some ⟨d, 0, none⟩)), (.int .i64 (((rs.length : Nat) : Int))), (.int .i64 (used))] 169, dk d (D), recsP 72 5 vr (rs)]) (fun ⟨f, rs, used, vr⟩ => f) (fuel0, [], 0, (.slice none 0 0))
     ⟨Scan.start D, rfl⟩ (Sub.r (Sub.r (Sub.r (Sub.r (Sub.r (Sub.r (Sub.nil _)))))))
     (fun _ s => sep_perm (List.Perm.trans (List.Perm.swap _ _ _) (List.Perm.cons _ (List.Perm.swap _ _ _))) (sep_recsNil 72 5 s)) (fun ⟨f, rs, used, vr⟩ hinv => ?_)
 obtain ⟨hsc, hvr⟩ := hinv
 obtain ⟨hs1, hs2, hs3, hs4, hs5⟩ := id hsc
 refine TC.block ?_
 refine TC.seq fun _ J7 => ?_
 refine D1 0 mixedD ?_
 refine PD 0 ?_
 refine PD 1 ?_
 refine PD 2 ?_
 refine FD 3 1 Tryz.underlying169 sz3 ?_
 refine ta 4 rfl (PV.load1 (v := (.int .i64 (((rs.length : Nat) : Int)))) rfl Tryz.underlying3 rfl rfl (fun _ h => h.2.1) rfl) ?_
 refine ta 5 rfl (PV.add rfl rfl rfl (wrap_i64 (by omega) (by omega))) ?_
 refine PD 6 ?_
 refine PD 7 ?_
 refine FD 8 2 Tryz.underlying169 sz3 ?_
 refine ta 9 rfl (PV.load1 (v := (.int .i64 (used))) rfl Tryz.underlying3 rfl rfl (fun _ h => h.2.1) rfl) ?_
 refine TD.all [10] (by kernel_rfl) rfl ?_
 refine AllT.cons rfl ?_ ?_
 refine CR nm93 (stands_does d D (((rs.length : Nat) : Int) + 1) used hD (by omega) (by omega)) (SM [1]) fun vR HR hR => ?_
 rcases hR with ⟨hst, rfl, rfl⟩ | ⟨b, all, u, hst, rfl, rfl⟩
 have hss := Scan.stop hsc hst
 refine TL.nil ?_
 refine E1 1 ?_
 refine PD 11 ?_
 refine ta 12 rfl (PV.extract (vs := [(.slice none 0 0), (.int .i64 0), (.bool false)]) rfl rfl rfl) ?_
 refine ta 13 rfl (PV.extract (vs := [(.slice none 0 0), (.int .i64 0), (.bool false)]) rfl rfl rfl) ?_
 refine ta 14 rfl (PV.extract (vs := [(.slice none 0 0), (.int .i64 0), (.bool false)]) rfl rfl rfl) ?_
 refine PD 15 ?_
 refine PD 16 ?_
 refine PD 17 ?_
 refine TD.done (by kernel_rfl) ?_
 refine TE.next J7 ?_
 refine TC.seq fun _ J8 => ?_
 refine sr fun _ J9 => ?_
 refine PS ?_
 refine tp (PV.not (r := true) rfl rfl rfl) ?_
 refine nx J9 ?_
 refine CY ?_
 refine TC.exit ?_
 refine TE.pass ?_
 refine TE.miss (by decide) ?_
 refine TE.pass ?_
 refine TE.hit ?_
 refine TE.next J6 ?_
 refine TC.seq fun _ J10 => ?_
 refine sr fun _ J11 => ?_
 refine PS ?_
 refine PS ?_
 refine FA 2 Tryz.underlying169 sz3 ?_
 refine LA 1 Tryz.underlying3 ?_
 refine PS ?_
 refine nx J11 ?_
 refine TC.block ?_
 refine TC.loop (α := (Int) × (DS)) (fun ⟨at', D'⟩ => used ≤ at' ∧ at' ≤ 2048 ∧ wipeP (2048 - used).toNat used D = wipeP (2048 - at').toNat at' D' ∧ D'.Ok ∧ D'.ws.length ≤ D.ws.length + (at' - used).toNat) (fun ⟨at', D'⟩ => [(0, (.pointer (some ⟨d, 0, none⟩))), (5, (.pointer (some ⟨b17, 0, none⟩))), (6, vr), (10, (.int .i64 (at')))]) (fun ⟨at', D'⟩ => [blkA b17 [(.pointer (some ⟨d, 0, none⟩)), (.int .i64 (((rs.length : Nat) : Int))), (.int .i64 (used))] 169, dk d (D'), recsP 72 5 vr (rs)]) (fun ⟨at', D'⟩ => (2048 - at').toNat) (used, D)
     ⟨by omega, by omega, rfl, hD, by omega⟩ (Sub.r (Sub.r (Sub.r (Sub.cons rfl (by congr 1) (Sub.nil _)))))
     (fun _ s => sep_keep [1, 0, 0] rfl s) (fun ⟨at', D'⟩ hinv => ?_)
 obtain ⟨ha1, ha2, hwi, hD', hws⟩ := hinv
 refine TC.seq fun _ J12 => ?_
 refine sr fun _ J13 => ?_
 refine PS ?_
 refine PS ?_
 refine TL.dec (fun h59 => ?_) (fun h59 => ?_)
 refine nx J13 ?_
 refine CY ?_
 refine CX J12 ?_
 refine TC.seq fun _ J14 => ?_
 refine TC.block ?_
 refine TC.seq fun _ J15 => ?_
 refine sr fun _ J16 => ?_
 refine PS ?_
 refine PS ?_
 refine CR nm94 (dk_read d (D') at' hD' (by omega)) (SM [1]) fun vR HR hR => ?_
 obtain ⟨hv, rfl⟩ := hR
 subst hv
 refine tp (PV.build (cells := (u8s zs).toArray) rfl rfl (by as_aux_lemma => kernel_rfl)) ?_
 refine tp (PV.eqlBy (a := ((D').read at')) (b := zs) (m := 2) sg109 sk109 rfl sf109 sa109 sc109 (DS.read_len hD' _) (by decide) rfl rfl rfl) ?_
 refine TL.dec (fun h66 => ?_) (fun h66 => ?_)
 refine nx J16 ?_
 refine CY ?_
 refine TC.exit ?_
 refine TE.pass ?_
 refine TE.hit ?_
 refine TE.next J14 ?_
 refine TC.region ?_
 refine PS ?_
 refine tp (PV.add rfl rfl rfl (wrap_i64 (by omega) (by omega))) ?_
 refine PS ?_
 refine TL.nil ?_
 exact TE.round ((at' + 1, D') : (Int) × (DS)) ⟨by omega, by omega, by rw [hwi]; exact wipe_skip (by omega) h66, hD', by omega⟩ (by show (2048 - (at' + 1)).toNat < (2048 - at').toNat; omega)
   (Sub.r (Sub.r (Sub.r (Sub.r (Sub.nil _)))))
   (fun _ s => sep_keep [1, 0, 0] rfl s)
 refine nx J16 ?_
 refine CN ?_
 refine CX J15 ?_
 refine sr fun _ J17 => ?_
 refine PS ?_
 refine PS ?_
 refine CQ nm56 (dk_write d (D') at' (.slice none 0 0) ([]) hD' (by omega)) (fun _ s => s) (fun _ _ _ => .inl (.inl ⟨rfl, rfl⟩)) fun vR HR hR => ?_
 obtain ⟨hv, rfl⟩ := hR
 subst hv
 refine PS ?_
 refine nx J17 (sr fun _ J18 => ?_)
 refine PS ?_
 refine PS ?_
 refine TL.dec (fun h71 => ?_) (fun h71 => ?_)
 refine nx J18 ?_
 refine CY ?_
 refine sr fun _ J19 => ?_
 refine PS ?_
 refine PS ?_
 refine PS ?_
 refine PS ?_
 refine nx J19 ?_
 refine TC.ret ?_
 refine TE.blockRet ?_
 refine TE.passRet ?_
 refine TE.passRet ?_
 refine TE.blockRet ?_
 refine TE.passRet ?_
 refine WK [0] ?_
 refine TE.ret3 rfl rfl rfl rfl ?_
 rw [open_fail1 hss (hwi.trans (wipe_fail (by omega) h66 h71)) h71]
 exact .inl ⟨h71, rfl, rfl⟩
 refine nx J18 ?_
 refine CN ?_
 refine TC.skip ?_
 refine TE.blockEnd ?_
 refine TE.next J14 ?_
 refine TC.region ?_
 refine PS ?_
 refine tp (PV.add rfl rfl rfl (wrap_i64 (by omega) (by omega))) ?_
 refine PS ?_
 refine TL.nil ?_
 exact TE.round ((at' + 1, (D'.write at' []).2) : (Int) × (DS)) ⟨by omega, by omega, by rw [hwi]; exact wipe_go (by omega) h66 (by simpa using h71), DS.write_ok hD' _ _, by have := DS.write_ws (D := D') (at' := at') (bs := []); omega⟩ (by show (2048 - (at' + 1)).toNat < (2048 - at').toNat; omega)
   (Sub.r (Sub.r (Sub.r (Sub.r (Sub.nil _)))))
   (fun _ s => sep_keep [1, 0, 0] rfl s)
 refine nx J13 ?_
 refine CN ?_
 refine TC.exit ?_
 refine TE.pass ?_
 refine TE.pass ?_
 refine TE.hit ?_
 refine TE.next J10 ?_
 refine TC.seq fun _ J20 => ?_
 refine sr fun _ J21 => ?_
 refine PS ?_
 refine CR nm57 (dk_sync d (D')  hD') (SM [1]) fun vR HR hR => ?_
 obtain ⟨hv, rfl⟩ := hR
 subst hv
 refine PS ?_
 refine nx J21 (sr fun _ J22 => ?_)
 refine PS ?_
 refine PS ?_
 refine TL.dec (fun h76 => ?_) (fun h76 => ?_)
 refine nx J22 ?_
 refine CY ?_
 refine sr fun _ J23 => ?_
 refine PS ?_
 refine PS ?_
 refine PS ?_
 refine PS ?_
 refine nx J23 ?_
 refine TC.ret ?_
 refine TE.passRet ?_
 refine WK [0] ?_
 refine TE.ret3 rfl rfl rfl rfl ?_
 rw [open_fail2 hss (hwi.trans (wipe_end (by omega))) h76]
 exact .inl ⟨h76, rfl, rfl⟩
 refine nx J22 ?_
 refine CN ?_
 refine CX J20 ?_
 refine sr fun _ J24 => ?_
 refine PS ?_
 refine PS ?_
 refine PS ?_
 refine PS ?_
 refine PS ?_
 refine nx J24 ?_
 refine TC.ret ?_
 refine WK [1, 1, 0] ?_
 refine TE.ret3 rfl rfl rfl rfl ?_
 have h76' : D'.sync.1 = 0 := by omega
 rw [open_ok hss (hwi.trans (wipe_end (by omega))) h76']
 exact .inr ⟨rfl, b17, vr, rfl, rfl⟩
 have hro := standsP_room hI hD (by omega) hst
 have hfa := (standsP_facts (DS.read_len hD _) hst).1
 obtain ⟨f', rfl, hsn⟩ := Scan.next hI hD hsc hst
 refine TL.subLen 0 rfl rfl (fun hul hu => ?_)
 refine TL.nil ?_
 refine E1 2 ?_
 refine PD 11 ?_
 refine ta 12 rfl (PV.extract (vs := [u, (.int .i64 (all)), (.bool true)]) rfl rfl rfl) ?_
 refine ta 13 rfl (PV.extract (vs := [u, (.int .i64 (all)), (.bool true)]) rfl rfl rfl) ?_
 refine ta 14 rfl (PV.extract (vs := [u, (.int .i64 (all)), (.bool true)]) rfl rfl rfl) ?_
 refine PD 15 ?_
 refine PD 16 ?_
 refine PD 17 ?_
 refine TD.done (by kernel_rfl) ?_
 refine TE.next J7 ?_
 refine TC.seq fun _ J25 => ?_
 refine sr fun _ J26 => ?_
 refine PS ?_
 refine tp (PV.not (r := false) rfl rfl rfl) ?_
 refine nx J26 ?_
 refine CN ?_
 refine CX J25 ?_
 refine sr fun _ J27 => ?_
 refine PS ?_
 refine PS ?_
 refine TL.buildSlice (cells := #[u]) (Want.plain rfl) rfl rfl rfl Tryz.underlying126 in72 rfl rfl rfl (fill_one hu (by simp)) (fun b37 => ?_)
 change TL _ _ _ _ _ _ _ _ _ [blkA b37 [u] 72, subB u (b) 5, dk d (D), blkA b17 [(.pointer (some ⟨d, 0, none⟩)), (.int .i64 (((rs.length : Nat) : Int))), (.int .i64 (used))] 169, recsP 72 5 vr (rs)]
 refine TL.mono (fun _ s => sep_selR [4] rfl s) ?_
 refine TL.recsOpen (fun us38 => ?_)
 refine TL.append (k := 0) (m := 1) (news := [u]) (nn' := (rs).length + 1) (xs' := us38 ++ [u]) (Want.plain rfl) rfl rfl rfl Tryz.underlying126 in72 rfl rfl rfl rfl rfl rfl (fun _ _ => Src.rd rfl (RO 2) rfl) (List.forall_mem_cons.2 ⟨hu, fun _ h => by cases h⟩) (by simp only [maxLen]; omega) (by omega) rfl rfl (fun v38 ov38 => ?_)
 change TL _ _ _ _ _ _ _ _ _ [own v38 ((rs).length + 1) (us38 ++ [u]) 72 1, bunch us38 (rs) 5, blkA b37 [u] 72, subB u (b) 5, dk d (D), blkA b17 [(.pointer (some ⟨d, 0, none⟩)), (.int .i64 (((rs.length : Nat) : Int))), (.int .i64 (used))] 169]
 refine TL.mono (H' := [own v38 ((rs).length + 1) (us38 ++ [u]) 72 1, bunch us38 (rs) 5, subB u (b) 5, blkA b37 [u] 72, dk d (D), blkA b17 [(.pointer (some ⟨d, 0, none⟩)), (.int .i64 (((rs.length : Nat) : Int))), (.int .i64 (used))] 169]) (fun _ s => sep_selR [0, 0, 1] rfl s) ?_
 refine TL.mono (fun _ s => sep_recsAdd s) ?_
 refine PS ?_
 refine nx J27 (sr fun _ J28 => ?_)
 refine PS ?_
 refine PS ?_
 refine FA 1 Tryz.underlying169 sz3 ?_
 refine LA 3 Tryz.underlying3 ?_
 refine tp (PV.to (v' := (.int .i64 ((((rs ++ [b]).length : Nat) : Int)))) (PV.add rfl rfl rfl (wrap_i64 (by omega) (by omega))) (congrArg (Value.int .i64) (by simp))) ?_
 refine PS ?_
 refine FA 1 Tryz.underlying169 sz3 ?_
 refine S0 3 sz3 ?_
 refine nx J28 ?_
 refine TC.region ?_
 refine PS ?_
 refine PS ?_
 refine FA 2 Tryz.underlying169 sz3 ?_
 refine LA 3 Tryz.underlying3 ?_
 refine PS ?_
 refine tp (PV.add rfl rfl rfl (wrap_i64 (by omega) (by omega))) ?_
 refine PS ?_
 refine FA 2 Tryz.underlying169 sz3 ?_
 refine S0 3 sz3 ?_
 refine TL.nil ?_
 refine TE.blockEnd ?_
 exact TE.round ((f', rs ++ [b], used + all, v38) : (Nat) × (List (List UInt8)) × (Int) × (Value)) ⟨hsn, ov38⟩ (Nat.lt_succ_self _)
   (Sub.r (Sub.r (Sub.r (Sub.r (Sub.r (Sub.r (Sub.nil _)))))))
   (fun _ s => sep_keep [3, 2, 0] rfl s)
 exact AllT.nil
end Go.Proofs.YtobdfjdoilnfcaaGreat
end

section
namespace Wal
open Go Leg Codec Api Dsk

/-! ### What a disk reads -/
theorem sget_lay (s ws : Secs) (j : Int) : ∀ k, sget (layN s ws k) j = readN s ws j k
  | 0 => rfl
  | k + 1 => by
    rw [layN, readN, sget_put, sget_lay s ws j k]
    by_cases h : j = (wat ws k).1
    · rw [if_pos h, if_pos h.symm]
    · rw [if_neg h, if_neg (fun q => h q.symm)]
theorem wat_left {ws x : Secs} {k : Nat} (h : k < ws.length) : wat (ws ++ x) k = wat ws k := by simp [wat, List.getD_eq_getElem?_getD, List.getElem?_append_left h]
theorem readN_left {s ws x : Secs} {j : Int} : ∀ k, k ≤ ws.length → readN s (ws ++ x) j k = readN s ws j k
  | 0, _ => rfl
  | k + 1, h => by rw [readN, readN, wat_left (by omega), readN_left k (by omega)]
theorem readN_add (s ws : Secs) (p : Int × Sec) (j : Int) : readN s (ws ++ [p]) j (ws ++ [p]).length = if j = p.1 then p.2 else readN s ws j ws.length := by
  rw [List.length_append, List.length_cons, List.length_nil, Nat.zero_add, readN, readN_left _ (Nat.le_refl _)]
  have : wat (ws ++ [p]) ws.length = p := by simp [wat, List.getD_eq_getElem?_getD]
  rw [this]
  by_cases h : j = p.1
  · rw [if_pos h, if_pos h.symm]
  · rw [if_neg h, if_neg (fun q => h q.symm)]
def putD (D : DS) (at' : Int) (bs : List UInt8) : DS := { D with ws := D.ws ++ [(at', padS bs)], lf := if D.ar = true then D.lf - 1 else D.lf, dn := false }
theorem write_putD {D : DS} {at' : Int} {bs : List UInt8} (h1 : 0 ≤ at' ∧ at' < 2048) (h2 : bs.length ≤ 64) (h3 : D.dn = false) (h4 : D.ar = false ∨ 0 < D.lf) : D.write at' bs = (0, putD D at' bs) := by
  rw [DS.write, if_neg (by omega), if_neg]
  · rfl
  · rintro (h | ⟨h, h5⟩)
    · rw [h3] at h; cases h
    · rcases h4 with h4 | h4
      · rw [h4] at h; cases h
      · omega
theorem write_down {D : DS} {at' : Int} {bs : List UInt8} (h1 : 0 ≤ at' ∧ at' < 2048) (h2 : bs.length ≤ 64) (h4 : D.ar = true ∧ D.lf = 0) : D.write at' bs = (4, { D with dn := true }) := by
  rw [DS.write, if_neg (by omega), if_pos (.inr h4)]
theorem putD_read (D : DS) (at' : Int) (bs : List UInt8) (j : Int) : (putD D at' bs).read j = if j = at' then padS bs else D.read j := readN_add _ _ _ _
theorem putD_ok {D : DS} (h : D.Ok) {at' : Int} {bs : List UInt8} (h2 : bs.length ≤ 64) (h4 : D.ar = false ∨ 0 < D.lf) : (putD D at' bs).Ok := by
  refine ⟨h.s, h.ws.add _ (padS_len h2), ?_⟩
  have := h.lf
  show 0 ≤ (if D.ar = true then D.lf - 1 else D.lf) ∧ (if D.ar = true then D.lf - 1 else D.lf) ≤ 9223372036854775807
  split
  · rename_i h5
    rcases h4 with h4 | h4
    · rw [h4] at h5; cases h5
    · omega
  · exact this
theorem putD_in {D : DS} (h : Wal.DS.In D) {at' : Int} {bs : List UInt8} (h1 : 0 ≤ at' ∧ at' < 2048) : Wal.DS.In (putD D at' bs) := ⟨h.1, fun p hp => by
  rcases List.mem_append.1 hp with hp | hp
  · exact h.2 p hp
  · simp only [List.mem_singleton] at hp; subst hp; exact h1⟩
theorem In.put {s : Secs} (h : In s) {k : Int} {v : Sec} (h1 : 0 ≤ k ∧ k < 2048) : In (sput s k v) := by
  induction s with
  | nil => intro p hp; simp only [sput, List.mem_singleton] at hp; subst hp; exact h1
  | cons p s ih =>
    obtain ⟨a, b⟩ := p
    intro q hq
    simp only [sput] at hq
    split at hq
    · rcases List.mem_cons.1 hq with rfl | hq
      · exact h (a, b) (by simp)
      · exact h q (by simp [hq])
    · rcases List.mem_cons.1 hq with rfl | hq
      · exact h (a, b) (by simp)
      · exact ih (fun q hq => h q (by simp [hq])) q hq
theorem In.lay {s ws : Secs} (h : In s) (hw : In ws) : ∀ k, k ≤ ws.length → In (layN s ws k)
  | 0, _ => h
  | k + 1, hk => by
    have := hw (wat ws k) (by rw [wat_eq (by omega)]; exact List.getElem_mem _)
    exact (In.lay h hw k (by omega)).put this
theorem In.crash {mask torn : Int} {c : Nat} {s ws : Secs} (h : In s) (hw : In ws) : ∀ k, k ≤ ws.length → In (crashN mask torn c s ws k)
  | 0, _ => h
  | k + 1, hk => by
    have h1 := hw (wat ws k) (by rw [wat_eq (by omega)]; exact List.getElem_mem _)
    have ih := In.crash (mask := mask) (torn := torn) (c := c) h hw k (by omega)
    simp only [crashN, crashStep]
    split
    · exact ih.put h1
    · split
      · exact ih.put h1
      · exact ih
theorem In.nil : In [] := fun _ h => absurd h (by simp)
structure Calm (D : DS) : Prop where
  ok : D.Ok
  inn : Wal.DS.In D
  ar : D.ar = false
  dn : D.dn = false
theorem Calm.new : Calm DS.new := ⟨DS.new_ok, ⟨In.nil, In.nil⟩, rfl, rfl⟩
theorem Calm.crash {D : DS} (h : D.Ok) (hi : Wal.DS.In D) (mask torn n : Int) : Calm (D.crash mask torn n) := ⟨DS.crash_ok h _ _ _, ⟨hi.1.crash hi.2 _ (Nat.le_refl _), In.nil⟩, rfl, rfl⟩
theorem sync_read {D : DS} (h : D.dn = false) (j : Int) : D.sync.2.read j = D.read j := by
  unfold DS.sync
  rw [if_neg (by simp [h])]
  exact sget_lay _ _ _ _
theorem sync_zero {D : DS} (h : D.dn = false) : D.sync.1 = 0 ∧ D.sync.2.ws = [] ∧ D.sync.2.dn = false ∧ D.sync.2.ar = D.ar ∧ D.sync.2.lf = D.lf := by
  unfold DS.sync
  rw [if_neg (by simp [h])]
  exact ⟨rfl, rfl, h, rfl, rfl⟩
theorem sync_in {D : DS} (h : Wal.DS.In D) : Wal.DS.In D.sync.2 := by
  unfold DS.sync
  split
  · exact h
  · exact ⟨h.1.lay h.2 _ (Nat.le_refl _), In.nil⟩
theorem Calm.sync {D : DS} (h : Calm D) : Calm D.sync.2 := by
  obtain ⟨_, _, h3, h4, _⟩ := sync_zero h.dn
  exact ⟨DS.sync_ok h.ok, sync_in h.inn, h4.trans h.ar, h3⟩
theorem Calm.put {D : DS} (h : Calm D) {at' : Int} {bs : List UInt8} (h1 : 0 ≤ at' ∧ at' < 2048) (h2 : bs.length ≤ 64) : Calm (putD D at' bs) := ⟨putD_ok h.ok h2 (.inl h.ar), putD_in h.inn h1, h.ar, rfl⟩
theorem padS_nil : padS [] = zs := rfl

/-! ### Wiping -/
theorem wipe_spec : ∀ (n : Nat) (at' : Int) (D : DS), Calm D → 0 ≤ at' → at' + n ≤ 2048 → ∃ D', wipeP n at' D = (0, D') ∧ Calm D' ∧ ∀ j, D'.read j = if at' ≤ j ∧ j < at' + n then zs else D.read j
  | 0, at', D, h, _, _ => ⟨D, rfl, h, fun j => by rw [if_neg (by omega)]⟩
  | n + 1, at', D, h, h0, h1 => by
    by_cases hz : D.read at' = zs
    · obtain ⟨D', e, c, r⟩ := wipe_spec n (at' + 1) D h (by omega) (by omega)
      refine ⟨D', by rw [wipeP, if_pos hz, e], c, fun j => ?_⟩
      rw [r j]
      by_cases q : j = at'
      · subst q; rw [if_neg (by omega), if_pos (by omega), hz]
      · by_cases q2 : at' + 1 ≤ j ∧ j < at' + 1 + n
        · rw [if_pos q2, if_pos (by omega)]
        · rw [if_neg q2, if_neg (by omega)]
    · have hw := write_putD (D := D) (at' := at') (bs := []) (by omega) (by simp) h.dn (.inl h.ar)
      obtain ⟨D', e, c, r⟩ := wipe_spec n (at' + 1) (putD D at' []) (h.put (by omega) (by simp)) (by omega) (by omega)
      refine ⟨D', by rw [wipeP, if_neg hz, hw, if_pos rfl, e], c, fun j => ?_⟩
      rw [r j, putD_read, padS_nil]
      by_cases q : j = at'
      · subst q; rw [if_neg (by omega), if_pos rfl, if_pos (by omega)]
      · rw [if_neg q]
        by_cases q2 : at' + 1 ≤ j ∧ j < at' + 1 + n
        · rw [if_pos q2, if_pos (by omega)]
        · rw [if_neg q2, if_neg (by omega)]
theorem scan_used {D : DS} (h : Calm D) : 0 ≤ (scanP D.read fuel0 0 0).2 ∧ (scanP D.read fuel0 0 0).2 ≤ 2048 ∧ ((scanP D.read fuel0 0 0).1.length : Int) ≤ (scanP D.read fuel0 0 0).2 := by
  have key : ∀ f rs used, Scan D f rs used → ∃ rs' used', scanP D.read fuel0 0 0 = (rs', used') ∧ 0 ≤ used' ∧ used' ≤ 2048 ∧ (rs'.length : Int) ≤ used' := by
    intro f
    induction f with
    | zero =>
      intro rs used hs
      cases hst : standsP D.read ((rs.length : Int) + 1) used with
      | none => exact ⟨rs, used, hs.stop hst, hs.2.1, hs.2.2.1, hs.2.2.2.2⟩
      | some p => obtain ⟨b, all⟩ := p; obtain ⟨f', e, _⟩ := Scan.next h.inn h.ok hs hst; omega
    | succ f ih =>
      intro rs used hs
      cases hst : standsP D.read ((rs.length : Int) + 1) used with
      | none => exact ⟨rs, used, hs.stop hst, hs.2.1, hs.2.2.1, hs.2.2.2.2⟩
      | some p =>
        obtain ⟨b, all⟩ := p
        obtain ⟨f', e, hs'⟩ := Scan.next h.inn h.ok hs hst
        obtain rfl : f = f' := by omega
        exact ih _ _ hs'
  obtain ⟨rs, used, e, h1, h2, h3⟩ := key _ _ _ (Scan.start D)
  rw [e]; exact ⟨h1, h2, h3⟩
theorem open_calm {D : DS} (h : Calm D) : ∃ D', openP D = ⟨0, (scanP D.read fuel0 0 0).1, (scanP D.read fuel0 0 0).2, D'⟩ ∧ Calm D' ∧ D'.ws = [] ∧ ∀ j, D'.read j = if (scanP D.read fuel0 0 0).2 ≤ j ∧ j < 2048 then zs else D.read j := by
  obtain ⟨h1, h2, _⟩ := scan_used h
  generalize hr : scanP D.read fuel0 0 0 = r at *
  obtain ⟨rs, used⟩ := r
  simp only at h1 h2 ⊢
  obtain ⟨D', e, c, rd⟩ := wipe_spec (2048 - used).toNat used D h h1 (by omega)
  obtain ⟨s1, s2, _⟩ := sync_zero c.dn
  refine ⟨D'.sync.2, open_ok hr e s1, c.sync, s2, fun j => ?_⟩
  rw [sync_read c.dn, rd j]
  by_cases q : used ≤ j ∧ j < 2048
  · rw [if_pos q, if_pos (by omega)]
  · rw [if_neg q, if_neg (by omega)]

/-! ### Records laid -/
def flatS : Nat → List (List UInt8) → List Sec
  | _, [] => []
  | n, b :: ls => sectorsP ((n + 1 : Nat) : Int) b ++ flatS (n + 1) ls
def sizeS (ls : List (List UInt8)) : Nat := (flatS 0 ls).length
theorem flatS_append : ∀ (a : List (List UInt8)) (n : Nat) (b : List (List UInt8)), flatS n (a ++ b) = flatS n a ++ flatS (n + a.length) b
  | [], n, b => by simp [flatS]
  | x :: a, n, b => by
    simp only [List.cons_append, flatS, flatS_append a (n + 1) b, List.append_assoc, List.length_cons]
    rw [show n + 1 + a.length = n + (a.length + 1) by omega]
theorem flatS_len : ∀ (ls : List (List UInt8)) (n m : Nat), (flatS n ls).length = (flatS m ls).length
  | [], _, _ => rfl
  | b :: ls, n, m => by simp only [flatS, List.length_append, sectorsP_len, flatS_len ls (n + 1) (m + 1)]
theorem sizeS_add (ls : List (List UInt8)) (b : List UInt8) : sizeS (ls ++ [b]) = sizeS ls + piecesN b.length := by
  simp [sizeS, flatS_append, flatS, sectorsP_len]
theorem sizeS_ge : ∀ ls : List (List UInt8), ls.length ≤ sizeS ls
  | [] => Nat.le_refl _
  | b :: ls => by
    have h1 := sizeS_ge ls
    have h2 := piecesN_pos b.length
    have h3 := flatS_len ls 1 0
    simp only [sizeS, flatS, List.length_append, sectorsP_len, List.length_cons, h3] at *
    omega
theorem sectorsP_get {number : Int} {b : List UInt8} {k : Nat} (h : k < (sectorsP number b).length) : (sectorsP number b)[k] = sectP number k (piecesN b.length) (partP b k) := by simp [sectorsP]
theorem sectorsP_sec (number : Int) (b : List UInt8) : ∀ s ∈ sectorsP number b, s.length = 64 := fun s hs => by
  obtain ⟨i, _, rfl⟩ := List.mem_map.1 hs
  exact sectP_len (partP_len b i)
theorem piece_sect {number : Int} {b : List UInt8} {k : Nat} (h : k < (sectorsP number b).length) (h0 : 0 ≤ number) (h1 : number < 4294967296) (hb : b.length ≤ 3000) : pieceP (sectorsP number b)[k] number k = some (partP b k, ((piecesN b.length : Nat) : Int)) := by
  rw [sectorsP_get h]
  rw [sectorsP_len] at h
  exact pieceP_sect (partP_len b k) h0 h1 h (by have := piecesN_le hb; omega)
theorem more_sect {rd : Int → Sec} {number at' : Int} {b : List UInt8} (h0 : 0 ≤ number) (h1 : number < 4294967296) (hb : b.length ≤ 3000) : ∀ k, k ≤ piecesN b.length → (∀ j (h : j < (sectorsP number b).length), j < k → rd (at' + j) = (sectorsP number b)[j]) →
    moreP rd number at' ((piecesN b.length : Nat) : Int) k = some ((List.range k).map (partP b)).flatten
  | 0, _, _ => rfl
  | k + 1, hk, h => by
    have ih := more_sect h0 h1 hb k (by omega) (fun j hj hj2 => h j hj (by omega))
    have hl : k < (sectorsP number b).length := by rw [sectorsP_len]; omega
    rw [moreP_go ih (by rw [h k hl (by omega)]; exact piece_sect hl h0 h1 hb)]
    simp [List.range_succ]
theorem stands_sect {rd : Int → Sec} {number at' : Int} {b : List UInt8} (h0 : 0 ≤ number) (h1 : number < 4294967296) (hb : b.length ≤ 3000) (h : ∀ j (h : j < (sectorsP number b).length), rd (at' + j) = (sectorsP number b)[j]) : standsP rd number at' = some (b, ((piecesN b.length : Nat) : Int)) := by
  have hl : 0 < (sectorsP number b).length := by rw [sectorsP_len]; exact piecesN_pos _
  have hp : pieceP (rd at') number 0 = some (partP b 0, ((piecesN b.length : Nat) : Int)) := by
    have e := h 0 hl
    rw [show at' + ((0 : Nat) : Int) = at' by omega] at e
    rw [e]; exact piece_sect hl h0 h1 hb
  refine standsP_some hp ?_
  rw [Int.toNat_natCast, more_sect h0 h1 hb _ (Nat.le_refl _) (fun j hj _ => h j hj), parts_all b _ (piecesN_cover _)]
def Shows (rd : Int → Sec) (at' : Int) (l : List Sec) : Prop := ∀ j (h : j < l.length), rd (at' + j) = l[j]
theorem Shows.left {rd : Int → Sec} {at' : Int} {a b : List Sec} (h : Shows rd at' (a ++ b)) : Shows rd at' a := fun j hj => by
  rw [h j (by rw [List.length_append]; omega), List.getElem_append_left hj]
theorem Shows.right {rd : Int → Sec} {at' : Int} {a b : List Sec} (h : Shows rd at' (a ++ b)) : Shows rd (at' + a.length) b := fun j hj => by
  have := h (a.length + j) (by rw [List.length_append]; omega)
  rw [show at' + ((a.length + j : Nat) : Int) = at' + a.length + j by omega] at this
  rw [this, List.getElem_append_right (by omega)]
  congr 1; omega
theorem scan_log {rd : Int → Sec} : ∀ (ls : List (List UInt8)) (n : Nat) (at' : Int) (f : Nat), (∀ b ∈ ls, b.length ≤ 3000) → n + ls.length < 4294967296 → Shows rd at' (flatS n ls) →
    scanP rd (ls.length + f) n at' = (ls ++ (scanP rd f ((n + ls.length : Nat) : Int) (at' + (flatS n ls).length)).1, (scanP rd f ((n + ls.length : Nat) : Int) (at' + (flatS n ls).length)).2)
  | [], n, at', f, _, _, _ => by simp [flatS]
  | b :: ls, n, at', f, hl, hn, h => by
    simp only [flatS] at h ⊢
    simp only [List.length_cons] at hn ⊢
    have hs := stands_sect (rd := rd) (number := ((n + 1 : Nat) : Int)) (at' := at') (by omega) (by omega) (hl b (by simp)) h.left
    have ih := scan_log (rd := rd) ls (n + 1) (at' + (sectorsP ((n + 1 : Nat) : Int) b).length) f (fun x hx => hl x (by simp [hx])) (by omega) h.right
    rw [sectorsP_len] at ih
    rw [show ls.length + 1 + f = (ls.length + f) + 1 by omega, scan_go (b := b) (all := ((piecesN b.length : Nat) : Int)) (by rw [← hs]; congr 1)]
    rw [show ((n : Nat) : Int) + 1 = ((n + 1 : Nat) : Int) by omega, ih]
    rw [List.length_append, sectorsP_len, show n + 1 + ls.length = n + (ls.length + 1) by omega, show at' + ((piecesN b.length + (flatS (n + 1) ls).length : Nat) : Int) = at' + ((piecesN b.length : Nat) : Int) + (((flatS (n + 1) ls).length : Nat) : Int) by omega]
    simp
structure LogD (D : DS) (ls : List (List UInt8)) : Prop where
  ok : D.Ok
  inn : Wal.DS.In D
  ws : D.ws = []
  short : ∀ b ∈ ls, b.length ≤ 3000
  room : sizeS ls ≤ 2048
  shows : Shows D.read 0 (flatS 0 ls)
  zero : ∀ j, ((sizeS ls : Nat) : Int) ≤ j → D.read j = zs
theorem LogD.len {D : DS} {ls : List (List UInt8)} (h : LogD D ls) : ls.length ≤ 2048 := by have := sizeS_ge ls; have := h.room; omega
theorem stands_zs {rd : Int → Sec} {number at' : Int} (h : (rd at').getD 63 0 ≠ 1) : standsP rd number at' = none := standsP_none1 (pieceP_end h)
theorem zs_end : zs.getD 63 0 ≠ 1 := by decide
theorem LogD.scan {D : DS} {ls : List (List UInt8)} (h : LogD D ls) : scanP D.read fuel0 0 0 = (ls, ((sizeS ls : Nat) : Int)) := by
  have hl := h.len
  obtain ⟨f, hf⟩ : ∃ f, fuel0 = ls.length + f := ⟨fuel0 - ls.length, by rw [fuel0_eq]; omega⟩
  have := scan_log (rd := D.read) ls 0 0 f h.short (by omega) h.shows
  rw [← hf] at this
  rw [show ((0 : Nat) : Int) = 0 from rfl] at this
  have hz := h.zero _ (Int.le_refl _)
  simp only [sizeS] at hz
  rw [this, Int.zero_add, scan_stop (stands_zs (by rw [hz]; exact zs_end))]
  simp [sizeS]
theorem LogD.new : LogD DS.new [] := ⟨DS.new_ok, ⟨In.nil, In.nil⟩, rfl, fun _ h => absurd h (by simp), by decide, fun j h => absurd h (by simp [flatS]), fun j _ => rfl⟩
theorem LogD.open {D : DS} {ls : List (List UInt8)} (h : LogD D ls) (ha : D.ar = false) (hd : D.dn = false) : ∃ D', openP D = ⟨0, ls, ((sizeS ls : Nat) : Int), D'⟩ ∧ LogD D' ls ∧ D'.ar = false ∧ D'.dn = false := by
  obtain ⟨D', e, c, hw, hr⟩ := open_calm (D := D) ⟨h.ok, h.inn, ha, hd⟩
  rw [h.scan] at e hr
  have hrd : ∀ j, D'.read j = D.read j := fun j => by
    rw [hr j]
    split
    · rename_i q; rw [h.zero j q.1]
    · rfl
  exact ⟨D', e, ⟨c.ok, c.inn, hw, h.short, h.room, fun j hj => by rw [hrd]; exact h.shows j hj, fun j hj => by rw [hrd]; exact h.zero j hj⟩, c.ar, c.dn⟩
theorem open_log {D : DS} {ls : List (List UInt8)} (h : Calm D) (hs : scanP D.read fuel0 0 0 = (ls, ((sizeS ls : Nat) : Int))) (hsh : ∀ b ∈ ls, b.length ≤ 3000) (hro : sizeS ls ≤ 2048) (hrd : Shows D.read 0 (flatS 0 ls)) : ∃ D', openP D = ⟨0, ls, ((sizeS ls : Nat) : Int), D'⟩ ∧ LogD D' ls ∧ D'.ar = false ∧ D'.dn = false := by
  obtain ⟨D', e, c, hw, hr⟩ := open_calm h
  rw [hs] at e hr
  refine ⟨D', e, ⟨c.ok, c.inn, hw, hsh, hro, fun j hj => ?_, fun j hj => ?_⟩, c.ar, c.dn⟩
  · rw [hr, if_neg (by simp only [sizeS]; omega)]; exact hrd j hj
  · rw [hr]
    by_cases q : j < 2048
    · rw [if_pos ⟨hj, q⟩]
    · rw [if_neg (by omega)]
      exact DS.In.read h.inn (by omega)

/-! ### Put -/
def wsec : Int → List Sec → Secs
  | _, [] => []
  | at', s :: ss => (at', s) :: wsec (at' + 1) ss
theorem wsec_len : ∀ (ss : List Sec) (at' : Int), (wsec at' ss).length = ss.length
  | [], _ => rfl
  | s :: ss, at' => by simp [wsec, wsec_len ss]
theorem wat_wsec : ∀ (ss : List Sec) (at' : Int) (k : Nat) (h : k < ss.length), wat (wsec at' ss) k = (at' + k, ss[k])
  | s :: ss, at', 0, _ => by simp [wsec, wat]
  | s :: ss, at', k + 1, h => by
    have ih := wat_wsec ss (at' + 1) k (by simpa using h)
    simp only [wat, wsec, List.getD_cons_succ] at ih ⊢
    rw [ih]
    simp only [List.getElem_cons_succ, Prod.mk.injEq, and_true]
    omega
theorem padS_full {s : Sec} (h : s.length = 64) : padS s = s := by simp [padS, h]
theorem writes_spec : ∀ (ss : List Sec) (at' : Int) (D : DS), D.Ok → Wal.DS.In D → D.dn = false → 0 ≤ at' → at' + ss.length ≤ 2048 → (∀ s ∈ ss, s.length = 64) →
    ∃ (m : Nat) (D' : DS), m ≤ ss.length ∧ writesP ss at' D = ((if m = ss.length then 0 else 4), D') ∧ D'.Ok ∧ Wal.DS.In D' ∧ D'.s = D.s ∧ D'.ws = D.ws ++ wsec at' (ss.take m) ∧ D'.dn = decide (m < ss.length) ∧ D'.ar = D.ar ∧ (D.ar = false → m = ss.length)
  | [], at', D, h, hi, hd, _, _, _ => ⟨0, D, Nat.le_refl _, rfl, h, hi, rfl, by simp [wsec], by simp [hd], rfl, fun _ => rfl⟩
  | s :: ss, at', D, h, hi, hd, h0, h1, hs => by
    simp only [List.length_cons] at h1
    have hs1 := hs s (by simp)
    by_cases hc : D.ar = true ∧ D.lf = 0
    · have hw := write_down (D := D) (at' := at') (bs := s) (by omega) (by omega) hc
      refine ⟨0, { D with dn := true }, Nat.zero_le _, ?_, ⟨h.s, h.ws, h.lf⟩, hi, rfl, by simp [wsec], by simp, rfl, fun q => by rw [q] at hc; cases hc.1⟩
      rw [writesP, hw]; simp
    · have h4 : D.ar = false ∨ 0 < D.lf := by
        have := h.lf
        cases q : D.ar
        · exact .inl rfl
        · right
          have : D.lf ≠ 0 := fun e => hc ⟨q, e⟩
          omega
      have hw := write_putD (D := D) (at' := at') (bs := s) (by omega) (by omega) hd h4
      obtain ⟨m, D', a1, a2, a3, a4, a5, a6, a7, a8, a9⟩ := writes_spec ss (at' + 1) (putD D at' s) (putD_ok h (by omega) h4) (putD_in hi (by omega)) rfl (by omega) (by omega) (fun x hx => hs x (by simp [hx]))
      refine ⟨m + 1, D', by simp; omega, ?_, a3, a4, a5.trans rfl, ?_, by rw [a7]; simp, a8.trans rfl, fun q => by rw [a9 q]; rfl⟩
      · rw [writesP, hw]
        simp only [if_true, a2, List.length_cons, Nat.add_right_cancel_iff]
      · rw [a6]
        simp only [putD, List.take_succ_cons, wsec, padS_full hs1, List.append_assoc, List.cons_append, List.nil_append]
theorem Shows.append {rd : Int → Sec} {at' : Int} {a b : List Sec} (h : Shows rd at' a) (g : Shows rd (at' + a.length) b) : Shows rd at' (a ++ b) := fun j hj => by
  by_cases q : j < a.length
  · rw [List.getElem_append_left q]; exact h j q
  · rw [List.getElem_append_right (by omega), ← g (j - a.length) (by rw [List.length_append] at hj; omega)]
    congr 1; omega
theorem read_wsec (s : Secs) (l : List Sec) (at' j : Int) : ∀ k, k ≤ l.length → readN s (wsec at' l) j k = if at' ≤ j ∧ j < at' + k then l.getD (j - at').toNat zs else sget s j
  | 0, _ => by rw [if_neg (by omega)]; rfl
  | k + 1, hk => by
    rw [readN, wat_wsec l at' k (by omega), read_wsec s l at' j k (by omega)]
    by_cases q : at' + k = j
    · rw [if_pos q, if_pos (by omega), show (j - at').toNat = k by omega]
      simp [List.getD_eq_getElem?_getD, show k < l.length by omega]
    · rw [if_neg q]
      by_cases q2 : at' ≤ j ∧ j < at' + k
      · rw [if_pos q2, if_pos (by omega)]
      · rw [if_neg q2, if_neg (by omega)]
structure Half (D : DS) (ls : List (List UInt8)) (bs : List UInt8) : Prop where
  ok : D.Ok
  inn : Wal.DS.In D
  short : ∀ b ∈ ls, b.length ≤ 3000
  short' : bs.length ≤ 3000
  room : sizeS ls + piecesN bs.length ≤ 2048
  shows : Shows (sget D.s) 0 (flatS 0 ls)
  zero : ∀ j, ((sizeS ls : Nat) : Int) ≤ j → sget D.s j = zs
  ws : ∃ m, m ≤ piecesN bs.length ∧ D.ws = wsec ((sizeS ls : Nat) : Int) ((sectorsP ((ls.length + 1 : Nat) : Int) bs).take m)
theorem LogD.rds {D : DS} {ls : List (List UInt8)} (h : LogD D ls) (j : Int) : D.read j = sget D.s j := by rw [DS.read, h.ws]; rfl
theorem put_spec {D : DS} {ls : List (List UInt8)} {bs : List UInt8} (h : LogD D ls) (hd : D.dn = false) (hb : bs.length ≤ 3000) :
    (2048 < sizeS ls + piecesN bs.length ∧ putL D ls.length ((sizeS ls : Nat) : Int) bs = ⟨3, ls.length, ((sizeS ls : Nat) : Int), D⟩) ∨
    (sizeS ls + piecesN bs.length ≤ 2048 ∧ ∃ D', putL D ls.length ((sizeS ls : Nat) : Int) bs = ⟨0, ls.length + 1, ((sizeS (ls ++ [bs]) : Nat) : Int), D'⟩ ∧ LogD D' (ls ++ [bs]) ∧ D'.dn = false ∧ D'.ar = D.ar) ∨
    (D.ar = true ∧ ∃ D', putL D ls.length ((sizeS ls : Nat) : Int) bs = ⟨4, ls.length, ((sizeS ls : Nat) : Int), D'⟩ ∧ Half D' ls bs) := by
  have hl := h.len
  have hp := piecesN_le hb
  by_cases hr : 2048 < sizeS ls + piecesN bs.length
  · exact .inl ⟨hr, put_full (by omega) (by omega)⟩
  · right
    have hss : (sectorsP ((ls.length + 1 : Nat) : Int) bs).length = piecesN bs.length := sectorsP_len _ _
    obtain ⟨m, D', a1, a2, a3, a4, a5, a6, a7, a8, a9⟩ := writes_spec (sectorsP ((ls.length + 1 : Nat) : Int) bs) ((sizeS ls : Nat) : Int) D h.ok h.inn hd (by omega) (by rw [hss]; omega) (sectorsP_sec _ _)
    rw [hss] at a1 a2 a7 a9
    rw [h.ws, List.nil_append] at a6
    by_cases hm : m = piecesN bs.length
    · left
      subst hm
      rw [if_pos rfl] at a2
      have hdn : D'.dn = false := by rw [a7]; simp
      obtain ⟨s1, s2, s3, s4, s5⟩ := sync_zero hdn
      rw [List.take_of_length_le (by rw [hss]; exact Nat.le_refl _)] at a6
      have hrd : ∀ j, D'.sync.2.read j = if ((sizeS ls : Nat) : Int) ≤ j ∧ j < ((sizeS ls : Nat) : Int) + piecesN bs.length then (sectorsP ((ls.length + 1 : Nat) : Int) bs).getD (j - ((sizeS ls : Nat) : Int)).toNat zs else D.read j := fun j => by
        rw [sync_read hdn, DS.read, a6, wsec_len, read_wsec _ _ _ _ _ (Nat.le_refl _), hss, a5, h.rds]
      have hsz := sizeS_add ls bs
      refine ⟨by omega, D'.sync.2, ?_, ⟨DS.sync_ok a3, sync_in a4, s2, fun b hb' => ?_, by omega, ?_, fun j hj => ?_⟩, s3, s4.trans a8⟩
      · rw [put_ok (by omega) (by omega) a2 s1, hsz]
        simp only [PutR.mk.injEq, true_and, and_true]
        omega
      · rcases List.mem_append.1 hb' with hb' | hb'
        · exact h.short b hb'
        · simp only [List.mem_singleton] at hb'; subst hb'; exact hb
      · rw [flatS_append]
        refine Shows.append (fun j hj => ?_) fun j hj => ?_
        · rw [hrd, if_neg (by simp only [sizeS]; omega)]; exact h.shows j hj
        · simp only [flatS, List.append_nil, Nat.zero_add] at hj ⊢
          rw [hrd, if_pos (by simp only [sizeS]; rw [hss] at hj; omega), show (0 + (((flatS 0 ls).length : Nat) : Int) + (j : Int) - ((sizeS ls : Nat) : Int)).toNat = j by simp only [sizeS]; omega]
          rw [List.getD_eq_getElem?_getD, List.getElem?_eq_getElem hj]; rfl
      · rw [hrd, if_neg (by omega)]
        exact h.zero j (by omega)
    · right
      have har : D.ar = true := by
        cases q : D.ar
        · exact absurd (a9 q) hm
        · rfl
      rw [if_neg hm] at a2
      refine ⟨har, D', put_fail1 (by omega) (by omega) a2 (by decide), ⟨a3, a4, h.short, hb, by omega, fun j hj => ?_, fun j hj => ?_, m, a1, a6⟩⟩
      · rw [a5, ← h.rds]; exact h.shows j hj
      · rw [a5, ← h.rds]; exact h.zero j hj
/-! ### Crashes -/
theorem LogD.crash {D : DS} {ls : List (List UInt8)} (h : LogD D ls) (mask torn n : Int) : LogD (D.crash mask torn n) ls ∧ (D.crash mask torn n).ar = false ∧ (D.crash mask torn n).dn = false := by
  have hs : (D.crash mask torn n).s = D.s := by simp only [DS.crash, h.ws]; rfl
  have hr : ∀ j, (D.crash mask torn n).read j = D.read j := fun j => by rw [h.rds]; show sget (D.crash mask torn n).s j = _; rw [hs]
  have c := Calm.crash h.ok h.inn mask torn n
  exact ⟨⟨c.ok, c.inn, rfl, h.short, h.room, fun j hj => by rw [hr]; exact h.shows j hj, fun j hj => by rw [hr]; exact h.zero j hj⟩, rfl, rfl⟩
theorem crash_wsec (mask torn : Int) (c : Nat) (s : Secs) (l : List Sec) (at' j : Int) : ∀ k, k ≤ l.length → sget (crashN mask torn c s (wsec at' l) k) j = sget s j ∨ ∃ (i : Nat) (h : i < l.length), j = at' + i ∧ (sget (crashN mask torn c s (wsec at' l) k) j = l[i] ∨ sget (crashN mask torn c s (wsec at' l) k) j = tornS (sget s j) l[i] c)
  | 0, _ => .inl rfl
  | k + 1, hk => by
    have ih := crash_wsec mask torn c s l at' j k (by omega)
    simp only [crashN, crashStep, wat_wsec l at' k (show k < l.length by omega)]
    by_cases q : j = at' + k
    · have ih2 : sget (crashN mask torn c s (wsec at' l) k) (at' + k) = sget s j := by
        subst q
        have : ∀ m, m ≤ k → sget (crashN mask torn c s (wsec at' l) m) (at' + k) = sget s (at' + k) := by
          intro m
          induction m with
          | zero => intro _; rfl
          | succ m ihm =>
            intro hm
            simp only [crashN, crashStep, wat_wsec l at' m (show m < l.length by omega)]
            split
            · rw [sget_put, if_neg (by omega)]; exact ihm (by omega)
            · split
              · rw [sget_put, if_neg (by omega)]; exact ihm (by omega)
              · exact ihm (by omega)
        exact this k (Nat.le_refl _)
      split
      · right
        refine ⟨k, by omega, q, .inr ?_⟩
        rw [sget_put, if_pos q, ih2]
      · split
        · right
          refine ⟨k, by omega, q, .inl ?_⟩
          rw [sget_put, if_pos q]
        · exact ih
    · split
      · rw [sget_put, if_neg q]; exact ih
      · split
        · rw [sget_put, if_neg q]; exact ih
        · exact ih
theorem torn_end {new : Sec} {c : Nat} (hn : new.length = 64) (hc : c ≤ 64) : tornS zs new c = new ∨ (tornS zs new c).getD 63 0 ≠ 1 := by
  by_cases h : c = 64
  · left; subst h
    simp only [tornS]
    rw [List.take_of_length_le (by omega), List.drop_of_length_le (by decide), List.append_nil]
  · right
    simp only [tornS, List.getD_eq_getElem?_getD]
    rw [List.getElem?_append_right (by rw [List.length_take]; omega), List.length_take, Nat.min_eq_left (by omega), List.getElem?_drop, show c + (63 - c) = 63 by omega]
    decide
def Mixed (rd : Int → Sec) (ls : List (List UInt8)) (bs : List UInt8) : Prop := ∀ j, ((sizeS ls : Nat) : Int) ≤ j → rd j = zs ∨ (∃ (i : Nat) (h : i < (sectorsP ((ls.length + 1 : Nat) : Int) bs).length), j = ((sizeS ls : Nat) : Int) + i ∧ rd j = (sectorsP ((ls.length + 1 : Nat) : Int) bs)[i]) ∨ (rd j).getD 63 0 ≠ 1
theorem Half.crash {D : DS} {ls : List (List UInt8)} {bs : List UInt8} (h : Half D ls bs) (mask torn n : Int) : Calm (D.crash mask torn n) ∧ Shows (D.crash mask torn n).read 0 (flatS 0 ls) ∧ Mixed (D.crash mask torn n).read ls bs := by
  obtain ⟨m, hm, hws⟩ := h.ws
  have hss : (sectorsP ((ls.length + 1 : Nat) : Int) bs).length = piecesN bs.length := sectorsP_len _ _
  have hr : ∀ j, (D.crash mask torn n).read j = sget (crashN mask torn (cutN n) D.s (wsec ((sizeS ls : Nat) : Int) ((sectorsP ((ls.length + 1 : Nat) : Int) bs).take m)) ((sectorsP ((ls.length + 1 : Nat) : Int) bs).take m).length) j := fun j => by
    show sget (crashN mask torn (cutN n) D.s D.ws D.ws.length) j = _
    rw [hws, wsec_len]
  refine ⟨Calm.crash h.ok h.inn _ _ _, fun j hj => ?_, fun j hj => ?_⟩
  · rw [hr]
    rcases crash_wsec mask torn (cutN n) D.s ((sectorsP ((ls.length + 1 : Nat) : Int) bs).take m) ((sizeS ls : Nat) : Int) (0 + j) _ (Nat.le_refl _) with e | ⟨i, hi, e, _⟩
    · rw [e]; exact h.shows j hj
    · simp only [sizeS] at e; omega
  · rw [hr]
    rcases crash_wsec mask torn (cutN n) D.s ((sectorsP ((ls.length + 1 : Nat) : Int) bs).take m) ((sizeS ls : Nat) : Int) j _ (Nat.le_refl _) with e | ⟨i, hi, e, e2 | e2⟩
    · left; rw [e]; exact h.zero j hj
    · right; left
      refine ⟨i, by rw [List.length_take] at hi; omega, e, ?_⟩
      rw [e2, List.getElem_take]
    · right
      rw [h.zero j hj, List.getElem_take] at e2
      have hi2 : i < (sectorsP ((ls.length + 1 : Nat) : Int) bs).length := by rw [List.length_take] at hi; omega
      rcases torn_end (new := (sectorsP ((ls.length + 1 : Nat) : Int) bs)[i]) (c := cutN n) (sectorsP_sec _ _ _ (List.getElem_mem _)) (cutN_le n) with q | q
      · left; exact ⟨i, hi2, e, by rw [e2, q]⟩
      · right; rw [e2]; exact q
theorem open_mixed {D : DS} {ls : List (List UInt8)} {bs : List UInt8} (h : Calm D) (hsh : ∀ b ∈ ls, b.length ≤ 3000) (hb : bs.length ≤ 3000) (hro : sizeS ls + piecesN bs.length ≤ 2048) (hs : Shows D.read 0 (flatS 0 ls)) (hm : Mixed D.read ls bs) :
    ∃ D' ls', (ls' = ls ∨ ls' = ls ++ [bs]) ∧ openP D = ⟨0, ls', ((sizeS ls' : Nat) : Int), D'⟩ ∧ LogD D' ls' ∧ D'.ar = false ∧ D'.dn = false := by
  have hge := sizeS_ge ls
  have hpl := piecesN_le hb
  have hpp := piecesN_pos bs.length
  have hss : (sectorsP ((ls.length + 1 : Nat) : Int) bs).length = piecesN bs.length := sectorsP_len _ _
  obtain ⟨f, hf⟩ : ∃ f, fuel0 = ls.length + (f + 1) := ⟨fuel0 - ls.length - 1, by rw [fuel0_eq]; omega⟩
  have sc := scan_log (rd := D.read) ls 0 0 (f + 1) hsh (by omega) hs
  rw [← hf, show ((0 : Nat) : Int) = 0 from rfl, Int.zero_add, Nat.zero_add, show (((flatS 0 ls).length : Nat) : Int) = ((sizeS ls : Nat) : Int) from rfl] at sc
  cases hst : standsP D.read (((ls.length : Nat) : Int) + 1) ((sizeS ls : Nat) : Int) with
  | none =>
    rw [scan_stop hst] at sc
    obtain ⟨D', r1, r2⟩ := open_log h (by simpa using sc) hsh (by omega) hs
    exact ⟨D', ls, .inl rfl, r1, r2⟩
  | some p =>
    obtain ⟨b, all⟩ := p
    obtain ⟨f1, f2, f3⟩ := standsP_facts (DS.read_len h.ok _) hst
    have pick : ∀ (k : Nat) (hk : (k : Int) < all), ∃ hk2 : k < (sectorsP ((ls.length + 1 : Nat) : Int) bs).length, D.read (((sizeS ls : Nat) : Int) + k) = (sectorsP ((ls.length + 1 : Nat) : Int) bs)[k] := fun k hk => by
      obtain ⟨x, hx⟩ := f3 k hk
      rcases hm (((sizeS ls : Nat) : Int) + k) (by omega) with q | ⟨i, hi, e, q⟩ | q
      · rw [q, pieceP_zs] at hx; cases hx
      · obtain rfl : i = k := by omega
        exact ⟨hi, q⟩
      · rw [pieceP_end q] at hx; cases hx
    obtain ⟨h00, e00⟩ := pick 0 f1
    obtain ⟨x0, hx0⟩ := f3 0 f1
    rw [e00, show (((ls.length : Nat) : Int) + 1) = ((ls.length + 1 : Nat) : Int) by omega, piece_sect h00 (by omega) (by omega) hb] at hx0
    injection hx0 with hx0
    simp only [Prod.mk.injEq] at hx0
    have hall : all = ((piecesN bs.length : Nat) : Int) := hx0.2.symm
    have hst2 := stands_sect (rd := D.read) (number := ((ls.length + 1 : Nat) : Int)) (at' := ((sizeS ls : Nat) : Int)) (b := bs) (by omega) (by omega) hb (fun j hj => (pick j (by rw [hall]; rw [hss] at hj; omega)).2)
    rw [show ((ls.length + 1 : Nat) : Int) = ((ls.length : Nat) : Int) + 1 by omega] at hst2
    rw [scan_go hst2] at sc
    have hst3 : standsP D.read (((ls.length : Nat) : Int) + 1 + 1) (((sizeS ls : Nat) : Int) + ((piecesN bs.length : Nat) : Int)) = none := by
      refine stands_zs ?_
      rcases hm (((sizeS ls : Nat) : Int) + ((piecesN bs.length : Nat) : Int)) (by omega) with q | ⟨i, hi, e, _⟩ | q
      · rw [q]; exact zs_end
      · rw [hss] at hi; omega
      · exact q
    rw [scan_stop hst3] at sc
    have hsz := sizeS_add ls bs
    have sc2 : scanP D.read fuel0 0 0 = (ls ++ [bs], ((sizeS (ls ++ [bs]) : Nat) : Int)) := by
      rw [sc, hsz]; simp
    have hsh2 : Shows D.read 0 (flatS 0 (ls ++ [bs])) := by
      rw [flatS_append]
      refine Shows.append hs fun j hj => ?_
      simp only [flatS, List.append_nil, Nat.zero_add] at hj ⊢
      have := (pick j (by rw [hall]; rw [hss] at hj; omega)).2
      rw [← this]
      congr 1
      simp only [sizeS]; omega
    obtain ⟨D', r1, r2⟩ := open_log h sc2 (fun b hb' => by
      rcases List.mem_append.1 hb' with hb' | hb'
      · exact hsh b hb'
      · simp only [List.mem_singleton] at hb'; subst hb'; exact hb) (by omega) hsh2
    exact ⟨D', ls ++ [bs], .inr rfl, r1, r2⟩
end Wal
end

section
namespace Go.Proofs.YtobdfjdoilnfcaaGreat

open Go Leg Codec Api

set_option maxRecDepth 100000

theorem wnum_cells (wb b off cap : Nat) (v : Value) (bs : List UInt8) (l : List Int) (cs : List Value) (T : TypeId) (z : Nat × Nat) (hlen : bs.length + 10 * l.length ≤ 140737488355328) (hb : ∀ j, j < l.length → cs[off + j]? = some (.int .i64 (l.getD j 0))) :
    Leg.Does Tryz.prog 160 #[(.pointer (some ⟨wb, 0, none⟩)), (.slice (some ⟨b, off, none⟩) (l.length) (cap))] (fun F => F b = some (.cells cs.toArray T z)) [blkA wb [v] 224, ownB v (bs) 5] (WPost 224 5 wb (bs ++ encs l)) := by
 refine Leg.Does.body (n := 45) Tryz.func160 rfl rfl rfl (fun w0 F hF => ?_)
 refine sr fun _ J1 => ?_
 refine PS ?_
 refine nx J1 ?_
 refine TC.seq fun _ J2 => ?_
 refine sr fun _ J3 => ?_
 refine PS ?_
 refine tp (PV.lenSl rfl Tryz.underlying50 rfl) ?_
 refine PS ?_
 refine nx J3 ?_
 refine TC.block ?_
 refine TC.loop (α := (Nat) × (Value) × (List UInt8)) (fun ⟨k, u, laid⟩ => k ≤ l.length ∧ laid ++ encs (l.drop k) = bs ++ encs l) (fun ⟨k, u, laid⟩ => [(0, (.pointer (some ⟨wb, 0, none⟩))), (4, (.pointer none)), (8, (.slice (some ⟨b, off, none⟩) (l.length) (cap))), (9, (.int .i64 (((l.length : Nat) : Int)))), (10, (.int .i64 ((k : Nat))))]) (fun ⟨k, u, laid⟩ => [blkA wb [u] 224, ownB u (laid) 5]) (fun ⟨k, u, laid⟩ => l.length - k) (0, v, bs)
     ⟨by omega, rfl⟩ (Sub.r (Sub.r (Sub.r (Sub.r (Sub.cons rfl (by congr 1) (Sub.nil _))))))
     (fun _ s => s) (fun ⟨k, u, laid⟩ hinv => ?_)
 obtain ⟨hk, hL⟩ := hinv
 refine sr fun _ J4 => ?_
 refine PS ?_
 refine TL.dec (fun h11 => ?_) (fun h11 => ?_)
 refine nx J4 ?_
 refine TC.seq fun _ J5 => ?_
 refine CY ?_
 refine CX J5 ?_
 refine TC.seq fun _ J6 => ?_
 refine TC.block ?_
 refine sr fun _ J7 => ?_
 refine tp (PV.indexSl (r := off + k) rfl Tryz.underlying50 sz3 rfl rfl (by first | omega | decide) (by first | omega | decide) (by omega)) ?_
 refine tp (PV.load1 (v := (.int .i64 ((l.getD k 0)))) rfl Tryz.underlying3 rfl rfl (Rd.ro hF) (hb k (by omega))) ?_
 refine PS ?_
 refine nx J7 (sr fun _ J8 => ?_)
 refine PS ?_
 refine tp (PV.convI (r := ((((l.getD k 0 % 18446744073709551616).toNat : Nat)) : Int)) rfl Tryz.underlying3 Tryz.underlying236 rfl (wrap_u64_nat _)) ?_
 refine PS ?_
 refine nx J8 ?_
 refine TC.seq fun _ J9 => ?_
 refine TC.block ?_
 refine TC.loop (α := (Nat) × (Value) × (List UInt8)) (fun ⟨m, u2, laid2⟩ => laid2 ++ (encU m ++ encs (l.drop (k + 1))) = bs ++ encs l) (fun ⟨m, u2, laid2⟩ => [(0, (.pointer (some ⟨wb, 0, none⟩))), (4, (.pointer none)), (7, (.int .u64 ((m : Nat)))), (8, (.slice (some ⟨b, off, none⟩) (l.length) (cap))), (9, (.int .i64 (((l.length : Nat) : Int)))), (10, (.int .i64 ((k : Nat))))]) (fun ⟨m, u2, laid2⟩ => [blkA wb [u2] 224, ownB u2 (laid2) 5]) (fun ⟨m, u2, laid2⟩ => m) ((l.getD k 0 % 18446744073709551616).toNat, u, laid)
     (by rw [← hL, encs_drop (l := l) (k := k) (by omega)]; rfl) (Sub.r (Sub.r (Sub.cons rfl (by congr 1) (Sub.r (Sub.r (Sub.r (Sub.nil _)))))))
     (fun _ s => s) (fun ⟨m, u2, laid2⟩ hinv => ?_)
 have hM := hinv
 refine TC.seq fun _ J10 => ?_
 refine sr fun _ J11 => ?_
 refine PS ?_
 refine PS ?_
 refine TL.dec (fun h17 => ?_) (fun h17 => ?_)
 refine nx J11 ?_
 refine CY ?_
 refine CX J10 ?_
 refine TC.block ?_
 refine sr fun _ J12 => ?_
 refine PS ?_
 refine PS ?_
 refine PS ?_
 refine FA 0 Tryz.underlying224 sz72 ?_
 refine LA 0 Tryz.underlying72 ?_
 refine PS ?_
 refine tp (PV.convI (r := (IntKind.u8.wrap ((m : Nat) : Int))) rfl Tryz.underlying236 Tryz.underlying5 rfl rfl) ?_
 refine tp (PV.or (r := (((UInt8.ofNat (m % 128 + 128)).toNat : Nat) : Int)) rfl rfl rfl (or128 m)) ?_
 refine TL.buildSlice (cells := #[(.int .u8 ((((UInt8.ofNat (m % 128 + 128)).toNat : Nat) : Int)))]) (Want.plain rfl) rfl rfl rfl Tryz.underlying72 in5 rfl rfl rfl (by as_aux_lemma => kernel_rfl) (fun b26 => ?_)
 refine TL.append (k := 2) (news := u8s ([(UInt8.ofNat (m % 128 + 128))])) (nn' := (laid2 ++ [(UInt8.ofNat (m % 128 + 128))] : List UInt8).length) (xs' := u8s (laid2 ++ [(UInt8.ofNat (m % 128 + 128))])) (Want.plain rfl) rfl rfl rfl Tryz.underlying72 in5 rfl rfl rfl rfl rfl rfl (fun _ _ => Src.rd rfl (RO 0) rfl) (u8s_one [(UInt8.ofNat (m % 128 + 128))]) (by have := congrArg List.length hM; have := encs_len l; have := encU_pos m; simp only [List.length_append, maxLen] at *; omega) (by have := congrArg List.length hM; have := encs_len l; have := encU_pos m; simp only [List.length_append] at *; omega) (by simp) (u8s_append _ _).symm (fun v27 ov27 => ?_)
 refine PS ?_
 refine FA 0 Tryz.underlying224 sz72 ?_
 refine TL.store1 (i := 1) (Want.plain rfl) rfl rfl rfl rfl ov27 sz72 rfl rfl (lb rfl) rfl rfl ?_
 refine nx J12 ?_
 refine TC.region ?_
 refine PS ?_
 refine tp (PV.shr (r := ((m / 128 : Nat) : Int)) rfl rfl rfl (by omega) (shr7 m)) ?_
 refine PS ?_
 refine TL.nil ?_
 refine TE.blockEnd ?_
 exact TE.round ((m / 128, v27, laid2 ++ [(UInt8.ofNat (m % 128 + 128))]) : (Nat) × (Value) × (List UInt8)) (by rw [← hM, encU_hi (by omega)]; simp) (by show m / 128 < m; omega)
   (Sub.r (Sub.r (Sub.r (Sub.r (Sub.r (Sub.r (Sub.nil _)))))))
   (fun _ s => sep_keep [1, 1] rfl s)
 refine nx J11 ?_
 refine CN ?_
 refine TC.exit ?_
 refine TE.pass ?_
 refine TE.pass ?_
 refine TE.hit ?_
 refine TE.next J9 ?_
 refine TC.region ?_
 refine PS ?_
 refine PS ?_
 refine PS ?_
 refine FA 0 Tryz.underlying224 sz72 ?_
 refine LA 0 Tryz.underlying72 ?_
 refine PS ?_
 refine tp (PV.convI (r := (((UInt8.ofNat m).toNat : Nat) : Int)) rfl Tryz.underlying236 Tryz.underlying5 rfl (byte_lo (by omega))) ?_
 refine TL.buildSlice (cells := #[(.int .u8 ((((UInt8.ofNat m).toNat : Nat) : Int)))]) (Want.plain rfl) rfl rfl rfl Tryz.underlying72 in5 rfl rfl rfl (by as_aux_lemma => kernel_rfl) (fun b39 => ?_)
 refine TL.append (k := 2) (news := u8s ([(UInt8.ofNat m)])) (nn' := (laid2 ++ [(UInt8.ofNat m)] : List UInt8).length) (xs' := u8s (laid2 ++ [(UInt8.ofNat m)])) (Want.plain rfl) rfl rfl rfl Tryz.underlying72 in5 rfl rfl rfl rfl rfl rfl (fun _ _ => Src.rd rfl (RO 0) rfl) (u8s_one [(UInt8.ofNat m)]) (by have := congrArg List.length hM; have := encs_len l; have := encU_pos m; simp only [List.length_append, maxLen] at *; omega) (by have := congrArg List.length hM; have := encs_len l; have := encU_pos m; simp only [List.length_append] at *; omega) (by simp) (u8s_append _ _).symm (fun v40 ov40 => ?_)
 refine PS ?_
 refine FA 0 Tryz.underlying224 sz72 ?_
 refine TL.store1 (i := 1) (Want.plain rfl) rfl rfl rfl rfl ov40 sz72 rfl rfl (lb rfl) rfl rfl ?_
 refine TL.nil ?_
 refine TE.blockEnd ?_
 refine TE.next J6 ?_
 refine TC.region ?_
 refine tp (PV.add rfl rfl rfl (wrap_i64 (by omega) (by omega))) ?_
 refine PS ?_
 refine TL.nil ?_
 exact TE.round ((k + 1, v40, laid2 ++ [(UInt8.ofNat m)]) : (Nat) × (Value) × (List UInt8)) ⟨by omega, by rw [← hM, encU_lo (by omega)]; simp⟩ (by show _ - _ < _ - _; omega)
   (Sub.r (Sub.r (Sub.r (Sub.r (Sub.r (Sub.nil _))))))
   (fun _ s => sep_keep [1, 1] rfl s)
 refine nx J4 ?_
 refine TC.seq fun _ J13 => ?_
 refine CN ?_
 refine TC.exit ?_
 refine TE.pass ?_
 refine TE.pass ?_
 refine TE.hit ?_
 refine TE.next J2 ?_
 refine sr fun _ J14 => ?_
 refine PS ?_
 refine PS ?_
 refine nx J14 ?_
 refine TC.ret ?_
 refine WK [0, 0] ?_
 refine TE.ret1 rfl rfl ?_
 obtain rfl : laid = bs ++ encs l := by rw [← hL, List.drop_eq_nil_of_le (by omega)]; simp [encs]
 exact ⟨u, rfl, rfl⟩
theorem wnum_nil (wb : Nat) (v : Value) (bs : List UInt8) :
    Leg.Does Tryz.prog 160 #[(.pointer (some ⟨wb, 0, none⟩)), (.slice none 0 0)] (fun _ => True) [blkA wb [v] 224, ownB v (bs) 5] (WPost 224 5 wb (bs ++ encs [])) := by
 refine Leg.Does.body (n := 45) Tryz.func160 rfl rfl rfl (fun w0 F hF => ?_)
 refine sr fun _ J1 => ?_
 refine PS ?_
 refine nx J1 ?_
 refine TC.seq fun _ J2 => ?_
 refine sr fun _ J3 => ?_
 refine PS ?_
 refine tp (PV.lenSl rfl Tryz.underlying50 rfl) ?_
 refine PS ?_
 refine nx J3 ?_
 refine TC.block ?_
 refine TC.loop (α := Unit) (fun _u => True) (fun _u => [(0, (.pointer (some ⟨wb, 0, none⟩))), (4, (.pointer none)), (8, (.slice none 0 0)), (9, (.int .i64 0)), (10, (.int .i64 0))]) (fun _u => [blkA wb [v] 224, ownB v (bs) 5]) (fun _u => 0) ()
     trivial (Sub.r (Sub.r (Sub.r (Sub.r (Sub.r (Sub.nil _))))))
     (fun _ s => s) (fun _u hinv => ?_)
 obtain _ := hinv
 refine sr fun _ J4 => ?_
 refine PS ?_
 refine nx J4 ?_
 refine TC.seq fun _ J5 => ?_
 refine CN ?_
 refine TC.exit ?_
 refine TE.pass ?_
 refine TE.pass ?_
 refine TE.hit ?_
 refine TE.next J2 ?_
 refine sr fun _ J6 => ?_
 refine PS ?_
 refine PS ?_
 refine nx J6 ?_
 refine TC.ret ?_
 refine TE.ret1 rfl rfl ?_
 exact ⟨v, rfl, by rw [encs_nil, List.append_nil]⟩
theorem wnum_does (wb : Nat) (v : Value) (bs : List UInt8) (x : Value) (l : List Int) (hlen : bs.length + 10 * l.length ≤ 140737488355328) : Leg.Does Tryz.prog 160 #[(.pointer (some ⟨wb, 0, none⟩)), x] (IsN x l) [blkA wb [v] 224, ownB v bs 5] (WPost 224 5 wb (bs ++ encs l)) := by
  refine Leg.Does.of fun F hF => ?_
  rcases id hF with ⟨rfl, rfl⟩ | ⟨b, off, cap, cs, T, z, rfl, h3, h4⟩
  · exact ⟨_, trivial, wnum_nil wb v bs⟩
  · exact ⟨_, h3, wnum_cells wb b off cap v bs l cs T z hlen h4⟩

theorem wbytes_does (wb : Nat) (v : Value) (bs : List UInt8) (hlen : bs.length ≤ 140737488355328) :
    Leg.Does Tryz.prog 165 #[(.pointer (some ⟨wb, 0, none⟩))] (fun _ => True) [blkA wb [v] 224, ownB v (bs) 5] (Ret (fun x H => ∃ u, x = u ∧ H = [blkA wb [v] 224, ownB v bs 5, ownB u bs 5])) := by
 refine Leg.Does.body (vs := [(.pointer (some ⟨wb, 0, none⟩))]) (n := 9) Tryz.func165 rfl rfl rfl (fun w0 F hF => ?_)
 refine sr fun _ J1 => ?_
 refine sg' ?_
 refine nx J1 ?_
 refine sr fun _ J2 => ?_
 refine TL.buildSlice0 (Want.plain rfl) rfl rfl rfl Tryz.underlying72 sz5 (fun v3 => ?_)
 change TL _ _ _ _ _ _ _ _ _ [ownB v3 ([]) 5, blkA wb [v] 224, ownB v (bs) 5]
 refine mv ?_
 refine tp (PV.nilCheck rfl rfl) ?_
 refine tp (PV.fieldAddr (r := 0) rfl Tryz.underlying224 rfl sz72 rfl rfl) ?_
 refine tp (PV.load1 (v := v) rfl Tryz.underlying72 rfl rfl (Rd.own 1 rfl rfl) rfl) ?_
 refine TL.append (k := 0) (news := u8s (bs)) (nn' := (bs : List UInt8).length) (xs' := u8s (bs)) (Want.plain rfl) rfl rfl rfl Tryz.underlying72 in5 rfl rfl rfl rfl rfl rfl (fun _ s => Src.own 2 rfl rfl s) (u8s_one _) (by simp only [maxLen, List.length_cons, List.length_nil]; omega) (by simp only [List.length_cons, List.length_nil]; omega) (by simp) (List.nil_append _) (fun v8 ov8 => ?_)
 change TL _ _ _ _ _ _ _ _ _ [ownB v8 (bs) 5, blkA wb [v] 224, ownB v (bs) 5]
 refine sg' ?_
 refine nx J2 ?_
 refine TC.ret ?_
 refine TE.weak (Sub.refl _) (fun _ s => sep_keep [1, 1, 0] rfl s) ?_
 refine TE.ret1 rfl rfl ?_
 exact ⟨v8, rfl, rfl⟩
theorem wview_cells (wb : Nat) (v : Value) (bs : List UInt8) (a0 a1 g0 g1 g2 g3 g4 : Int) (hlen : bs.length + 70 ≤ 140737488355328) :
    Leg.Does Tryz.prog 164 #[(.pointer (some ⟨wb, 0, none⟩)), (.agg #[(.int .i64 (a0)), (.int .i64 (a1)), (.int .i64 (g0)), (.int .i64 (g1)), (.int .i64 (g2)), (.int .i64 (g3)), (.int .i64 (g4))])] (fun _ => True) [blkA wb [v] 224, ownB v (bs) 5] (WPost 224 5 wb (bs ++ encs [a0, a1, g0, g1, g2, g3, g4])) := by
 refine Leg.Does.body (n := 15) Tryz.func164 rfl rfl rfl (fun w0 F hF => ?_)
 refine sr fun _ J1 => ?_
 refine TL.box (Want.plain rfl) rfl rfl rfl rfl (fun b3 => ?_)
 refine PS ?_
 refine nx J1 ?_
 refine TC.seq fun _ J2 => ?_
 refine D1 0 mixed ?_
 refine PD 0 ?_
 refine FD 1 0 Tryz.underlying44 sz3 ?_
 refine ta 2 rfl (PV.load1 (v := (.int .i64 (a0))) rfl Tryz.underlying3 rfl rfl (fun _ h => h.2.1) rfl) ?_
 refine FD 3 1 Tryz.underlying44 sz3 ?_
 refine ta 4 rfl (PV.load1 (v := (.int .i64 (a1))) rfl Tryz.underlying3 rfl rfl (fun _ h => h.2.1) rfl) ?_
 refine FD 7 2 Tryz.underlying44 sz42 ?_
 refine ta 8 rfl (PV.sliceArr rfl Tryz.underlying42 sz3 rfl) ?_
 refine TD.all [5] (by kernel_rfl) rfl ?_
 refine AllT.cons rfl ?_ ?_
 refine TL.buildSlice (cells := #[(.int .i64 (a0)), (.int .i64 (a1))]) (Want.plain rfl) rfl rfl rfl Tryz.underlying50 in3 rfl rfl rfl (by as_aux_lemma => kernel_rfl) (fun b10 => ?_)
 refine TL.nil ?_
 refine E1 1 ?_
 refine TD.all [6] (by kernel_rfl) rfl ?_
 refine AllT.cons rfl ?_ ?_
 refine CQ nm160 (wnum_does wb v (bs) (.slice (some ⟨b10, 0, none⟩) (2) (2)) [a0, a1] (by simp only [List.length_append, List.length_cons, List.length_nil, Vector.length_toList]; first | omega | (have := encs_len [a0, a1]; simp only [List.length_cons, List.length_nil] at this; omega))) (SM [2, 2]) (isN_piece 0 rfl rfl rfl rfl) fun vR HR hR => ?_
 obtain ⟨u1, rfl, rfl⟩ := hR
 refine TL.nil ?_
 refine E1 3 ?_
 refine TD.all [9] (by kernel_rfl) rfl ?_
 refine AllT.cons rfl ?_ ?_
 refine CQ nm160 (wnum_does wb u1 (bs ++ encs [a0, a1]) (.slice (some ⟨b3, 2, none⟩) (5) (5)) [g0, g1, g2, g3, g4] (by simp only [List.length_append, List.length_cons, List.length_nil, Vector.length_toList]; first | omega | (have := encs_len [a0, a1]; simp only [List.length_cons, List.length_nil] at this; omega))) (fun _ s => s) (isN_piece 1 rfl rfl rfl rfl) fun vR HR hR => ?_
 obtain ⟨u2, rfl, rfl⟩ := hR
 refine TL.nil ?_
 refine E1 3 ?_
 refine PD 10 ?_
 refine TD.done (by kernel_rfl) ?_
 refine TE.next J2 ?_
 refine TC.ret ?_
 refine WK [0, 0] ?_
 refine TE.ret1 rfl rfl ?_
 exact ⟨_, rfl, by rw [List.append_assoc, ← encs_append]; rfl⟩
 exact AllT.nil
 exact AllT.nil
 exact AllT.nil
theorem wchange_cells (wb : Nat) (v : Value) (bs : List UInt8) (a0 a1 a2 : Int) (hlen : bs.length + 30 ≤ 140737488355328) :
    Leg.Does Tryz.prog 163 #[(.pointer (some ⟨wb, 0, none⟩)), (.agg #[(.int .i64 (a0)), (.int .i64 (a1)), (.int .i64 (a2))])] (fun _ => True) [blkA wb [v] 224, ownB v (bs) 5] (WPost 224 5 wb (bs ++ encs [a0, a1, a2])) := by
 refine Leg.Does.body (n := 14) Tryz.func163 rfl rfl rfl (fun w0 F hF => ?_)
 refine sr fun _ J1 => ?_
 refine TL.box (Want.plain rfl) rfl rfl rfl rfl (fun b3 => ?_)
 refine PS ?_
 refine nx J1 (sr fun _ J2 => ?_)
 refine PS ?_
 refine FA 0 Tryz.underlying28 sz3 ?_
 refine LA 0 Tryz.underlying3 ?_
 refine FA 1 Tryz.underlying28 sz3 ?_
 refine LA 0 Tryz.underlying3 ?_
 refine FA 2 Tryz.underlying28 sz3 ?_
 refine LA 0 Tryz.underlying3 ?_
 refine TL.buildSlice (cells := #[(.int .i64 (a0)), (.int .i64 (a1)), (.int .i64 (a2))]) (Want.plain rfl) rfl rfl rfl Tryz.underlying50 in3 rfl rfl rfl (by as_aux_lemma => kernel_rfl) (fun b12 => ?_)
 refine CQ nm160 (wnum_does wb v (bs) (.slice (some ⟨b12, 0, none⟩) (3) (3)) [a0, a1, a2] (by simp only [List.length_append, List.length_cons, List.length_nil, Vector.length_toList]; first | omega | (have := encs_len [a0, a1]; simp only [List.length_cons, List.length_nil] at this; omega))) (SM [2, 2]) (isN_piece 0 rfl rfl rfl rfl) fun vR HR hR => ?_
 obtain ⟨u1, rfl, rfl⟩ := hR
 refine PS ?_
 refine nx J2 ?_
 refine TC.ret ?_
 refine WK [0, 0] ?_
 refine TE.ret1 rfl rfl ?_
 exact ⟨_, rfl, rfl⟩
theorem wballot_cells (wb : Nat) (v : Value) (bs : List UInt8) (a0 a1 : Int) (hlen : bs.length + 20 ≤ 140737488355328) :
    Leg.Does Tryz.prog 162 #[(.pointer (some ⟨wb, 0, none⟩)), (.agg #[(.int .i64 (a0)), (.int .i64 (a1))])] (fun _ => True) [blkA wb [v] 224, ownB v (bs) 5] (WPost 224 5 wb (bs ++ encs [a0, a1])) := by
 refine Leg.Does.body (n := 12) Tryz.func162 rfl rfl rfl (fun w0 F hF => ?_)
 refine sr fun _ J1 => ?_
 refine TL.box (Want.plain rfl) rfl rfl rfl rfl (fun b3 => ?_)
 refine PS ?_
 refine nx J1 (sr fun _ J2 => ?_)
 refine PS ?_
 refine FA 0 Tryz.underlying95 sz3 ?_
 refine LA 0 Tryz.underlying3 ?_
 refine FA 1 Tryz.underlying95 sz3 ?_
 refine LA 0 Tryz.underlying3 ?_
 refine TL.buildSlice (cells := #[(.int .i64 (a0)), (.int .i64 (a1))]) (Want.plain rfl) rfl rfl rfl Tryz.underlying50 in3 rfl rfl rfl (by as_aux_lemma => kernel_rfl) (fun b10 => ?_)
 refine CQ nm160 (wnum_does wb v (bs) (.slice (some ⟨b10, 0, none⟩) (2) (2)) [a0, a1] (by simp only [List.length_append, List.length_cons, List.length_nil, Vector.length_toList]; first | omega | (have := encs_len [a0, a1]; simp only [List.length_cons, List.length_nil] at this; omega))) (SM [2, 2]) (isN_piece 0 rfl rfl rfl rfl) fun vR HR hR => ?_
 obtain ⟨u1, rfl, rfl⟩ := hR
 refine PS ?_
 refine nx J2 ?_
 refine TC.ret ?_
 refine WK [0, 0] ?_
 refine TE.ret1 rfl rfl ?_
 exact ⟨_, rfl, rfl⟩
theorem wcell_cells (wb : Nat) (v : Value) (bs : List UInt8) (a0 a1 g0 g1 g2 g3 g4 : Int) (hlen : bs.length + 70 ≤ 140737488355328) :
    Leg.Does Tryz.prog 171 #[(.pointer (some ⟨wb, 0, none⟩)), (.agg #[(.int .i64 (a0)), (.int .i64 (a1)), (.int .i64 (g0)), (.int .i64 (g1)), (.int .i64 (g2)), (.int .i64 (g3)), (.int .i64 (g4))])] (fun _ => True) [blkA wb [v] 224, ownB v (bs) 5] (Ret (fun x H => ∃ v', x = .tuple #[] ∧ H = [blkA wb [v'] 224, ownB v' (bs ++ encs [a0, a1, g0, g1, g2, g3, g4]) 5])) := by
 refine Leg.Does.body (n := 14) Tryz.func171 rfl rfl rfl (fun w0 F hF => ?_)
 refine sr fun _ J1 => ?_
 refine TL.box (Want.plain rfl) rfl rfl rfl rfl (fun b3 => ?_)
 refine nx J1 ?_
 refine D1 0 mixed ?_
 refine PD 0 ?_
 refine FD 1 0 Tryz.underlying60 sz3 ?_
 refine ta 2 rfl (PV.load1 (v := (.int .i64 (a0))) rfl Tryz.underlying3 rfl rfl (fun _ h => h.2.1) rfl) ?_
 refine FD 3 1 Tryz.underlying60 sz3 ?_
 refine ta 4 rfl (PV.load1 (v := (.int .i64 (a1))) rfl Tryz.underlying3 rfl rfl (fun _ h => h.2.1) rfl) ?_
 refine FD 7 2 Tryz.underlying60 sz42 ?_
 refine ta 8 rfl (PV.sliceArr rfl Tryz.underlying42 sz3 rfl) ?_
 refine TD.all [5] (by kernel_rfl) rfl ?_
 refine AllT.cons rfl ?_ ?_
 refine TL.buildSlice (cells := #[(.int .i64 (a0)), (.int .i64 (a1))]) (Want.plain rfl) rfl rfl rfl Tryz.underlying50 in3 rfl rfl rfl (by as_aux_lemma => kernel_rfl) (fun b9 => ?_)
 refine TL.nil ?_
 refine E1 1 ?_
 refine TD.all [6] (by kernel_rfl) rfl ?_
 refine AllT.cons rfl ?_ ?_
 refine CQ nm160 (wnum_does wb v (bs) (.slice (some ⟨b9, 0, none⟩) (2) (2)) [a0, a1] (by simp only [List.length_append, List.length_cons, List.length_nil, Vector.length_toList]; first | omega | (have := encs_len [a0, a1]; simp only [List.length_cons, List.length_nil] at this; omega))) (SM [2, 2]) (isN_piece 0 rfl rfl rfl rfl) fun vR HR hR => ?_
 obtain ⟨u1, rfl, rfl⟩ := hR
 refine TL.nil ?_
 refine E1 3 ?_
 refine TD.all [9] (by kernel_rfl) rfl ?_
 refine AllT.cons rfl ?_ ?_
 refine CQ nm160 (wnum_does wb u1 (bs ++ encs [a0, a1]) (.slice (some ⟨b3, 2, none⟩) (5) (5)) [g0, g1, g2, g3, g4] (by simp only [List.length_append, List.length_cons, List.length_nil, Vector.length_toList]; first | omega | (have := encs_len [a0, a1]; simp only [List.length_cons, List.length_nil] at this; omega))) (fun _ s => s) (isN_piece 1 rfl rfl rfl rfl) fun vR HR hR => ?_
 obtain ⟨u2, rfl, rfl⟩ := hR
 refine TL.nil ?_
 refine E1 3 ?_
 refine TD.done (by kernel_rfl) ?_
 refine WK [0, 0] ?_
 refine TE.end0 rfl ?_
 exact ⟨_, rfl, by rw [List.append_assoc, ← encs_append]; rfl⟩
 exact AllT.nil
 exact AllT.nil
 exact AllT.nil
theorem wcell_does (wb : Nat) (v : Value) (bs : List UInt8) (c : CellT) (hlen : bs.length + 70 ≤ 140737488355328) : Leg.Does Tryz.prog 171 #[(.pointer (some ⟨wb, 0, none⟩)), c.val] (fun _ => True) [blkA wb [v] 224, ownB v bs 5] (Ret (fun x H => ∃ v', x = .tuple #[] ∧ H = [blkA wb [v'] 224, ownB v' (bs ++ encs c.flat) 5])) := by
  obtain ⟨i, o, g⟩ := c
  exact vec5 (p := fun g => Leg.Does Tryz.prog 171 #[(.pointer (some ⟨wb, 0, none⟩)), CellT.val ⟨i, o, g⟩] (fun _ => True) [blkA wb [v] 224, ownB v bs 5] (Ret (fun x H => ∃ v', x = .tuple #[] ∧ H = [blkA wb [v'] 224, ownB v' (bs ++ encs (CellT.flat ⟨i, o, g⟩)) 5]))) (fun a b c d e => wcell_cells wb v bs i o a b c d e hlen) g

theorem wview_does (wb : Nat) (v : Value) (bs : List UInt8) (x : ViewT) (hlen : bs.length + 70 ≤ 140737488355328) : Leg.Does Tryz.prog 164 #[(.pointer (some ⟨wb, 0, none⟩)), x.val] (fun _ => True) [blkA wb [v] 224, ownB v bs 5] (WPost 224 5 wb (bs ++ encs x.flat)) := by
  obtain ⟨i, o, g⟩ := x
  exact vec5 (p := fun g => Leg.Does Tryz.prog 164 #[(.pointer (some ⟨wb, 0, none⟩)), ViewT.val ⟨i, o, g⟩] (fun _ => True) [blkA wb [v] 224, ownB v bs 5] (WPost 224 5 wb (bs ++ encs (ViewT.flat ⟨i, o, g⟩)))) (fun a b c d e => wview_cells wb v bs i o a b c d e hlen) g

theorem wchange_does (wb : Nat) (v : Value) (bs : List UInt8) (x : ChangeT) (hlen : bs.length + 30 ≤ 140737488355328) : Leg.Does Tryz.prog 163 #[(.pointer (some ⟨wb, 0, none⟩)), x.val] (fun _ => True) [blkA wb [v] 224, ownB v bs 5] (WPost 224 5 wb (bs ++ encs x.flat)) := wchange_cells wb v bs x.kind x.who x.heir (by omega)

theorem wballot_does (wb : Nat) (v : Value) (bs : List UInt8) (x : BallotT) (hlen : bs.length + 30 ≤ 140737488355328) : Leg.Does Tryz.prog 162 #[(.pointer (some ⟨wb, 0, none⟩)), x.val] (fun _ => True) [blkA wb [v] 224, ownB v bs 5] (WPost 224 5 wb (bs ++ encs x.flat)) := wballot_cells wb v bs x.round x.who (by omega)

theorem wrow_does (wb : Nat) (v : Value) (bs : List UInt8) (x : RowT) (hlen : bs.length + 2000 ≤ 140737488355328) :
    Leg.Does Tryz.prog 161 #[(.pointer (some ⟨wb, 0, none⟩)), (.agg (ints x.flat).toArray)] (fun _ => True) [blkA wb [v] 224, ownB v (bs) 5] (WPost 224 5 wb (bs ++ encRow x)) := by
 refine Leg.Does.body (n := 50) Tryz.func161 rfl rfl rfl (fun w0 F hF => ?_)
 refine sr fun _ J1 => ?_
 refine TL.box (Want.plain rfl) rfl rfl rfl rfl (fun b3 => ?_)
 change TL _ _ _ _ _ _ _ _ _ [blkA b3 (ints x.flat) 64, blkA wb [v] 224, ownB v (bs) 5]
 refine PS ?_
 refine nx J1 (sr fun _ J2 => ?_)
 refine PS ?_
 refine FA 0 Tryz.underlying64 sz3 ?_
 refine tp (PV.load1 (v := (.int .i64 (x.version))) rfl Tryz.underlying3 rfl rfl (RO 0) (RowT.get_version _)) ?_
 refine TL.buildSlice (cells := #[(.int .i64 (x.version))]) (Want.plain rfl) rfl rfl rfl Tryz.underlying50 in3 rfl rfl rfl (by as_aux_lemma => kernel_rfl) (fun b14 => ?_)
 refine CQ nm160 (wnum_does wb v (bs) (.slice (some ⟨b14, 0, none⟩) (1) (1)) [x.version] (by have := congrArg List.length (Eq.refl bs); have := encRow_len x; simp only [List.length_append, List.length_cons, List.length_nil] at *; omega)) (SM [2, 2]) (isN_piece 0 rfl rfl rfl rfl) fun vR HR hR => ?_
 obtain ⟨u1, rfl, rfl⟩ := hR
 refine nx J2 ?_
 refine TC.seq fun _ J3 => ?_
 refine sr fun _ J4 => ?_
 refine FA 1 Tryz.underlying64 sz61 ?_
 refine tp (PV.loadN (vs := ints (flats x.cells.toList)) rfl Tryz.underlying61 rfl sz61 rfl (RO 3) (by rw [ints_length, flats_length]; simp) (RowT.get_cells _)) ?_
 refine PS ?_
 refine nx J4 ?_
 refine TC.block ?_
 refine TC.loop (α := (Nat) × (Value) × (List UInt8)) (fun ⟨k, u, laid⟩ => k ≤ 4 ∧ laid ++ (encs (flats (x.cells.toList.drop k)) ++ encHeirs x 5 0) = bs ++ encRow x) (fun ⟨k, u, laid⟩ => [(0, (.pointer (some ⟨wb, 0, none⟩))), (3, (.pointer (some ⟨b3, 0, none⟩))), (4, (.pointer none)), (17, (.agg (ints (flats x.cells.toList)).toArray)), (18, (.int .i64 ((k : Nat))))]) (fun ⟨k, u, laid⟩ => [blkA b3 (ints x.flat) 64, blkA wb [u] 224, ownB u (laid) 5]) (fun ⟨k, u, laid⟩ => 4 - k) (0, u1, bs ++ encs [x.version])
     ⟨by omega, by simp [encRow, encs]⟩ (Sub.r (Sub.r (Sub.r (Sub.r (Sub.cons rfl (by congr 1) (Sub.nil _))))))
     (fun _ s => sep_keep [3, 0, 0] rfl s) (fun ⟨k, u, laid⟩ hinv => ?_)
 obtain ⟨hk, hL⟩ := hinv
 have hE := hL
 rw [show encs (flats (x.cells.toList.drop k)) = encs (flats (x.cells.toList.drop k)) from rfl] at hE
 refine sr fun _ J5 => ?_
 refine PS ?_
 refine TL.dec (fun h19 => ?_) (fun h19 => ?_)
 refine nx J5 ?_
 refine TC.seq fun _ J6 => ?_
 refine CY ?_
 refine CX J6 ?_
 refine TC.seq fun _ J7 => ?_
 refine TC.block ?_
 refine sr fun _ J8 => ?_
 refine tp (PV.indexN (cs := ints (flats (x.cells.toList))) (r := k * 7) rfl Tryz.underlying61 Tryz.underlying60 rfl sz60 rfl rfl (by omega) (by omega) (by omega) (flats_get (by simp; omega))) ?_
 refine TL.alloc (Want.plain rfl) rfl rfl rfl z60 (fun b6 => ?_)
 refine TL.store (vs := ints ((x.cells.toList)[k]'(by simp; omega)).flat) (cs' := ints ((x.cells.toList)[k]'(by simp; omega)).flat) (i := 0) (Want.plain rfl) rfl rfl rfl rfl rfl (by rw [CellT.len]; exact sz60) (ints_one _) rfl rfl (by rw [CellT.len]; exact Nat.le_refl _) (wr_whole (by rw [CellT.len]; rfl)) rfl ?_
 refine nx J8 ?_
 refine TC.region ?_
 refine PS ?_
 refine tp (PV.loadN (vs := ints ((x.cells.toList)[k]'(by simp; omega)).flat) rfl Tryz.underlying60 rfl sz60 rfl (RO 0) (CellT.len _) (by rw [List.drop_zero, List.take_of_length_le (by rw [CellT.len]; decide)])) ?_
 refine CR nm171 (wcell_does wb u (laid) ((x.cells.toList)[k]'(by simp; omega)) (by have := congrArg List.length hE; have := encRow_len x; have := encs_len ((x.cells.toList)[k]'(by simp; omega)).flat; rw [CellT.flat_length] at this; simp only [List.length_append] at *; omega)) (SM [2, 2]) fun vR HR hR => ?_
 obtain ⟨u2, rfl, rfl⟩ := hR
 refine TL.nil ?_
 refine TE.blockEnd ?_
 refine TE.next J7 ?_
 refine TC.region ?_
 refine tp (PV.add rfl rfl rfl (wrap_i64 (by omega) (by omega))) ?_
 refine PS ?_
 refine TL.nil ?_
 exact TE.round ((k + 1, u2, laid ++ encs ((x.cells.toList)[k]'(by simp; omega)).flat) : (Nat) × (Value) × (List UInt8)) ⟨by omega, by rw [← hL, flats_drop (l := x.cells.toList) (k := k) (by simp; omega)]; simp⟩ (by show _ - _ < _ - _; omega)
   (Sub.r (Sub.r (Sub.r (Sub.r (Sub.r (Sub.nil _))))))
   (fun _ s => sep_keep [3, 0, 0] rfl s)
 refine nx J5 ?_
 refine TC.seq fun _ J9 => ?_
 refine CN ?_
 refine TC.exit ?_
 refine TE.pass ?_
 refine TE.pass ?_
 refine TE.hit ?_
 refine TE.next J3 ?_
 refine TC.seq fun _ J10 => ?_
 refine sr fun _ J11 => ?_
 refine FA 29 Tryz.underlying64 sz42 ?_
 refine tp (PV.loadN (vs := ints x.heir.toList) rfl Tryz.underlying42 rfl sz42 rfl (RO 0) (by rw [ints_length]; simp) (RowT.get_heirs _)) ?_
 refine PS ?_
 refine nx J11 ?_
 refine TC.block ?_
 refine TC.loop (α := (Nat) × (Value) × (List UInt8)) (fun ⟨i, u, laid⟩ => i ≤ 5 ∧ laid ++ encHeirs x (5 - i) i = bs ++ encRow x) (fun ⟨i, u, laid⟩ => [(0, (.pointer (some ⟨wb, 0, none⟩))), (3, (.pointer (some ⟨b3, 0, none⟩))), (4, (.pointer none)), (26, (.agg (ints x.heir.toList).toArray)), (27, (.int .i64 ((i : Nat))))]) (fun ⟨i, u, laid⟩ => [blkA b3 (ints x.flat) 64, blkA wb [u] 224, ownB u (laid) 5]) (fun ⟨i, u, laid⟩ => 5 - i) (0, u, laid)
     ⟨by omega, by rw [← hL, List.drop_eq_nil_of_le (by simp; omega)]; simp [flats, encs]⟩ (Sub.r (Sub.r (Sub.r (Sub.r (Sub.cons rfl (by congr 1) (Sub.nil _))))))
     (fun _ s => sep_keep [0, 0, 0] rfl s) (fun ⟨i, u, laid⟩ hinv => ?_)
 obtain ⟨hi, hL⟩ := hinv
 have hE := hL
 refine sr fun _ J12 => ?_
 refine PS ?_
 refine TL.dec (fun h28 => ?_) (fun h28 => ?_)
 refine nx J12 ?_
 refine TC.seq fun _ J13 => ?_
 refine CY ?_
 refine CX J13 ?_
 refine TC.seq fun _ J14 => ?_
 refine TC.block ?_
 refine sr fun _ J15 => ?_
 refine PS ?_
 refine tp (PV.index1 (cs := ints x.heir.toList) (v := .int .i64 (x.heir[i]'(by omega))) (r := i) rfl Tryz.underlying42 Tryz.underlying3 rfl sz3 rfl rfl (by omega) (by omega) (by omega) (by rw [ints_get _ _ (by simp; omega)]; simp [List.getD_eq_getElem?_getD, show i < 5 by omega])) ?_
 refine PS ?_
 refine PS ?_
 refine nx J15 (sr fun _ J16 => ?_)
 refine PS ?_
 refine PS ?_
 refine TL.buildSlice (cells := #[(.int .i64 (x.heir[i]'(by omega)))]) (Want.plain rfl) rfl rfl rfl Tryz.underlying50 in3 rfl rfl rfl (by as_aux_lemma => kernel_rfl) (fun b33 => ?_)
 refine CQ nm160 (wnum_does wb u (laid) (.slice (some ⟨b33, 0, none⟩) (1) (1)) [x.heir[i]'(by omega)] (by have := congrArg List.length hE; have := encRow_len x; simp only [List.length_append, List.length_cons, List.length_nil] at *; omega)) (SM [2, 2]) (isN_piece 0 rfl rfl rfl rfl) fun vR HR hR => ?_
 obtain ⟨u2, rfl, rfl⟩ := hR
 refine nx J16 (sr fun _ J17 => ?_)
 refine PS ?_
 refine PS ?_
 refine TL.dec (fun h36 => ?_) (fun h36 => ?_)
 refine nx J17 ?_
 refine CY ?_
 refine sr fun _ J18 => ?_
 refine PS ?_
 refine FA 34 Tryz.underlying64 sz62 ?_
 refine tp (PV.indexArr (r := 34 + i * 28) rfl Tryz.underlying62 sz61 rfl rfl (by omega) (by omega) (by omega)) ?_
 refine tp (PV.loadN (vs := ints (flats (x.left[i]'(by omega)).toList)) rfl Tryz.underlying61 rfl sz61 rfl (RO 3) (by rw [ints_length, flats_length]; simp) (RowT.get_left _ i (by omega))) ?_
 refine PS ?_
 refine nx J18 ?_
 refine TC.block ?_
 refine TC.loop (α := (Nat) × (Value) × (List UInt8)) (fun ⟨k, u3, laid3⟩ => k ≤ 4 ∧ laid3 ++ (encs (flats ((x.left[i]'(by omega)).toList.drop k)) ++ encHeirs x (5 - (i + 1)) (i + 1)) = bs ++ encRow x) (fun ⟨k, u3, laid3⟩ => [(0, (.pointer (some ⟨wb, 0, none⟩))), (3, (.pointer (some ⟨b3, 0, none⟩))), (4, (.pointer none)), (26, (.agg (ints x.heir.toList).toArray)), (27, (.int .i64 ((i : Nat)))), (40, (.agg (ints (flats (x.left[i]'(by omega)).toList)).toArray)), (41, (.int .i64 ((k : Nat))))]) (fun ⟨k, u3, laid3⟩ => [blkA b3 (ints x.flat) 64, blkA wb [u3] 224, ownB u3 (laid3) 5]) (fun ⟨k, u3, laid3⟩ => 4 - k) (0, u2, laid ++ encs [x.heir[i]'(by omega)])
     ⟨by omega, by rw [← hL, encHeirs_step (i := i) (by omega), if_pos h36]; simp [encs]⟩ (Sub.r (Sub.r (Sub.r (Sub.r (Sub.r (Sub.r (Sub.cons rfl (by congr 1) (Sub.nil _))))))))
     (fun _ s => sep_keep [3, 0, 0] rfl s) (fun ⟨k, u3, laid3⟩ hinv => ?_)
 obtain ⟨hk, hM⟩ := hinv
 have hE := hM
 refine sr fun _ J19 => ?_
 refine PS ?_
 refine TL.dec (fun h42 => ?_) (fun h42 => ?_)
 refine nx J19 ?_
 refine TC.seq fun _ J20 => ?_
 refine CY ?_
 refine CX J20 ?_
 refine TC.seq fun _ J21 => ?_
 refine TC.block ?_
 refine sr fun _ J22 => ?_
 refine tp (PV.indexN (cs := ints (flats ((x.left[i]'(by omega)).toList))) (r := k * 7) rfl Tryz.underlying61 Tryz.underlying60 rfl sz60 rfl rfl (by omega) (by omega) (by omega) (flats_get (by simp; omega))) ?_
 refine TL.alloc (Want.plain rfl) rfl rfl rfl z60 (fun b10 => ?_)
 refine TL.store (vs := ints (((x.left[i]'(by omega)).toList)[k]'(by simp; omega)).flat) (cs' := ints (((x.left[i]'(by omega)).toList)[k]'(by simp; omega)).flat) (i := 0) (Want.plain rfl) rfl rfl rfl rfl rfl (by rw [CellT.len]; exact sz60) (ints_one _) rfl rfl (by rw [CellT.len]; exact Nat.le_refl _) (wr_whole (by rw [CellT.len]; rfl)) rfl ?_
 refine nx J22 ?_
 refine TC.region ?_
 refine PS ?_
 refine tp (PV.loadN (vs := ints (((x.left[i]'(by omega)).toList)[k]'(by simp; omega)).flat) rfl Tryz.underlying60 rfl sz60 rfl (RO 0) (CellT.len _) (by rw [List.drop_zero, List.take_of_length_le (by rw [CellT.len]; decide)])) ?_
 refine CR nm171 (wcell_does wb u3 (laid3) (((x.left[i]'(by omega)).toList)[k]'(by simp; omega)) (by have := congrArg List.length hE; have := encRow_len x; have := encs_len (((x.left[i]'(by omega)).toList)[k]'(by simp; omega)).flat; rw [CellT.flat_length] at this; simp only [List.length_append] at *; omega)) (SM [2, 2]) fun vR HR hR => ?_
 obtain ⟨u3, rfl, rfl⟩ := hR
 refine TL.nil ?_
 refine TE.blockEnd ?_
 refine TE.next J21 ?_
 refine TC.region ?_
 refine tp (PV.add rfl rfl rfl (wrap_i64 (by omega) (by omega))) ?_
 refine PS ?_
 refine TL.nil ?_
 exact TE.round ((k + 1, u3, laid3 ++ encs (((x.left[i]'(by omega)).toList)[k]'(by simp; omega)).flat) : (Nat) × (Value) × (List UInt8)) ⟨by omega, by rw [← hM, flats_drop (l := (x.left[i]'(by omega)).toList) (k := k) (by simp; omega)]; simp⟩ (by show _ - _ < _ - _; omega)
   (Sub.r (Sub.r (Sub.r (Sub.r (Sub.r (Sub.r (Sub.r (Sub.nil _))))))))
   (fun _ s => sep_keep [3, 0, 0] rfl s)
 refine nx J19 ?_
 refine TC.seq fun _ J23 => ?_
 refine CN ?_
 refine TC.exit ?_
 refine TE.pass ?_
 refine TE.pass ?_
 refine TE.hit ?_
 refine TE.blockEnd ?_
 refine TE.next J14 ?_
 refine TC.region ?_
 refine tp (PV.add rfl rfl rfl (wrap_i64 (by omega) (by omega))) ?_
 refine PS ?_
 refine TL.nil ?_
 exact TE.round ((i + 1, u3, laid3) : (Nat) × (Value) × (List UInt8)) ⟨by omega, by rw [← hM, List.drop_eq_nil_of_le (by simp; omega)]; simp [flats, encs]⟩ (by show _ - _ < _ - _; omega)
   (Sub.r (Sub.r (Sub.r (Sub.r (Sub.r (Sub.nil _))))))
   (fun _ s => sep_keep [0, 0, 0] rfl s)
 refine nx J17 ?_
 refine CN ?_
 refine TC.skip ?_
 refine TE.blockEnd ?_
 refine TE.next J14 ?_
 refine TC.region ?_
 refine tp (PV.add rfl rfl rfl (wrap_i64 (by omega) (by omega))) ?_
 refine PS ?_
 refine TL.nil ?_
 exact TE.round ((i + 1, u2, laid ++ encs [x.heir[i]'(by omega)]) : (Nat) × (Value) × (List UInt8)) ⟨by omega, by rw [← hL, encHeirs_step (i := i) (by omega), if_neg h36]; simp [encs]⟩ (by show _ - _ < _ - _; omega)
   (Sub.r (Sub.r (Sub.r (Sub.r (Sub.r (Sub.nil _))))))
   (fun _ s => sep_keep [3, 0, 0] rfl s)
 refine nx J12 ?_
 refine TC.seq fun _ J24 => ?_
 refine CN ?_
 refine TC.exit ?_
 refine TE.pass ?_
 refine TE.pass ?_
 refine TE.hit ?_
 refine TE.next J10 ?_
 refine sr fun _ J25 => ?_
 refine PS ?_
 refine PS ?_
 refine nx J25 ?_
 refine TC.ret ?_
 refine WK [1, 1] ?_
 refine TE.ret1 rfl rfl ?_
 obtain rfl : laid = bs ++ encRow x := by rw [← hL, show 5 - i = 0 by omega]; simp [encHeirs]
 exact ⟨u, rfl, rfl⟩
end Go.Proofs.YtobdfjdoilnfcaaGreat
end

section
namespace Go.Proofs.YtobdfjdoilnfcaaGreat

open Go Leg Codec Api

set_option linter.unusedSimpArgs false
set_option linter.unusedVariables false

set_option maxRecDepth 100000

set_option maxHeartbeats 8000000

theorem encode_does (m : MsgT) :
    Leg.Does Tryz.prog 193 #[(.agg (ints m.flat).toArray)] (fun _ => True) [] (Ret (fun r' H => ∃ u, r' = u ∧ H = [ownB u (encM m) 5])) := by
 refine Leg.Does.body (n := 100) Tryz.func193 rfl rfl rfl (fun w0 F hF => ?_)
 refine sr fun _ J1 => ?_
 refine TL.box (Want.plain rfl) rfl rfl rfl rfl (fun b1 => ?_)
 change TL _ _ _ _ _ _ _ _ _ [blkA b1 (ints m.flat) 146]
 refine PS ?_
 refine nx J1 ?_
 clear J1
 refine sr fun _ J2 => ?_
 refine TL.alloc (Want.plain rfl) rfl rfl rfl z224 (fun b4 => ?_)
 refine TL.ownNil 5 (fun on => ?_)
 clear on
 refine PS ?_
 refine nx J2 ?_
 clear J2
 refine TC.seq fun _ J3 => ?_
 refine sr fun _ J4 => ?_
 refine FA 0 Tryz.underlying146 sz3 ?_
 refine tp (PV.load1 (v := (.int .i64 (m.kind))) rfl Tryz.underlying3 rfl rfl (RO 2) (MsgT.at_kind m rfl)) ?_
 refine nx J4 ?_
 clear J4
 refine TC.block ?_
 refine TC.seq fun _ J5 => ?_
 refine sr fun _ J6 => ?_
 refine PS ?_
 refine PS ?_
 refine TL.dec (fun h7 => ?_) (fun h7 => ?_)
 refine nx J6 ?_
 clear J6
 refine CY ?_
 refine CX J5 ?_
 clear J5
 refine CY ?_
 refine D1 2 mixed ?_
 refine PD 0 ?_
 refine FD 1 0 Tryz.underlying146 sz3 ?_
 refine ta 2 rfl (PV.load1 (v := (.int .i64 (m.kind))) rfl Tryz.underlying3 rfl rfl (fun _ h => h.2.1) (MsgT.at_kind m rfl)) ?_
 refine FD 3 1 Tryz.underlying146 sz3 ?_
 refine ta 4 rfl (PV.load1 (v := (.int .i64 (m.whose))) rfl Tryz.underlying3 rfl rfl (fun _ h => h.2.1) (MsgT.at_whose m rfl)) ?_
 refine FD 7 2 Tryz.underlying146 sz64 ?_
 refine ta 8 rfl (PV.loadN (vs := ints m.row.flat) rfl Tryz.underlying64 rfl sz64 rfl (fun _ h => h.2.1) (RowT.len m.row) (MsgT.sub_row m 0 rfl (by decide) (whole (RowT.len m.row)))) ?_
 refine TD.all [5] (by kernel_rfl) rfl ?_
 refine AllT.cons rfl ?_ ?_
 refine TL.buildSlice (cells := #[(.int .i64 (m.kind)), (.int .i64 (m.whose))]) (Want.plain rfl) rfl rfl rfl Tryz.underlying50 in3 rfl rfl rfl (by as_aux_lemma => kernel_rfl) (fun b16 => ?_)
 refine TL.nil ?_
 refine E1 3 ?_
 refine TD.all [6] (by kernel_rfl) rfl ?_
 refine AllT.cons rfl ?_ ?_
 refine CQ nm160 (wnum_does b4 (.slice none 0 0) ([]) (.slice (some ⟨b16, 0, none⟩) (2) (2)) [m.kind, m.whose] (by simp)) (SM [2, 1]) (isN_piece 0 rfl rfl rfl rfl) fun vR HR hR => ?_
 obtain ⟨u1, rfl, rfl⟩ := hR
 refine TL.nil ?_
 refine E1 3 ?_
 refine TD.all [9] (by kernel_rfl) rfl ?_
 refine AllT.cons rfl ?_ ?_
 refine CR nm161 (wrow_does b4 u1 (encs [m.kind, m.whose]) m.row (by (have := encs_len [m.kind, m.whose]); simp only [BallotT.flat, ViewT.flat, ChangeT.flat, List.length_cons, List.length_nil, Vector.length_toList, List.length_append] at *; omega)) (fun _ s => s) fun vR HR hR => ?_
 obtain ⟨u2, rfl, rfl⟩ := hR
 refine TL.nil ?_
 refine E1 3 ?_
 refine TD.done (by kernel_rfl) ?_
 refine TE.blockEnd ?_
 refine TE.next J3 ?_
 clear J3
 refine sr fun _ J7 => ?_
 refine PS ?_
 refine CR nm165 (wbytes_does b4 u2 (encs [m.kind, m.whose] ++ encRow m.row) (by (have := encs_len [m.kind, m.whose]); (have := encRow_len m.row); simp only [BallotT.flat, ViewT.flat, ChangeT.flat, List.length_cons, List.length_nil, Vector.length_toList, List.length_append] at *; omega)) (fun _ s => s) fun vR HR hR => ?_
 obtain ⟨_, rfl, rfl⟩ := hR
 revert vR
 intro u3
 refine PS ?_
 refine nx J7 ?_
 clear J7
 refine TC.ret ?_
 refine WK [2] ?_
 refine TE.ret1 rfl rfl ?_
 exact ⟨_, rfl, congrArg (fun b => [ownB u3 b 5]) (show (encs [m.kind, m.whose] ++ encRow m.row) = encM m by simp [encM, kRow, kAsk, encs, *])⟩
 exact AllT.nil
 exact AllT.nil
 exact AllT.nil
 refine nx J6 ?_
 clear J6
 refine CN ?_
 refine sr fun _ J8 => ?_
 refine PS ?_
 refine PS ?_
 refine TL.dec (fun h7 => ?_) (fun h7 => ?_)
 refine nx J8 ?_
 clear J8
 refine CY ?_
 refine CX J5 ?_
 clear J5
 refine CY ?_
 refine D1 2 mixed ?_
 refine PD 0 ?_
 refine FD 1 0 Tryz.underlying146 sz3 ?_
 refine ta 2 rfl (PV.load1 (v := (.int .i64 (m.kind))) rfl Tryz.underlying3 rfl rfl (fun _ h => h.2.1) (MsgT.at_kind m rfl)) ?_
 refine FD 3 1 Tryz.underlying146 sz3 ?_
 refine ta 4 rfl (PV.load1 (v := (.int .i64 (m.whose))) rfl Tryz.underlying3 rfl rfl (fun _ h => h.2.1) (MsgT.at_whose m rfl)) ?_
 refine FD 7 2 Tryz.underlying146 sz64 ?_
 refine ta 8 rfl (PV.loadN (vs := ints m.row.flat) rfl Tryz.underlying64 rfl sz64 rfl (fun _ h => h.2.1) (RowT.len m.row) (MsgT.sub_row m 0 rfl (by decide) (whole (RowT.len m.row)))) ?_
 refine TD.all [5] (by kernel_rfl) rfl ?_
 refine AllT.cons rfl ?_ ?_
 refine TL.buildSlice (cells := #[(.int .i64 (m.kind)), (.int .i64 (m.whose))]) (Want.plain rfl) rfl rfl rfl Tryz.underlying50 in3 rfl rfl rfl (by as_aux_lemma => kernel_rfl) (fun b16 => ?_)
 refine TL.nil ?_
 refine E1 3 ?_
 refine TD.all [6] (by kernel_rfl) rfl ?_
 refine AllT.cons rfl ?_ ?_
 refine CQ nm160 (wnum_does b4 (.slice none 0 0) ([]) (.slice (some ⟨b16, 0, none⟩) (2) (2)) [m.kind, m.whose] (by simp)) (SM [2, 1]) (isN_piece 0 rfl rfl rfl rfl) fun vR HR hR => ?_
 obtain ⟨u1, rfl, rfl⟩ := hR
 refine TL.nil ?_
 refine E1 3 ?_
 refine TD.all [9] (by kernel_rfl) rfl ?_
 refine AllT.cons rfl ?_ ?_
 refine CR nm161 (wrow_does b4 u1 (encs [m.kind, m.whose]) m.row (by (have := encs_len [m.kind, m.whose]); simp only [BallotT.flat, ViewT.flat, ChangeT.flat, List.length_cons, List.length_nil, Vector.length_toList, List.length_append] at *; omega)) (fun _ s => s) fun vR HR hR => ?_
 obtain ⟨u2, rfl, rfl⟩ := hR
 refine TL.nil ?_
 refine E1 3 ?_
 refine TD.done (by kernel_rfl) ?_
 refine TE.blockEnd ?_
 refine TE.next J3 ?_
 clear J3
 refine sr fun _ J9 => ?_
 refine PS ?_
 refine CR nm165 (wbytes_does b4 u2 (encs [m.kind, m.whose] ++ encRow m.row) (by (have := encs_len [m.kind, m.whose]); (have := encRow_len m.row); simp only [BallotT.flat, ViewT.flat, ChangeT.flat, List.length_cons, List.length_nil, Vector.length_toList, List.length_append] at *; omega)) (fun _ s => s) fun vR HR hR => ?_
 obtain ⟨_, rfl, rfl⟩ := hR
 revert vR
 intro u3
 refine PS ?_
 refine nx J9 ?_
 clear J9
 refine TC.ret ?_
 refine WK [2] ?_
 refine TE.ret1 rfl rfl ?_
 exact ⟨_, rfl, congrArg (fun b => [ownB u3 b 5]) (show (encs [m.kind, m.whose] ++ encRow m.row) = encM m by simp [encM, kRow, kAsk, encs, *])⟩
 exact AllT.nil
 exact AllT.nil
 exact AllT.nil
 refine nx J8 ?_
 clear J8
 refine CN ?_
 refine TC.region ?_
 refine PS ?_
 refine TL.dec (fun h10 => ?_) (fun h10 => ?_)
 refine PS ?_
 refine nx J5 ?_
 clear J5
 refine CY ?_
 refine D1 2 mixed ?_
 refine PD 0 ?_
 refine FD 1 0 Tryz.underlying146 sz3 ?_
 refine ta 2 rfl (PV.load1 (v := (.int .i64 (m.kind))) rfl Tryz.underlying3 rfl rfl (fun _ h => h.2.1) (MsgT.at_kind m rfl)) ?_
 refine FD 3 1 Tryz.underlying146 sz3 ?_
 refine ta 4 rfl (PV.load1 (v := (.int .i64 (m.whose))) rfl Tryz.underlying3 rfl rfl (fun _ h => h.2.1) (MsgT.at_whose m rfl)) ?_
 refine FD 7 2 Tryz.underlying146 sz64 ?_
 refine ta 8 rfl (PV.loadN (vs := ints m.row.flat) rfl Tryz.underlying64 rfl sz64 rfl (fun _ h => h.2.1) (RowT.len m.row) (MsgT.sub_row m 0 rfl (by decide) (whole (RowT.len m.row)))) ?_
 refine TD.all [5] (by kernel_rfl) rfl ?_
 refine AllT.cons rfl ?_ ?_
 refine TL.buildSlice (cells := #[(.int .i64 (m.kind)), (.int .i64 (m.whose))]) (Want.plain rfl) rfl rfl rfl Tryz.underlying50 in3 rfl rfl rfl (by as_aux_lemma => kernel_rfl) (fun b16 => ?_)
 refine TL.nil ?_
 refine E1 3 ?_
 refine TD.all [6] (by kernel_rfl) rfl ?_
 refine AllT.cons rfl ?_ ?_
 refine CQ nm160 (wnum_does b4 (.slice none 0 0) ([]) (.slice (some ⟨b16, 0, none⟩) (2) (2)) [m.kind, m.whose] (by simp)) (SM [2, 1]) (isN_piece 0 rfl rfl rfl rfl) fun vR HR hR => ?_
 obtain ⟨u1, rfl, rfl⟩ := hR
 refine TL.nil ?_
 refine E1 3 ?_
 refine TD.all [9] (by kernel_rfl) rfl ?_
 refine AllT.cons rfl ?_ ?_
 refine CR nm161 (wrow_does b4 u1 (encs [m.kind, m.whose]) m.row (by (have := encs_len [m.kind, m.whose]); simp only [BallotT.flat, ViewT.flat, ChangeT.flat, List.length_cons, List.length_nil, Vector.length_toList, List.length_append] at *; omega)) (fun _ s => s) fun vR HR hR => ?_
 obtain ⟨u2, rfl, rfl⟩ := hR
 refine TL.nil ?_
 refine E1 3 ?_
 refine TD.done (by kernel_rfl) ?_
 refine TE.blockEnd ?_
 refine TE.next J3 ?_
 clear J3
 refine sr fun _ J10 => ?_
 refine PS ?_
 refine CR nm165 (wbytes_does b4 u2 (encs [m.kind, m.whose] ++ encRow m.row) (by (have := encs_len [m.kind, m.whose]); (have := encRow_len m.row); simp only [BallotT.flat, ViewT.flat, ChangeT.flat, List.length_cons, List.length_nil, Vector.length_toList, List.length_append] at *; omega)) (fun _ s => s) fun vR HR hR => ?_
 obtain ⟨_, rfl, rfl⟩ := hR
 revert vR
 intro u3
 refine PS ?_
 refine nx J10 ?_
 clear J10
 refine TC.ret ?_
 refine WK [2] ?_
 refine TE.ret1 rfl rfl ?_
 exact ⟨_, rfl, congrArg (fun b => [ownB u3 b 5]) (show (encs [m.kind, m.whose] ++ encRow m.row) = encM m by simp [encM, kRow, kAsk, encs, *])⟩
 exact AllT.nil
 exact AllT.nil
 exact AllT.nil
 refine PS ?_
 refine nx J5 ?_
 clear J5
 refine CN ?_
 refine sr fun _ J11 => ?_
 refine PS ?_
 refine TL.dec (fun h22 => ?_) (fun h22 => ?_)
 refine PS ?_
 refine nx J11 ?_
 clear J11
 refine CY ?_
 refine TC.region ?_
 refine PS ?_
 refine FA 0 Tryz.underlying146 sz3 ?_
 refine tp (PV.load1 (v := (.int .i64 (m.kind))) rfl Tryz.underlying3 rfl rfl (RO 2) (MsgT.at_kind m rfl)) ?_
 refine FA 176 Tryz.underlying146 sz3 ?_
 refine tp (PV.load1 (v := (.int .i64 (m.version))) rfl Tryz.underlying3 rfl rfl (RO 2) (MsgT.at_version m rfl)) ?_
 refine TL.buildSlice (cells := #[(.int .i64 (m.kind)), (.int .i64 (m.version))]) (Want.plain rfl) rfl rfl rfl Tryz.underlying50 in3 rfl rfl rfl (by as_aux_lemma => kernel_rfl) (fun b28 => ?_)
 refine CQ nm160 (wnum_does b4 (.slice none 0 0) ([]) (.slice (some ⟨b28, 0, none⟩) (2) (2)) [m.kind, m.version] (by simp)) (SM [2, 1]) (isN_piece 0 rfl rfl rfl rfl) fun vR HR hR => ?_
 obtain ⟨u1, rfl, rfl⟩ := hR
 refine TL.nil ?_
 refine TE.blockEnd ?_
 refine TE.next J3 ?_
 clear J3
 refine sr fun _ J12 => ?_
 refine PS ?_
 refine CR nm165 (wbytes_does b4 u1 (encs [m.kind, m.version]) (by (have := encs_len [m.kind, m.version]); simp only [BallotT.flat, ViewT.flat, ChangeT.flat, List.length_cons, List.length_nil, Vector.length_toList, List.length_append] at *; omega)) (fun _ s => s) fun vR HR hR => ?_
 obtain ⟨_, rfl, rfl⟩ := hR
 revert vR
 intro u2
 refine PS ?_
 refine nx J12 ?_
 clear J12
 refine TC.ret ?_
 refine WK [2] ?_
 refine TE.ret1 rfl rfl ?_
 exact ⟨_, rfl, congrArg (fun b => [ownB u2 b 5]) (show (encs [m.kind, m.version]) = encM m by simp [encM, kRow, kAsk, encs, *])⟩
 refine PS ?_
 refine nx J11 ?_
 clear J11
 refine CN ?_
 refine TC.seq fun _ J13 => ?_
 refine sr fun _ J14 => ?_
 refine PS ?_
 refine PS ?_
 refine TL.dec (fun h30 => ?_) (fun h30 => ?_)
 refine nx J14 ?_
 clear J14
 refine CY ?_
 refine CX J13 ?_
 clear J13
 refine CY ?_
 refine D1 2 mixed ?_
 refine PD 0 ?_
 refine FD 1 0 Tryz.underlying146 sz3 ?_
 refine ta 2 rfl (PV.load1 (v := (.int .i64 (m.kind))) rfl Tryz.underlying3 rfl rfl (fun _ h => h.2.1) (MsgT.at_kind m rfl)) ?_
 refine FD 3 177 Tryz.underlying146 sz3 ?_
 refine ta 4 rfl (PV.load1 (v := (.int .i64 (m.epoch))) rfl Tryz.underlying3 rfl rfl (fun _ h => h.2.1) (MsgT.at_epoch m rfl)) ?_
 refine FD 7 178 Tryz.underlying146 sz95 ?_
 refine ta 8 rfl (PV.loadN (vs := ints m.ballot.flat) rfl Tryz.underlying95 rfl sz95 rfl (fun _ h => h.2.1) (BallotT.len m.ballot) (MsgT.sub_ballot m 0 rfl (by decide) (whole (BallotT.len m.ballot)))) ?_
 refine TD.all [5] (by kernel_rfl) rfl ?_
 refine AllT.cons rfl ?_ ?_
 refine TL.buildSlice (cells := #[(.int .i64 (m.kind)), (.int .i64 (m.epoch))]) (Want.plain rfl) rfl rfl rfl Tryz.underlying50 in3 rfl rfl rfl (by as_aux_lemma => kernel_rfl) (fun b38 => ?_)
 refine TL.nil ?_
 refine E1 3 ?_
 refine TD.all [6] (by kernel_rfl) rfl ?_
 refine AllT.cons rfl ?_ ?_
 refine CQ nm160 (wnum_does b4 (.slice none 0 0) ([]) (.slice (some ⟨b38, 0, none⟩) (2) (2)) [m.kind, m.epoch] (by simp)) (SM [2, 1]) (isN_piece 0 rfl rfl rfl rfl) fun vR HR hR => ?_
 obtain ⟨u1, rfl, rfl⟩ := hR
 refine TL.nil ?_
 refine E1 3 ?_
 refine TD.all [9] (by kernel_rfl) rfl ?_
 refine AllT.cons rfl ?_ ?_
 refine CR nm162 (wballot_does b4 u1 (encs [m.kind, m.epoch]) m.ballot (by (have := encs_len [m.kind, m.epoch]); simp only [BallotT.flat, ViewT.flat, ChangeT.flat, List.length_cons, List.length_nil, Vector.length_toList, List.length_append] at *; omega)) (fun _ s => s) fun vR HR hR => ?_
 obtain ⟨u2, rfl, rfl⟩ := hR
 refine TL.nil ?_
 refine E1 3 ?_
 refine TD.done (by kernel_rfl) ?_
 refine TE.blockEnd ?_
 refine TE.next J3 ?_
 clear J3
 refine sr fun _ J15 => ?_
 refine PS ?_
 refine CR nm165 (wbytes_does b4 u2 (encs [m.kind, m.epoch] ++ encs m.ballot.flat) (by (have := encs_len [m.kind, m.epoch]); (have := encs_len (m.ballot.flat)); simp only [BallotT.flat, ViewT.flat, ChangeT.flat, List.length_cons, List.length_nil, Vector.length_toList, List.length_append] at *; omega)) (fun _ s => s) fun vR HR hR => ?_
 obtain ⟨_, rfl, rfl⟩ := hR
 revert vR
 intro u3
 refine PS ?_
 refine nx J15 ?_
 clear J15
 refine TC.ret ?_
 refine WK [2] ?_
 refine TE.ret1 rfl rfl ?_
 exact ⟨_, rfl, congrArg (fun b => [ownB u3 b 5]) (show (encs [m.kind, m.epoch] ++ encs m.ballot.flat) = encM m by simp [encM, kRow, kAsk, encs, *])⟩
 exact AllT.nil
 exact AllT.nil
 exact AllT.nil
 refine nx J14 ?_
 clear J14
 refine CN ?_
 refine TC.region ?_
 refine PS ?_
 refine TL.dec (fun h32 => ?_) (fun h32 => ?_)
 refine PS ?_
 refine nx J13 ?_
 clear J13
 refine CY ?_
 refine D1 2 mixed ?_
 refine PD 0 ?_
 refine FD 1 0 Tryz.underlying146 sz3 ?_
 refine ta 2 rfl (PV.load1 (v := (.int .i64 (m.kind))) rfl Tryz.underlying3 rfl rfl (fun _ h => h.2.1) (MsgT.at_kind m rfl)) ?_
 refine FD 3 177 Tryz.underlying146 sz3 ?_
 refine ta 4 rfl (PV.load1 (v := (.int .i64 (m.epoch))) rfl Tryz.underlying3 rfl rfl (fun _ h => h.2.1) (MsgT.at_epoch m rfl)) ?_
 refine FD 7 178 Tryz.underlying146 sz95 ?_
 refine ta 8 rfl (PV.loadN (vs := ints m.ballot.flat) rfl Tryz.underlying95 rfl sz95 rfl (fun _ h => h.2.1) (BallotT.len m.ballot) (MsgT.sub_ballot m 0 rfl (by decide) (whole (BallotT.len m.ballot)))) ?_
 refine TD.all [5] (by kernel_rfl) rfl ?_
 refine AllT.cons rfl ?_ ?_
 refine TL.buildSlice (cells := #[(.int .i64 (m.kind)), (.int .i64 (m.epoch))]) (Want.plain rfl) rfl rfl rfl Tryz.underlying50 in3 rfl rfl rfl (by as_aux_lemma => kernel_rfl) (fun b38 => ?_)
 refine TL.nil ?_
 refine E1 3 ?_
 refine TD.all [6] (by kernel_rfl) rfl ?_
 refine AllT.cons rfl ?_ ?_
 refine CQ nm160 (wnum_does b4 (.slice none 0 0) ([]) (.slice (some ⟨b38, 0, none⟩) (2) (2)) [m.kind, m.epoch] (by simp)) (SM [2, 1]) (isN_piece 0 rfl rfl rfl rfl) fun vR HR hR => ?_
 obtain ⟨u1, rfl, rfl⟩ := hR
 refine TL.nil ?_
 refine E1 3 ?_
 refine TD.all [9] (by kernel_rfl) rfl ?_
 refine AllT.cons rfl ?_ ?_
 refine CR nm162 (wballot_does b4 u1 (encs [m.kind, m.epoch]) m.ballot (by (have := encs_len [m.kind, m.epoch]); simp only [BallotT.flat, ViewT.flat, ChangeT.flat, List.length_cons, List.length_nil, Vector.length_toList, List.length_append] at *; omega)) (fun _ s => s) fun vR HR hR => ?_
 obtain ⟨u2, rfl, rfl⟩ := hR
 refine TL.nil ?_
 refine E1 3 ?_
 refine TD.done (by kernel_rfl) ?_
 refine TE.blockEnd ?_
 refine TE.next J3 ?_
 clear J3
 refine sr fun _ J16 => ?_
 refine PS ?_
 refine CR nm165 (wbytes_does b4 u2 (encs [m.kind, m.epoch] ++ encs m.ballot.flat) (by (have := encs_len [m.kind, m.epoch]); (have := encs_len (m.ballot.flat)); simp only [BallotT.flat, ViewT.flat, ChangeT.flat, List.length_cons, List.length_nil, Vector.length_toList, List.length_append] at *; omega)) (fun _ s => s) fun vR HR hR => ?_
 obtain ⟨_, rfl, rfl⟩ := hR
 revert vR
 intro u3
 refine PS ?_
 refine nx J16 ?_
 clear J16
 refine TC.ret ?_
 refine WK [2] ?_
 refine TE.ret1 rfl rfl ?_
 exact ⟨_, rfl, congrArg (fun b => [ownB u3 b 5]) (show (encs [m.kind, m.epoch] ++ encs m.ballot.flat) = encM m by simp [encM, kRow, kAsk, encs, *])⟩
 exact AllT.nil
 exact AllT.nil
 exact AllT.nil
 refine PS ?_
 refine nx J13 ?_
 clear J13
 refine CN ?_
 refine sr fun _ J17 => ?_
 refine PS ?_
 refine TL.dec (fun h44 => ?_) (fun h44 => ?_)
 refine PS ?_
 refine nx J17 ?_
 clear J17
 refine CY ?_
 refine D1 2 mixed ?_
 refine PD 0 ?_
 refine FD 1 0 Tryz.underlying146 sz3 ?_
 refine ta 2 rfl (PV.load1 (v := (.int .i64 (m.kind))) rfl Tryz.underlying3 rfl rfl (fun _ h => h.2.1) (MsgT.at_kind m rfl)) ?_
 refine FD 3 177 Tryz.underlying146 sz3 ?_
 refine ta 4 rfl (PV.load1 (v := (.int .i64 (m.epoch))) rfl Tryz.underlying3 rfl rfl (fun _ h => h.2.1) (MsgT.at_epoch m rfl)) ?_
 refine FD 7 178 Tryz.underlying146 sz95 ?_
 refine ta 8 rfl (PV.loadN (vs := ints m.ballot.flat) rfl Tryz.underlying95 rfl sz95 rfl (fun _ h => h.2.1) (BallotT.len m.ballot) (MsgT.sub_ballot m 0 rfl (by decide) (whole (BallotT.len m.ballot)))) ?_
 refine FD 10 180 Tryz.underlying146 sz95 ?_
 refine ta 11 rfl (PV.loadN (vs := ints m.had.flat) rfl Tryz.underlying95 rfl sz95 rfl (fun _ h => h.2.1) (BallotT.len m.had) (MsgT.sub_had m 0 rfl (by decide) (whole (BallotT.len m.had)))) ?_
 refine FD 13 182 Tryz.underlying146 sz28 ?_
 refine ta 14 rfl (PV.loadN (vs := ints m.change.flat) rfl Tryz.underlying28 rfl sz28 rfl (fun _ h => h.2.1) (ChangeT.len m.change) (MsgT.sub_change m 0 rfl (by decide) (whole (ChangeT.len m.change)))) ?_
 refine TD.all [5] (by kernel_rfl) rfl ?_
 refine AllT.cons rfl ?_ ?_
 refine TL.buildSlice (cells := #[(.int .i64 (m.kind)), (.int .i64 (m.epoch))]) (Want.plain rfl) rfl rfl rfl Tryz.underlying50 in3 rfl rfl rfl (by as_aux_lemma => kernel_rfl) (fun b50 => ?_)
 refine TL.nil ?_
 refine E1 3 ?_
 refine TD.all [6] (by kernel_rfl) rfl ?_
 refine AllT.cons rfl ?_ ?_
 refine CQ nm160 (wnum_does b4 (.slice none 0 0) ([]) (.slice (some ⟨b50, 0, none⟩) (2) (2)) [m.kind, m.epoch] (by simp)) (SM [2, 1]) (isN_piece 0 rfl rfl rfl rfl) fun vR HR hR => ?_
 obtain ⟨u1, rfl, rfl⟩ := hR
 refine TL.nil ?_
 refine E1 3 ?_
 refine TD.all [9] (by kernel_rfl) rfl ?_
 refine AllT.cons rfl ?_ ?_
 refine CR nm162 (wballot_does b4 u1 (encs [m.kind, m.epoch]) m.ballot (by (have := encs_len [m.kind, m.epoch]); simp only [BallotT.flat, ViewT.flat, ChangeT.flat, List.length_cons, List.length_nil, Vector.length_toList, List.length_append] at *; omega)) (fun _ s => s) fun vR HR hR => ?_
 obtain ⟨u2, rfl, rfl⟩ := hR
 refine TL.nil ?_
 refine E1 3 ?_
 refine TD.all [12] (by kernel_rfl) rfl ?_
 refine AllT.cons rfl ?_ ?_
 refine CR nm162 (wballot_does b4 u2 (encs [m.kind, m.epoch] ++ encs m.ballot.flat) m.had (by (have := encs_len [m.kind, m.epoch]); (have := encs_len (m.ballot.flat)); simp only [BallotT.flat, ViewT.flat, ChangeT.flat, List.length_cons, List.length_nil, Vector.length_toList, List.length_append] at *; omega)) (fun _ s => s) fun vR HR hR => ?_
 obtain ⟨u3, rfl, rfl⟩ := hR
 refine TL.nil ?_
 refine E1 3 ?_
 refine TD.all [15] (by kernel_rfl) rfl ?_
 refine AllT.cons rfl ?_ ?_
 refine CR nm163 (wchange_does b4 u3 (encs [m.kind, m.epoch] ++ encs m.ballot.flat ++ encs m.had.flat) m.change (by (have := encs_len [m.kind, m.epoch]); (have := encs_len (m.ballot.flat)); (have := encs_len (m.had.flat)); simp only [BallotT.flat, ViewT.flat, ChangeT.flat, List.length_cons, List.length_nil, Vector.length_toList, List.length_append] at *; omega)) (fun _ s => s) fun vR HR hR => ?_
 obtain ⟨u4, rfl, rfl⟩ := hR
 refine TL.nil ?_
 refine E1 3 ?_
 refine TD.done (by kernel_rfl) ?_
 refine TE.blockEnd ?_
 refine TE.next J3 ?_
 clear J3
 refine sr fun _ J18 => ?_
 refine PS ?_
 refine CR nm165 (wbytes_does b4 u4 (encs [m.kind, m.epoch] ++ encs m.ballot.flat ++ encs m.had.flat ++ encs m.change.flat) (by (have := encs_len [m.kind, m.epoch]); (have := encs_len (m.ballot.flat)); (have := encs_len (m.had.flat)); (have := encs_len (m.change.flat)); simp only [BallotT.flat, ViewT.flat, ChangeT.flat, List.length_cons, List.length_nil, Vector.length_toList, List.length_append] at *; omega)) (fun _ s => s) fun vR HR hR => ?_
 obtain ⟨_, rfl, rfl⟩ := hR
 revert vR
 intro u5
 refine PS ?_
 refine nx J18 ?_
 clear J18
 refine TC.ret ?_
 refine WK [2] ?_
 refine TE.ret1 rfl rfl ?_
 exact ⟨_, rfl, congrArg (fun b => [ownB u5 b 5]) (show (encs [m.kind, m.epoch] ++ encs m.ballot.flat ++ encs m.had.flat ++ encs m.change.flat) = encM m by simp [encM, kRow, kAsk, encs, *])⟩
 exact AllT.nil
 exact AllT.nil
 exact AllT.nil
 exact AllT.nil
 exact AllT.nil
 refine PS ?_
 refine nx J17 ?_
 clear J17
 refine CN ?_
 refine sr fun _ J19 => ?_
 refine PS ?_
 refine TL.dec (fun h62 => ?_) (fun h62 => ?_)
 refine PS ?_
 refine nx J19 ?_
 clear J19
 refine CY ?_
 refine D1 2 mixed ?_
 refine PD 0 ?_
 refine FD 1 0 Tryz.underlying146 sz3 ?_
 refine ta 2 rfl (PV.load1 (v := (.int .i64 (m.kind))) rfl Tryz.underlying3 rfl rfl (fun _ h => h.2.1) (MsgT.at_kind m rfl)) ?_
 refine FD 3 177 Tryz.underlying146 sz3 ?_
 refine ta 4 rfl (PV.load1 (v := (.int .i64 (m.epoch))) rfl Tryz.underlying3 rfl rfl (fun _ h => h.2.1) (MsgT.at_epoch m rfl)) ?_
 refine FD 7 178 Tryz.underlying146 sz95 ?_
 refine ta 8 rfl (PV.loadN (vs := ints m.ballot.flat) rfl Tryz.underlying95 rfl sz95 rfl (fun _ h => h.2.1) (BallotT.len m.ballot) (MsgT.sub_ballot m 0 rfl (by decide) (whole (BallotT.len m.ballot)))) ?_
 refine FD 10 182 Tryz.underlying146 sz28 ?_
 refine ta 11 rfl (PV.loadN (vs := ints m.change.flat) rfl Tryz.underlying28 rfl sz28 rfl (fun _ h => h.2.1) (ChangeT.len m.change) (MsgT.sub_change m 0 rfl (by decide) (whole (ChangeT.len m.change)))) ?_
 refine TD.all [5] (by kernel_rfl) rfl ?_
 refine AllT.cons rfl ?_ ?_
 refine TL.buildSlice (cells := #[(.int .i64 (m.kind)), (.int .i64 (m.epoch))]) (Want.plain rfl) rfl rfl rfl Tryz.underlying50 in3 rfl rfl rfl (by as_aux_lemma => kernel_rfl) (fun b68 => ?_)
 refine TL.nil ?_
 refine E1 3 ?_
 refine TD.all [6] (by kernel_rfl) rfl ?_
 refine AllT.cons rfl ?_ ?_
 refine CQ nm160 (wnum_does b4 (.slice none 0 0) ([]) (.slice (some ⟨b68, 0, none⟩) (2) (2)) [m.kind, m.epoch] (by simp)) (SM [2, 1]) (isN_piece 0 rfl rfl rfl rfl) fun vR HR hR => ?_
 obtain ⟨u1, rfl, rfl⟩ := hR
 refine TL.nil ?_
 refine E1 3 ?_
 refine TD.all [9] (by kernel_rfl) rfl ?_
 refine AllT.cons rfl ?_ ?_
 refine CR nm162 (wballot_does b4 u1 (encs [m.kind, m.epoch]) m.ballot (by (have := encs_len [m.kind, m.epoch]); simp only [BallotT.flat, ViewT.flat, ChangeT.flat, List.length_cons, List.length_nil, Vector.length_toList, List.length_append] at *; omega)) (fun _ s => s) fun vR HR hR => ?_
 obtain ⟨u2, rfl, rfl⟩ := hR
 refine TL.nil ?_
 refine E1 3 ?_
 refine TD.all [12] (by kernel_rfl) rfl ?_
 refine AllT.cons rfl ?_ ?_
 refine CR nm163 (wchange_does b4 u2 (encs [m.kind, m.epoch] ++ encs m.ballot.flat) m.change (by (have := encs_len [m.kind, m.epoch]); (have := encs_len (m.ballot.flat)); simp only [BallotT.flat, ViewT.flat, ChangeT.flat, List.length_cons, List.length_nil, Vector.length_toList, List.length_append] at *; omega)) (fun _ s => s) fun vR HR hR => ?_
 obtain ⟨u3, rfl, rfl⟩ := hR
 refine TL.nil ?_
 refine E1 3 ?_
 refine TD.done (by kernel_rfl) ?_
 refine TE.blockEnd ?_
 refine TE.next J3 ?_
 clear J3
 refine sr fun _ J20 => ?_
 refine PS ?_
 refine CR nm165 (wbytes_does b4 u3 (encs [m.kind, m.epoch] ++ encs m.ballot.flat ++ encs m.change.flat) (by (have := encs_len [m.kind, m.epoch]); (have := encs_len (m.ballot.flat)); (have := encs_len (m.change.flat)); simp only [BallotT.flat, ViewT.flat, ChangeT.flat, List.length_cons, List.length_nil, Vector.length_toList, List.length_append] at *; omega)) (fun _ s => s) fun vR HR hR => ?_
 obtain ⟨_, rfl, rfl⟩ := hR
 revert vR
 intro u4
 refine PS ?_
 refine nx J20 ?_
 clear J20
 refine TC.ret ?_
 refine WK [2] ?_
 refine TE.ret1 rfl rfl ?_
 exact ⟨_, rfl, congrArg (fun b => [ownB u4 b 5]) (show (encs [m.kind, m.epoch] ++ encs m.ballot.flat ++ encs m.change.flat) = encM m by simp [encM, kRow, kAsk, encs, *])⟩
 exact AllT.nil
 exact AllT.nil
 exact AllT.nil
 exact AllT.nil
 refine PS ?_
 refine nx J19 ?_
 clear J19
 refine CN ?_
 refine sr fun _ J21 => ?_
 refine PS ?_
 refine TL.dec (fun h77 => ?_) (fun h77 => ?_)
 refine PS ?_
 refine nx J21 ?_
 clear J21
 refine CY ?_
 refine D1 2 mixed ?_
 refine PD 0 ?_
 refine FD 1 0 Tryz.underlying146 sz3 ?_
 refine ta 2 rfl (PV.load1 (v := (.int .i64 (m.kind))) rfl Tryz.underlying3 rfl rfl (fun _ h => h.2.1) (MsgT.at_kind m rfl)) ?_
 refine FD 5 185 Tryz.underlying146 sz44 ?_
 refine ta 6 rfl (PV.loadN (vs := ints m.view.flat) rfl Tryz.underlying44 rfl sz44 rfl (fun _ h => h.2.1) (ViewT.len m.view) (MsgT.sub_view m 0 rfl (by decide) (whole (ViewT.len m.view)))) ?_
 refine TD.all [3] (by kernel_rfl) rfl ?_
 refine AllT.cons rfl ?_ ?_
 refine TL.buildSlice (cells := #[(.int .i64 (m.kind))]) (Want.plain rfl) rfl rfl rfl Tryz.underlying50 in3 rfl rfl rfl (by as_aux_lemma => kernel_rfl) (fun b81 => ?_)
 refine TL.nil ?_
 refine E1 3 ?_
 refine TD.all [4] (by kernel_rfl) rfl ?_
 refine AllT.cons rfl ?_ ?_
 refine CQ nm160 (wnum_does b4 (.slice none 0 0) ([]) (.slice (some ⟨b81, 0, none⟩) (1) (1)) [m.kind] (by simp)) (SM [2, 1]) (isN_piece 0 rfl rfl rfl rfl) fun vR HR hR => ?_
 obtain ⟨u1, rfl, rfl⟩ := hR
 refine TL.nil ?_
 refine E1 3 ?_
 refine TD.all [7] (by kernel_rfl) rfl ?_
 refine AllT.cons rfl ?_ ?_
 refine CR nm164 (wview_does b4 u1 (encs [m.kind]) m.view (by (have := encs_len [m.kind]); simp only [BallotT.flat, ViewT.flat, ChangeT.flat, List.length_cons, List.length_nil, Vector.length_toList, List.length_append] at *; omega)) (fun _ s => s) fun vR HR hR => ?_
 obtain ⟨u2, rfl, rfl⟩ := hR
 refine TL.nil ?_
 refine E1 3 ?_
 refine TD.done (by kernel_rfl) ?_
 refine TE.blockEnd ?_
 refine TE.next J3 ?_
 clear J3
 refine sr fun _ J22 => ?_
 refine PS ?_
 refine CR nm165 (wbytes_does b4 u2 (encs [m.kind] ++ encs m.view.flat) (by (have := encs_len [m.kind]); (have := encs_len (m.view.flat)); simp only [BallotT.flat, ViewT.flat, ChangeT.flat, List.length_cons, List.length_nil, Vector.length_toList, List.length_append] at *; omega)) (fun _ s => s) fun vR HR hR => ?_
 obtain ⟨_, rfl, rfl⟩ := hR
 revert vR
 intro u3
 refine PS ?_
 refine nx J22 ?_
 clear J22
 refine TC.ret ?_
 refine WK [2] ?_
 refine TE.ret1 rfl rfl ?_
 exact ⟨_, rfl, congrArg (fun b => [ownB u3 b 5]) (show (encs [m.kind] ++ encs m.view.flat) = encM m by simp [encM, kRow, kAsk, encs, *])⟩
 exact AllT.nil
 exact AllT.nil
 exact AllT.nil
 refine PS ?_
 refine nx J21 ?_
 clear J21
 refine CN ?_
 refine sr fun _ J23 => ?_
 refine PS ?_
 refine TL.dec (fun h87 => ?_) (fun h87 => ?_)
 refine PS ?_
 refine nx J23 ?_
 clear J23
 refine CY ?_
 refine D1 2 mixed ?_
 refine PD 0 ?_
 refine FD 1 0 Tryz.underlying146 sz3 ?_
 refine ta 2 rfl (PV.load1 (v := (.int .i64 (m.kind))) rfl Tryz.underlying3 rfl rfl (fun _ h => h.2.1) (MsgT.at_kind m rfl)) ?_
 refine FD 3 1 Tryz.underlying146 sz3 ?_
 refine ta 4 rfl (PV.load1 (v := (.int .i64 (m.whose))) rfl Tryz.underlying3 rfl rfl (fun _ h => h.2.1) (MsgT.at_whose m rfl)) ?_
 refine FD 7 185 Tryz.underlying146 sz44 ?_
 refine ta 8 rfl (PV.loadN (vs := ints m.view.flat) rfl Tryz.underlying44 rfl sz44 rfl (fun _ h => h.2.1) (ViewT.len m.view) (MsgT.sub_view m 0 rfl (by decide) (whole (ViewT.len m.view)))) ?_
 refine TD.all [5] (by kernel_rfl) rfl ?_
 refine AllT.cons rfl ?_ ?_
 refine TL.buildSlice (cells := #[(.int .i64 (m.kind)), (.int .i64 (m.whose))]) (Want.plain rfl) rfl rfl rfl Tryz.underlying50 in3 rfl rfl rfl (by as_aux_lemma => kernel_rfl) (fun b93 => ?_)
 refine TL.nil ?_
 refine E1 3 ?_
 refine TD.all [6] (by kernel_rfl) rfl ?_
 refine AllT.cons rfl ?_ ?_
 refine CQ nm160 (wnum_does b4 (.slice none 0 0) ([]) (.slice (some ⟨b93, 0, none⟩) (2) (2)) [m.kind, m.whose] (by simp)) (SM [2, 1]) (isN_piece 0 rfl rfl rfl rfl) fun vR HR hR => ?_
 obtain ⟨u1, rfl, rfl⟩ := hR
 refine TL.nil ?_
 refine E1 3 ?_
 refine TD.all [9] (by kernel_rfl) rfl ?_
 refine AllT.cons rfl ?_ ?_
 refine CR nm164 (wview_does b4 u1 (encs [m.kind, m.whose]) m.view (by (have := encs_len [m.kind, m.whose]); simp only [BallotT.flat, ViewT.flat, ChangeT.flat, List.length_cons, List.length_nil, Vector.length_toList, List.length_append] at *; omega)) (fun _ s => s) fun vR HR hR => ?_
 obtain ⟨u2, rfl, rfl⟩ := hR
 refine TL.nil ?_
 refine E1 3 ?_
 refine TD.done (by kernel_rfl) ?_
 refine TE.blockEnd ?_
 refine TE.next J3 ?_
 clear J3
 refine sr fun _ J24 => ?_
 refine PS ?_
 refine CR nm165 (wbytes_does b4 u2 (encs [m.kind, m.whose] ++ encs m.view.flat) (by (have := encs_len [m.kind, m.whose]); (have := encs_len (m.view.flat)); simp only [BallotT.flat, ViewT.flat, ChangeT.flat, List.length_cons, List.length_nil, Vector.length_toList, List.length_append] at *; omega)) (fun _ s => s) fun vR HR hR => ?_
 obtain ⟨_, rfl, rfl⟩ := hR
 revert vR
 intro u3
 refine PS ?_
 refine nx J24 ?_
 clear J24
 refine TC.ret ?_
 refine WK [2] ?_
 refine TE.ret1 rfl rfl ?_
 exact ⟨_, rfl, congrArg (fun b => [ownB u3 b 5]) (show (encs [m.kind, m.whose] ++ encs m.view.flat) = encM m by simp [encM, kRow, kAsk, encs, *])⟩
 exact AllT.nil
 exact AllT.nil
 exact AllT.nil
 refine PS ?_
 refine nx J23 ?_
 clear J23
 refine CN ?_
 refine TC.skip ?_
 refine TE.blockEnd ?_
 refine TE.next J3 ?_
 clear J3
 refine sr fun _ J25 => ?_
 refine PS ?_
 refine CR nm165 (wbytes_does b4 (.slice none 0 0) ([]) (by simp)) (SM [1, 0]) fun vR HR hR => ?_
 obtain ⟨_, rfl, rfl⟩ := hR
 revert vR
 intro u1
 refine PS ?_
 refine nx J25 ?_
 clear J25
 refine TC.ret ?_
 refine WK [2] ?_
 refine TE.ret1 rfl rfl ?_
 exact ⟨_, rfl, congrArg (fun b => [ownB u1 b 5]) (show ([] : List UInt8) = encM m by simp [encM, kRow, kAsk, encs, *])⟩
theorem record_does (m : RecT) :
    Leg.Does Tryz.prog 144 #[(.agg (ints m.flat).toArray)] (fun _ => True) [] (Ret (fun r' H => ∃ u, r' = u ∧ H = [ownB u (encR m) 5])) := by
 refine Leg.Does.body (n := 77) Tryz.func144 rfl rfl rfl (fun w0 F hF => ?_)
 refine sr fun _ J1 => ?_
 refine TL.box (Want.plain rfl) rfl rfl rfl rfl (fun b1 => ?_)
 change TL _ _ _ _ _ _ _ _ _ [blkA b1 (ints m.flat) 131]
 refine PS ?_
 refine nx J1 ?_
 clear J1
 refine sr fun _ J2 => ?_
 refine TL.alloc (Want.plain rfl) rfl rfl rfl z224 (fun b4 => ?_)
 refine TL.ownNil 5 (fun on => ?_)
 clear on
 refine PS ?_
 refine nx J2 ?_
 clear J2
 refine TC.seq fun _ J3 => ?_
 refine sr fun _ J4 => ?_
 refine FA 0 Tryz.underlying131 sz3 ?_
 refine tp (PV.load1 (v := (.int .i64 (m.kind))) rfl Tryz.underlying3 rfl rfl (RO 2) (RecT.at_kind m rfl)) ?_
 refine nx J4 ?_
 clear J4
 refine TC.block ?_
 refine sr fun _ J5 => ?_
 refine PS ?_
 refine TL.dec (fun h8 => ?_) (fun h8 => ?_)
 refine PS ?_
 refine nx J5 ?_
 clear J5
 refine CY ?_
 refine D1 2 mixed ?_
 refine PD 0 ?_
 refine FD 1 0 Tryz.underlying131 sz3 ?_
 refine ta 2 rfl (PV.load1 (v := (.int .i64 (m.kind))) rfl Tryz.underlying3 rfl rfl (fun _ h => h.2.1) (RecT.at_kind m rfl)) ?_
 refine FD 5 2 Tryz.underlying131 sz64 ?_
 refine ta 6 rfl (PV.loadN (vs := ints m.row.flat) rfl Tryz.underlying64 rfl sz64 rfl (fun _ h => h.2.1) (RowT.len m.row) (RecT.sub_row m 0 rfl (by decide) (whole (RowT.len m.row)))) ?_
 refine TD.all [3] (by kernel_rfl) rfl ?_
 refine AllT.cons rfl ?_ ?_
 refine TL.buildSlice (cells := #[(.int .i64 (m.kind))]) (Want.plain rfl) rfl rfl rfl Tryz.underlying50 in3 rfl rfl rfl (by as_aux_lemma => kernel_rfl) (fun b12 => ?_)
 refine TL.nil ?_
 refine E1 3 ?_
 refine TD.all [4] (by kernel_rfl) rfl ?_
 refine AllT.cons rfl ?_ ?_
 refine CQ nm160 (wnum_does b4 (.slice none 0 0) ([]) (.slice (some ⟨b12, 0, none⟩) (1) (1)) [m.kind] (by simp)) (SM [2, 1]) (isN_piece 0 rfl rfl rfl rfl) fun vR HR hR => ?_
 obtain ⟨u1, rfl, rfl⟩ := hR
 refine TL.nil ?_
 refine E1 3 ?_
 refine TD.all [7] (by kernel_rfl) rfl ?_
 refine AllT.cons rfl ?_ ?_
 refine CR nm161 (wrow_does b4 u1 (encs [m.kind]) m.row (by (have := encs_len [m.kind]); simp only [BallotT.flat, ViewT.flat, ChangeT.flat, List.length_cons, List.length_nil, Vector.length_toList, List.length_append] at *; omega)) (fun _ s => s) fun vR HR hR => ?_
 obtain ⟨u2, rfl, rfl⟩ := hR
 refine TL.nil ?_
 refine E1 3 ?_
 refine TD.done (by kernel_rfl) ?_
 refine TE.blockEnd ?_
 refine TE.next J3 ?_
 clear J3
 refine sr fun _ J6 => ?_
 refine PS ?_
 refine CR nm165 (wbytes_does b4 u2 (encs [m.kind] ++ encRow m.row) (by (have := encs_len [m.kind]); (have := encRow_len m.row); simp only [BallotT.flat, ViewT.flat, ChangeT.flat, List.length_cons, List.length_nil, Vector.length_toList, List.length_append] at *; omega)) (fun _ s => s) fun vR HR hR => ?_
 obtain ⟨_, rfl, rfl⟩ := hR
 revert vR
 intro u3
 refine PS ?_
 refine nx J6 ?_
 clear J6
 refine TC.ret ?_
 refine WK [2] ?_
 refine TE.ret1 rfl rfl ?_
 exact ⟨_, rfl, congrArg (fun b => [ownB u3 b 5]) (show (encs [m.kind] ++ encRow m.row) = encR m by simp [encR, kRow, kAsk, encs, *])⟩
 exact AllT.nil
 exact AllT.nil
 exact AllT.nil
 refine PS ?_
 refine nx J5 ?_
 clear J5
 refine CN ?_
 refine sr fun _ J7 => ?_
 refine PS ?_
 refine TL.dec (fun h18 => ?_) (fun h18 => ?_)
 refine PS ?_
 refine nx J7 ?_
 clear J7
 refine CY ?_
 refine D1 2 mixed ?_
 refine PD 0 ?_
 refine FD 1 0 Tryz.underlying131 sz3 ?_
 refine ta 2 rfl (PV.load1 (v := (.int .i64 (m.kind))) rfl Tryz.underlying3 rfl rfl (fun _ h => h.2.1) (RecT.at_kind m rfl)) ?_
 refine FD 3 1 Tryz.underlying131 sz3 ?_
 refine ta 4 rfl (PV.load1 (v := (.int .i64 (m.whose))) rfl Tryz.underlying3 rfl rfl (fun _ h => h.2.1) (RecT.at_whose m rfl)) ?_
 refine FD 7 2 Tryz.underlying131 sz64 ?_
 refine ta 8 rfl (PV.loadN (vs := ints m.row.flat) rfl Tryz.underlying64 rfl sz64 rfl (fun _ h => h.2.1) (RowT.len m.row) (RecT.sub_row m 0 rfl (by decide) (whole (RowT.len m.row)))) ?_
 refine TD.all [5] (by kernel_rfl) rfl ?_
 refine AllT.cons rfl ?_ ?_
 refine TL.buildSlice (cells := #[(.int .i64 (m.kind)), (.int .i64 (m.whose))]) (Want.plain rfl) rfl rfl rfl Tryz.underlying50 in3 rfl rfl rfl (by as_aux_lemma => kernel_rfl) (fun b24 => ?_)
 refine TL.nil ?_
 refine E1 3 ?_
 refine TD.all [6] (by kernel_rfl) rfl ?_
 refine AllT.cons rfl ?_ ?_
 refine CQ nm160 (wnum_does b4 (.slice none 0 0) ([]) (.slice (some ⟨b24, 0, none⟩) (2) (2)) [m.kind, m.whose] (by simp)) (SM [2, 1]) (isN_piece 0 rfl rfl rfl rfl) fun vR HR hR => ?_
 obtain ⟨u1, rfl, rfl⟩ := hR
 refine TL.nil ?_
 refine E1 3 ?_
 refine TD.all [9] (by kernel_rfl) rfl ?_
 refine AllT.cons rfl ?_ ?_
 refine CR nm161 (wrow_does b4 u1 (encs [m.kind, m.whose]) m.row (by (have := encs_len [m.kind, m.whose]); simp only [BallotT.flat, ViewT.flat, ChangeT.flat, List.length_cons, List.length_nil, Vector.length_toList, List.length_append] at *; omega)) (fun _ s => s) fun vR HR hR => ?_
 obtain ⟨u2, rfl, rfl⟩ := hR
 refine TL.nil ?_
 refine E1 3 ?_
 refine TD.done (by kernel_rfl) ?_
 refine TE.blockEnd ?_
 refine TE.next J3 ?_
 clear J3
 refine sr fun _ J8 => ?_
 refine PS ?_
 refine CR nm165 (wbytes_does b4 u2 (encs [m.kind, m.whose] ++ encRow m.row) (by (have := encs_len [m.kind, m.whose]); (have := encRow_len m.row); simp only [BallotT.flat, ViewT.flat, ChangeT.flat, List.length_cons, List.length_nil, Vector.length_toList, List.length_append] at *; omega)) (fun _ s => s) fun vR HR hR => ?_
 obtain ⟨_, rfl, rfl⟩ := hR
 revert vR
 intro u3
 refine PS ?_
 refine nx J8 ?_
 clear J8
 refine TC.ret ?_
 refine WK [2] ?_
 refine TE.ret1 rfl rfl ?_
 exact ⟨_, rfl, congrArg (fun b => [ownB u3 b 5]) (show (encs [m.kind, m.whose] ++ encRow m.row) = encR m by simp [encR, kRow, kAsk, encs, *])⟩
 exact AllT.nil
 exact AllT.nil
 exact AllT.nil
 refine PS ?_
 refine nx J7 ?_
 clear J7
 refine CN ?_
 refine sr fun _ J9 => ?_
 refine PS ?_
 refine TL.dec (fun h30 => ?_) (fun h30 => ?_)
 refine PS ?_
 refine nx J9 ?_
 clear J9
 refine CY ?_
 refine TC.region ?_
 refine PS ?_
 refine FA 0 Tryz.underlying131 sz3 ?_
 refine tp (PV.load1 (v := (.int .i64 (m.kind))) rfl Tryz.underlying3 rfl rfl (RO 2) (RecT.at_kind m rfl)) ?_
 refine FA 1 Tryz.underlying131 sz3 ?_
 refine tp (PV.load1 (v := (.int .i64 (m.whose))) rfl Tryz.underlying3 rfl rfl (RO 2) (RecT.at_whose m rfl)) ?_
 refine TL.buildSlice (cells := #[(.int .i64 (m.kind)), (.int .i64 (m.whose))]) (Want.plain rfl) rfl rfl rfl Tryz.underlying50 in3 rfl rfl rfl (by as_aux_lemma => kernel_rfl) (fun b36 => ?_)
 refine CQ nm160 (wnum_does b4 (.slice none 0 0) ([]) (.slice (some ⟨b36, 0, none⟩) (2) (2)) [m.kind, m.whose] (by simp)) (SM [2, 1]) (isN_piece 0 rfl rfl rfl rfl) fun vR HR hR => ?_
 obtain ⟨u1, rfl, rfl⟩ := hR
 refine TL.nil ?_
 refine TE.blockEnd ?_
 refine TE.next J3 ?_
 clear J3
 refine sr fun _ J10 => ?_
 refine PS ?_
 refine CR nm165 (wbytes_does b4 u1 (encs [m.kind, m.whose]) (by (have := encs_len [m.kind, m.whose]); simp only [BallotT.flat, ViewT.flat, ChangeT.flat, List.length_cons, List.length_nil, Vector.length_toList, List.length_append] at *; omega)) (fun _ s => s) fun vR HR hR => ?_
 obtain ⟨_, rfl, rfl⟩ := hR
 revert vR
 intro u2
 refine PS ?_
 refine nx J10 ?_
 clear J10
 refine TC.ret ?_
 refine WK [2] ?_
 refine TE.ret1 rfl rfl ?_
 exact ⟨_, rfl, congrArg (fun b => [ownB u2 b 5]) (show (encs [m.kind, m.whose]) = encR m by simp [encR, kRow, kAsk, encs, *])⟩
 refine PS ?_
 refine nx J9 ?_
 clear J9
 refine CN ?_
 refine sr fun _ J11 => ?_
 refine PS ?_
 refine TL.dec (fun h39 => ?_) (fun h39 => ?_)
 refine PS ?_
 refine nx J11 ?_
 clear J11
 refine CY ?_
 refine D1 2 mixed ?_
 refine PD 0 ?_
 refine FD 1 0 Tryz.underlying131 sz3 ?_
 refine ta 2 rfl (PV.load1 (v := (.int .i64 (m.kind))) rfl Tryz.underlying3 rfl rfl (fun _ h => h.2.1) (RecT.at_kind m rfl)) ?_
 refine FD 3 176 Tryz.underlying131 sz3 ?_
 refine ta 4 rfl (PV.load1 (v := (.int .i64 (m.epoch))) rfl Tryz.underlying3 rfl rfl (fun _ h => h.2.1) (RecT.at_epoch m rfl)) ?_
 refine FD 7 177 Tryz.underlying131 sz95 ?_
 refine ta 8 rfl (PV.loadN (vs := ints m.ballot.flat) rfl Tryz.underlying95 rfl sz95 rfl (fun _ h => h.2.1) (BallotT.len m.ballot) (RecT.sub_ballot m 0 rfl (by decide) (whole (BallotT.len m.ballot)))) ?_
 refine TD.all [5] (by kernel_rfl) rfl ?_
 refine AllT.cons rfl ?_ ?_
 refine TL.buildSlice (cells := #[(.int .i64 (m.kind)), (.int .i64 (m.epoch))]) (Want.plain rfl) rfl rfl rfl Tryz.underlying50 in3 rfl rfl rfl (by as_aux_lemma => kernel_rfl) (fun b45 => ?_)
 refine TL.nil ?_
 refine E1 3 ?_
 refine TD.all [6] (by kernel_rfl) rfl ?_
 refine AllT.cons rfl ?_ ?_
 refine CQ nm160 (wnum_does b4 (.slice none 0 0) ([]) (.slice (some ⟨b45, 0, none⟩) (2) (2)) [m.kind, m.epoch] (by simp)) (SM [2, 1]) (isN_piece 0 rfl rfl rfl rfl) fun vR HR hR => ?_
 obtain ⟨u1, rfl, rfl⟩ := hR
 refine TL.nil ?_
 refine E1 3 ?_
 refine TD.all [9] (by kernel_rfl) rfl ?_
 refine AllT.cons rfl ?_ ?_
 refine CR nm162 (wballot_does b4 u1 (encs [m.kind, m.epoch]) m.ballot (by (have := encs_len [m.kind, m.epoch]); simp only [BallotT.flat, ViewT.flat, ChangeT.flat, List.length_cons, List.length_nil, Vector.length_toList, List.length_append] at *; omega)) (fun _ s => s) fun vR HR hR => ?_
 obtain ⟨u2, rfl, rfl⟩ := hR
 refine TL.nil ?_
 refine E1 3 ?_
 refine TD.done (by kernel_rfl) ?_
 refine TE.blockEnd ?_
 refine TE.next J3 ?_
 clear J3
 refine sr fun _ J12 => ?_
 refine PS ?_
 refine CR nm165 (wbytes_does b4 u2 (encs [m.kind, m.epoch] ++ encs m.ballot.flat) (by (have := encs_len [m.kind, m.epoch]); (have := encs_len (m.ballot.flat)); simp only [BallotT.flat, ViewT.flat, ChangeT.flat, List.length_cons, List.length_nil, Vector.length_toList, List.length_append] at *; omega)) (fun _ s => s) fun vR HR hR => ?_
 obtain ⟨_, rfl, rfl⟩ := hR
 revert vR
 intro u3
 refine PS ?_
 refine nx J12 ?_
 clear J12
 refine TC.ret ?_
 refine WK [2] ?_
 refine TE.ret1 rfl rfl ?_
 exact ⟨_, rfl, congrArg (fun b => [ownB u3 b 5]) (show (encs [m.kind, m.epoch] ++ encs m.ballot.flat) = encR m by simp [encR, kRow, kAsk, encs, *])⟩
 exact AllT.nil
 exact AllT.nil
 exact AllT.nil
 refine PS ?_
 refine nx J11 ?_
 clear J11
 refine CN ?_
 refine sr fun _ J13 => ?_
 refine PS ?_
 refine TL.dec (fun h51 => ?_) (fun h51 => ?_)
 refine PS ?_
 refine nx J13 ?_
 clear J13
 refine CY ?_
 refine D1 2 mixed ?_
 refine PD 0 ?_
 refine FD 1 0 Tryz.underlying131 sz3 ?_
 refine ta 2 rfl (PV.load1 (v := (.int .i64 (m.kind))) rfl Tryz.underlying3 rfl rfl (fun _ h => h.2.1) (RecT.at_kind m rfl)) ?_
 refine FD 3 176 Tryz.underlying131 sz3 ?_
 refine ta 4 rfl (PV.load1 (v := (.int .i64 (m.epoch))) rfl Tryz.underlying3 rfl rfl (fun _ h => h.2.1) (RecT.at_epoch m rfl)) ?_
 refine FD 7 177 Tryz.underlying131 sz95 ?_
 refine ta 8 rfl (PV.loadN (vs := ints m.ballot.flat) rfl Tryz.underlying95 rfl sz95 rfl (fun _ h => h.2.1) (BallotT.len m.ballot) (RecT.sub_ballot m 0 rfl (by decide) (whole (BallotT.len m.ballot)))) ?_
 refine FD 10 179 Tryz.underlying131 sz28 ?_
 refine ta 11 rfl (PV.loadN (vs := ints m.change.flat) rfl Tryz.underlying28 rfl sz28 rfl (fun _ h => h.2.1) (ChangeT.len m.change) (RecT.sub_change m 0 rfl (by decide) (whole (ChangeT.len m.change)))) ?_
 refine TD.all [5] (by kernel_rfl) rfl ?_
 refine AllT.cons rfl ?_ ?_
 refine TL.buildSlice (cells := #[(.int .i64 (m.kind)), (.int .i64 (m.epoch))]) (Want.plain rfl) rfl rfl rfl Tryz.underlying50 in3 rfl rfl rfl (by as_aux_lemma => kernel_rfl) (fun b57 => ?_)
 refine TL.nil ?_
 refine E1 3 ?_
 refine TD.all [6] (by kernel_rfl) rfl ?_
 refine AllT.cons rfl ?_ ?_
 refine CQ nm160 (wnum_does b4 (.slice none 0 0) ([]) (.slice (some ⟨b57, 0, none⟩) (2) (2)) [m.kind, m.epoch] (by simp)) (SM [2, 1]) (isN_piece 0 rfl rfl rfl rfl) fun vR HR hR => ?_
 obtain ⟨u1, rfl, rfl⟩ := hR
 refine TL.nil ?_
 refine E1 3 ?_
 refine TD.all [9] (by kernel_rfl) rfl ?_
 refine AllT.cons rfl ?_ ?_
 refine CR nm162 (wballot_does b4 u1 (encs [m.kind, m.epoch]) m.ballot (by (have := encs_len [m.kind, m.epoch]); simp only [BallotT.flat, ViewT.flat, ChangeT.flat, List.length_cons, List.length_nil, Vector.length_toList, List.length_append] at *; omega)) (fun _ s => s) fun vR HR hR => ?_
 obtain ⟨u2, rfl, rfl⟩ := hR
 refine TL.nil ?_
 refine E1 3 ?_
 refine TD.all [12] (by kernel_rfl) rfl ?_
 refine AllT.cons rfl ?_ ?_
 refine CR nm163 (wchange_does b4 u2 (encs [m.kind, m.epoch] ++ encs m.ballot.flat) m.change (by (have := encs_len [m.kind, m.epoch]); (have := encs_len (m.ballot.flat)); simp only [BallotT.flat, ViewT.flat, ChangeT.flat, List.length_cons, List.length_nil, Vector.length_toList, List.length_append] at *; omega)) (fun _ s => s) fun vR HR hR => ?_
 obtain ⟨u3, rfl, rfl⟩ := hR
 refine TL.nil ?_
 refine E1 3 ?_
 refine TD.done (by kernel_rfl) ?_
 refine TE.blockEnd ?_
 refine TE.next J3 ?_
 clear J3
 refine sr fun _ J14 => ?_
 refine PS ?_
 refine CR nm165 (wbytes_does b4 u3 (encs [m.kind, m.epoch] ++ encs m.ballot.flat ++ encs m.change.flat) (by (have := encs_len [m.kind, m.epoch]); (have := encs_len (m.ballot.flat)); (have := encs_len (m.change.flat)); simp only [BallotT.flat, ViewT.flat, ChangeT.flat, List.length_cons, List.length_nil, Vector.length_toList, List.length_append] at *; omega)) (fun _ s => s) fun vR HR hR => ?_
 obtain ⟨_, rfl, rfl⟩ := hR
 revert vR
 intro u4
 refine PS ?_
 refine nx J14 ?_
 clear J14
 refine TC.ret ?_
 refine WK [2] ?_
 refine TE.ret1 rfl rfl ?_
 exact ⟨_, rfl, congrArg (fun b => [ownB u4 b 5]) (show (encs [m.kind, m.epoch] ++ encs m.ballot.flat ++ encs m.change.flat) = encR m by simp [encR, kRow, kAsk, encs, *])⟩
 exact AllT.nil
 exact AllT.nil
 exact AllT.nil
 exact AllT.nil
 refine PS ?_
 refine nx J13 ?_
 clear J13
 refine CN ?_
 refine sr fun _ J15 => ?_
 refine PS ?_
 refine TL.dec (fun h66 => ?_) (fun h66 => ?_)
 refine PS ?_
 refine nx J15 ?_
 clear J15
 refine CY ?_
 refine D1 2 mixed ?_
 refine PD 0 ?_
 refine FD 1 0 Tryz.underlying131 sz3 ?_
 refine ta 2 rfl (PV.load1 (v := (.int .i64 (m.kind))) rfl Tryz.underlying3 rfl rfl (fun _ h => h.2.1) (RecT.at_kind m rfl)) ?_
 refine FD 5 182 Tryz.underlying131 sz44 ?_
 refine ta 6 rfl (PV.loadN (vs := ints m.view.flat) rfl Tryz.underlying44 rfl sz44 rfl (fun _ h => h.2.1) (ViewT.len m.view) (RecT.sub_view m 0 rfl (by decide) (whole (ViewT.len m.view)))) ?_
 refine TD.all [3] (by kernel_rfl) rfl ?_
 refine AllT.cons rfl ?_ ?_
 refine TL.buildSlice (cells := #[(.int .i64 (m.kind))]) (Want.plain rfl) rfl rfl rfl Tryz.underlying50 in3 rfl rfl rfl (by as_aux_lemma => kernel_rfl) (fun b70 => ?_)
 refine TL.nil ?_
 refine E1 3 ?_
 refine TD.all [4] (by kernel_rfl) rfl ?_
 refine AllT.cons rfl ?_ ?_
 refine CQ nm160 (wnum_does b4 (.slice none 0 0) ([]) (.slice (some ⟨b70, 0, none⟩) (1) (1)) [m.kind] (by simp)) (SM [2, 1]) (isN_piece 0 rfl rfl rfl rfl) fun vR HR hR => ?_
 obtain ⟨u1, rfl, rfl⟩ := hR
 refine TL.nil ?_
 refine E1 3 ?_
 refine TD.all [7] (by kernel_rfl) rfl ?_
 refine AllT.cons rfl ?_ ?_
 refine CR nm164 (wview_does b4 u1 (encs [m.kind]) m.view (by (have := encs_len [m.kind]); simp only [BallotT.flat, ViewT.flat, ChangeT.flat, List.length_cons, List.length_nil, Vector.length_toList, List.length_append] at *; omega)) (fun _ s => s) fun vR HR hR => ?_
 obtain ⟨u2, rfl, rfl⟩ := hR
 refine TL.nil ?_
 refine E1 3 ?_
 refine TD.done (by kernel_rfl) ?_
 refine TE.blockEnd ?_
 refine TE.next J3 ?_
 clear J3
 refine sr fun _ J16 => ?_
 refine PS ?_
 refine CR nm165 (wbytes_does b4 u2 (encs [m.kind] ++ encs m.view.flat) (by (have := encs_len [m.kind]); (have := encs_len (m.view.flat)); simp only [BallotT.flat, ViewT.flat, ChangeT.flat, List.length_cons, List.length_nil, Vector.length_toList, List.length_append] at *; omega)) (fun _ s => s) fun vR HR hR => ?_
 obtain ⟨_, rfl, rfl⟩ := hR
 revert vR
 intro u3
 refine PS ?_
 refine nx J16 ?_
 clear J16
 refine TC.ret ?_
 refine WK [2] ?_
 refine TE.ret1 rfl rfl ?_
 exact ⟨_, rfl, congrArg (fun b => [ownB u3 b 5]) (show (encs [m.kind] ++ encs m.view.flat) = encR m by simp [encR, kRow, kAsk, encs, *])⟩
 exact AllT.nil
 exact AllT.nil
 exact AllT.nil
 refine PS ?_
 refine nx J15 ?_
 clear J15
 refine CN ?_
 refine TC.skip ?_
 refine TE.blockEnd ?_
 refine TE.next J3 ?_
 clear J3
 refine sr fun _ J17 => ?_
 refine PS ?_
 refine CR nm165 (wbytes_does b4 (.slice none 0 0) ([]) (by simp)) (SM [1, 0]) fun vR HR hR => ?_
 obtain ⟨_, rfl, rfl⟩ := hR
 revert vR
 intro u1
 refine PS ?_
 refine nx J17 ?_
 clear J17
 refine TC.ret ?_
 refine WK [2] ?_
 refine TE.ret1 rfl rfl ?_
 exact ⟨_, rfl, congrArg (fun b => [ownB u1 b 5]) (show ([] : List UInt8) = encR m by simp [encR, kRow, kAsk, encs, *])⟩
end Go.Proofs.YtobdfjdoilnfcaaGreat
end

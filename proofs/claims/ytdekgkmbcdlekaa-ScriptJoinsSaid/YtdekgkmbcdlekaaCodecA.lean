/-
  Numbers as bytes, in plain words: what Reader.Num answers, and the bits that it reckons with.
-/
import Derived.Test.YtdekgkmbcdlekaaApi
import Derived.Test.YtdekgkmbcdlekaaLegF
namespace Codec
open Go Leg Api

/-- Num's answer: the number, and the bytes behind it. k pieces are behind, their sum is acc. -/
def parse : Nat → Nat → List UInt8 → Option (Nat × List UInt8)
  | _, _, [] => none
  | k, acc, c :: cs =>
    if k = 9 then none
    else if 128 ≤ c.toNat then parse (k + 1) (acc + c.toNat % 128 * 2 ^ (7 * k)) cs
    else if c.toNat = 0 ∧ 0 < k then none
    else some (acc + c.toNat % 128 * 2 ^ (7 * k), cs)

theorem drop_getD (bs : List UInt8) (k : Nat) (h : k < bs.length) : bs.drop k = bs.getD k 0 :: bs.drop (k + 1) := by
  rw [List.drop_eq_getElem_cons h]; simp [List.getD_eq_getElem?_getD, List.getElem?_eq_getElem h]

theorem and127 (c : Nat) (h : c < 256) : andI .u8 (c : Int) 127 = ((c % 128 : Nat) : Int) := by
  have e : (BitVec.ofInt 8 (c : Int) &&& BitVec.ofInt 8 127).toNat = c % 128 := by
    rw [BitVec.toNat_and]
    have h1 : (BitVec.ofInt 8 (c : Int)).toNat = c := by simp; omega
    have h2 : (BitVec.ofInt 8 127).toNat = 2 ^ 7 - 1 := by decide
    rw [h1, h2, Nat.and_two_pow_sub_one_eq_mod]
  show IntKind.u8.wrap ((BitVec.ofInt 8 (c : Int) &&& BitVec.ofInt 8 127).toNat : Int) = _
  rw [e]
  exact wrap_u8 (by omega) (by omega)
theorem pow7 (k : Nat) (h : k ≤ 8) : 2 ^ (7 * k) ≤ 2 ^ 56 := Nat.pow_le_pow_right (by decide) (by omega)
theorem shl7 (m k : Nat) (hm : m < 128) (hk : k ≤ 8) : IntKind.i64.wrap ((m : Int) * 2 ^ min (7 * (k : Int)).toNat IntKind.i64.bits) = ((m * 2 ^ (7 * k) : Nat) : Int) := by
  have e : min (7 * (k : Int)).toNat IntKind.i64.bits = 7 * k := by simp only [IntKind.bits]; omega
  have hp := pow7 k hk
  have h2 : m * 2 ^ (7 * k) ≤ 127 * 2 ^ 56 := Nat.mul_le_mul (by omega) hp
  have e2 : ((m : Int) * 2 ^ (7 * k)) = ((m * 2 ^ (7 * k) : Nat) : Int) := by simp
  rw [e, e2]
  exact wrap_i64 (by omega) (by omega)
theorem or_add (a m k : Nat) (ha : a < 2 ^ (7 * k)) (hm : m < 128) (hk : k ≤ 8) : orI .i64 (a : Int) ((m * 2 ^ (7 * k) : Nat) : Int) = ((a + m * 2 ^ (7 * k) : Nat) : Int) := by
  have hp := pow7 k hk
  have h2 : m * 2 ^ (7 * k) ≤ 127 * 2 ^ 56 := Nat.mul_le_mul (by omega) hp
  have hs : a + m * 2 ^ (7 * k) < 2 ^ 63 := by omega
  have h1 : (BitVec.ofInt 64 (a : Int)).toNat = a := by simp; omega
  have h3 : (BitVec.ofInt 64 ((m * 2 ^ (7 * k) : Nat) : Int)).toNat = m * 2 ^ (7 * k) := by rw [BitVec.toNat_ofInt]; omega
  have e : (BitVec.ofInt 64 (a : Int) ||| BitVec.ofInt 64 ((m * 2 ^ (7 * k) : Nat) : Int)).toNat = a + m * 2 ^ (7 * k) := by
    rw [BitVec.toNat_or, h1, h3, Nat.or_comm, ← Nat.shiftLeft_eq, ← Nat.shiftLeft_add_eq_or_of_lt ha, Nat.add_comm]
  show IntKind.i64.wrap ((BitVec.ofInt 64 (a : Int) ||| BitVec.ofInt 64 ((m * 2 ^ (7 * k) : Nat) : Int)).toNat : Int) = _
  rw [e]
  exact wrap_i64 (by omega) (by omega)
theorem grow7 (a m k : Nat) (ha : a < 2 ^ (7 * k)) (hm : m < 128) : a + m * 2 ^ (7 * k) < 2 ^ (7 * (k + 1)) := by
  have : 2 ^ (7 * (k + 1)) = 128 * 2 ^ (7 * k) := by rw [Nat.mul_add, Nat.pow_add]; omega
  have : m * 2 ^ (7 * k) ≤ 127 * 2 ^ (7 * k) := Nat.mul_le_mul_right _ (by omega)
  omega

/-! ### Bytes in memory -/
/-- A slice's value, from place k on. -/
def cutB : Value → Nat → Value
  | .slice (some a) n c, k => .slice (some (cutLo a c k)) (n - k) (c - k)
  | v, _ => v
/-- A slice's value holds these bytes, in what lies besides. -/
def IsB (v : Value) (bs : List UInt8) (F : Hl) : Prop :=
  (v = .slice none 0 0 ∧ bs = []) ∨ ∃ b off cap cs T z, v = .slice (some ⟨b, off, none⟩) bs.length cap ∧ bs.length ≤ cap ∧ cap ≤ 9223372036854775807 ∧
    F b = some (.cells (List.toArray cs) T z) ∧ ∀ j, j < bs.length → cs[off + j]? = some (.int .u8 ((bs.getD j 0).toNat : Nat))
theorem IsB.cut {v : Value} {bs : List UInt8} {F : Hl} (h : IsB v bs F) (k : Nat) (hk : k ≤ bs.length) : IsB (cutB v k) (bs.drop k) F := by
  rcases h with ⟨rfl, rfl⟩ | ⟨b, off, cap, cs, T, z, rfl, h1, h2, h3, h4⟩
  · exact .inl ⟨rfl, by simp⟩
  · refine .inr ?_
    by_cases e : cap = k
    · refine ⟨b, off, cap - k, cs, T, z, by simp [cutB, cutLo, e], by simp; omega, by omega, h3, fun j hj => ?_⟩
      simp at hj; omega
    · refine ⟨b, off + k, cap - k, cs, T, z, by simp [cutB, cutLo, e, addL], by simp; omega, by omega, h3, fun j hj => ?_⟩
      simp at hj
      have := h4 (k + j) (by omega)
      rw [Nat.add_assoc, this]
      simp [List.getD_eq_getElem?_getD]
theorem IsB.more {v : Value} {bs : List UInt8} {F g : Hl} (h : IsB v bs F) (d : Dj g F) : IsB v bs (jn g F) := by
  rcases h with h | ⟨b, off, cap, cs, T, z, h0, h1, h2, h3, h4⟩
  · exact .inl h
  · exact .inr ⟨b, off, cap, cs, T, z, h0, h1, h2, Le.right d _ _ h3, h4⟩
theorem IsB.len {v : Value} {bs : List UInt8} {F : Hl} (h : IsB v bs F) : SlLen v bs.length := by
  rcases h with ⟨rfl, rfl⟩ | ⟨b, off, cap, cs, T, z, rfl, _⟩
  · exact ⟨_, _, rfl⟩
  · exact ⟨_, _, rfl⟩
theorem IsB.src {v : Value} {bs : List UInt8} {F : Hl} (h : IsB v bs F) {S : World → Prop} (hS : ∀ w, S w → Frm F w) : Src S v bs.length (u8s bs) 1 := by
  refine ⟨by simp [u8s], ?_⟩
  rcases h with ⟨rfl, rfl⟩ | ⟨b, off, cap, cs, T, z, rfl, h1, h2, h3, h4⟩
  · exact .inl ⟨rfl, rfl⟩
  · refine .inr ⟨⟨b, off, none⟩, cap, rfl, fun w s j u hj => ?_⟩
    rw [addL, cell_ofL (hS w s b _ h3)]
    have hl := (List.getElem?_eq_some_iff.1 hj).1
    rw [u8s_length] at hl
    rw [h4 j hl]
    simp only [u8s, List.getElem?_map, List.getElem?_eq_getElem hl, Option.map_some] at hj
    simpa [List.getD_eq_getElem?_getD, hl] using hj
/-- An owned slice of bytes, lent to be read. -/
theorem isB_own (i : Nat) {v : Value} {bs : List UInt8} {e : Nat} {B : List HP} {F : Hl} (hi : Nat.blt i B.length = true) (hH : B.getD i (fun _ => True) = ownB v bs e) : ∀ g, Dj g F → sep B g → IsB v bs (jn g F) := fun g _ s => by
  obtain ⟨h1, h2, d', rfl, a, _⟩ := sep_get i (lb hi) s
  rw [hH] at a
  rcases a with ⟨_, ⟨h0, hn, _⟩ | ⟨g, cap, cur, hv, hh, h3, h4, h5, h6⟩⟩
  · exact .inl ⟨h0, List.eq_nil_of_length_eq_zero hn⟩
  · refine .inr ⟨g, 0, cap, cur.toList, e, (0, 0), hv, h3, by simp only [maxLen] at h4; omega, ?_, fun j hj => ?_⟩
    · exact jn_some (jn_some (by rw [hh]; simp [sg]))
    · rw [Nat.mul_one] at h6
      have e1 : (cur.toList.take bs.length)[j]? = some (.int .u8 ((bs.getD j 0).toNat : Nat)) := by
        rw [h6]; simp [u8s, List.getD_eq_getElem?_getD, hj]
      rw [List.getElem?_take, if_pos hj] at e1
      simpa using e1
theorem IsB.one {v : Value} {bs : List UInt8} {F : Hl} (h : IsB v bs F) : v.oneCell' = true := by
  rcases h with ⟨rfl, _⟩ | ⟨b, off, cap, cs, T, z, rfl, _⟩ <;> rfl
/-- v' holds a later part of what v holds. -/
def Tail (v : Value) (bs : List UInt8) (v' : Value) (r : List UInt8) : Prop := ∀ F, IsB v bs F → IsB v' r F
theorem Tail.refl (v : Value) (bs : List UInt8) : Tail v bs v bs := fun _ h => h
theorem Tail.cut {v : Value} {bs : List UInt8} (k : Nat) (hk : k ≤ bs.length) : Tail v bs (cutB v k) (bs.drop k) := fun _ h => h.cut k hk
theorem Tail.trans {v v' v'' : Value} {bs r r' : List UInt8} (h : Tail v bs v' r) (g : Tail v' r v'' r') : Tail v bs v'' r' := fun F x => g F (h F x)

/-! ### Readers -/
/-- What is read of bytes: something, and the bytes behind it; or nothing. -/
abbrev Ps (α : Type) := List UInt8 → Option (α × List UInt8)
def pr {α : Type} (a : α) : Ps α := fun bs => some (a, bs)
def pf {α : Type} : Ps α := fun _ => none
def pb {α β : Type} (p : Ps α) (q : α → Ps β) : Ps β := fun bs => match p bs with
  | none => none
  | some (a, r) => q a r
theorem pb_some {α β : Type} {p : Ps α} {q : α → Ps β} {bs r : List UInt8} {a : α} (h : p bs = some (a, r)) : pb p q bs = q a r := by simp [pb, h]
theorem pb_none {α β : Type} {p : Ps α} {q : α → Ps β} {bs : List UInt8} (h : p bs = none) : pb p q bs = none := by simp [pb, h]
def numP : Ps Int := fun bs => match parse 0 0 bs with
  | none => none
  | some (n, r) => some ((n : Int), r)
theorem numP_some {bs r : List UInt8} {n : Nat} (h : parse 0 0 bs = some (n, r)) : numP bs = some ((n : Int), r) := by simp [numP, h]
theorem numP_none {bs : List UInt8} (h : parse 0 0 bs = none) : numP bs = none := by simp [numP, h]
def smallP (lim : Int) : Ps Int := pb numP fun n => if lim ≤ n then pf else pr n
def fix5 (p : Ps Int) : Ps (Vector Int 5) := pb p fun a => pb p fun b => pb p fun c => pb p fun d => pb p fun e => pr #v[a, b, c, d, e]
def cellP : Ps CellT := pb (smallP 1099511627777) fun i => pb (smallP 1099511627777) fun o => pb (smallP 1099511627777) fun a => pb (smallP 1099511627777) fun b => pb (smallP 1099511627777) fun c => pb (smallP 1099511627777) fun d => pb (smallP 1099511627777) fun e => pr ⟨i, o, #v[a, b, c, d, e]⟩
def viewP : Ps ViewT := pb numP fun i => pb (smallP 32) fun o => pb (smallP 6) fun a => pb (smallP 6) fun b => pb (smallP 6) fun c => pb (smallP 6) fun d => pb (smallP 6) fun e => pr ⟨i, o, #v[a, b, c, d, e]⟩
def changeP : Ps ChangeT := pb (smallP 2) fun a => pb (smallP 5) fun b => pb (smallP 5) fun c => pr ⟨a, b, c⟩
def ballotP : Ps BallotT := pb numP fun a => pb (smallP 5) fun b => pr ⟨a, b⟩
/-- Cells from place k on. -/
def cellsP : (m k : Nat) → RowT → Ps RowT
  | 0, _, x => pr x
  | m + 1, k, x => pb cellP fun c => cellsP m (k + 1) (if h : k < 4 then { x with cells := x.cells.set k c } else x)
def leftP : (m i k : Nat) → RowT → Ps RowT
  | 0, _, _, x => pr x
  | m + 1, i, k, x => pb cellP fun c => leftP m i (k + 1) (if h : i < 5 ∧ k < 4 then { x with left := x.left.set i ((x.left[i]'h.1).set k c h.2) h.1 } else x)
def heirsP : (m i : Nat) → RowT → Ps RowT
  | 0, _, x => pr x
  | m + 1, i, x => pb numP fun n =>
    let y : RowT := if h : i < 5 then { x with heir := x.heir.set i n } else x
    if 0 < n then pb (leftP 4 i 0 y) (heirsP m (i + 1)) else heirsP m (i + 1) y
def rowP : Ps RowT := pb numP fun n => pb (cellsP 4 0 { RowT.zero with version := n }) (heirsP 5 0)

theorem pb_pb {α β γ : Type} (p : Ps α) (q : α → Ps β) (t : β → Ps γ) (bs : List UInt8) : pb (pb p q) t bs = pb p (fun a => pb (q a) t) bs := by
  simp only [pb]; cases p bs <;> rfl
section
variable {β : Type} {Q : RowT → Ps β} {x : RowT} {c : CellT} {r r' : List UInt8} {i k : Nat}
theorem cellsP_step (hk : k < 4) (h : cellP r = some (c, r')) : pb (cellsP (4 - k) k x) Q r = pb (cellsP (4 - (k + 1)) (k + 1) { x with cells := x.cells.set k c }) Q r' := by
  rw [show 4 - k = (4 - (k + 1)) + 1 by omega]
  simp only [cellsP]
  rw [pb_pb, pb_some h, dif_pos hk]
theorem cellsP_stop (hk : k < 4) (h : cellP r = none) : pb (cellsP (4 - k) k x) Q r = none := by
  rw [show 4 - k = (4 - (k + 1)) + 1 by omega]
  simp only [cellsP]
  rw [pb_pb, pb_none h]
theorem cellsP_end (hk : ¬ k < 4) : pb (cellsP (4 - k) k x) Q r = Q x r := by
  rw [show 4 - k = 0 by omega]; rfl
theorem leftP_step (hi : i < 5) (hk : k < 4) (h : cellP r = some (c, r')) : pb (leftP (4 - k) i k x) Q r = pb (leftP (4 - (k + 1)) i (k + 1) { x with left := x.left.set i ((x.left[i]).set k c) }) Q r' := by
  rw [show 4 - k = (4 - (k + 1)) + 1 by omega]
  simp only [leftP]
  rw [pb_pb, pb_some h, dif_pos ⟨hi, hk⟩]
theorem leftP_stop (hk : k < 4) (h : cellP r = none) : pb (leftP (4 - k) i k x) Q r = none := by
  rw [show 4 - k = (4 - (k + 1)) + 1 by omega]
  simp only [leftP]
  rw [pb_pb, pb_none h]
theorem leftP_end (hk : ¬ k < 4) : pb (leftP (4 - k) i k x) Q r = Q x r := by
  rw [show 4 - k = 0 by omega]; rfl
theorem heirsP_stop (hi : i < 5) (h : numP r = none) : heirsP (5 - i) i x r = none := by
  rw [show 5 - i = (5 - (i + 1)) + 1 by omega]
  simp only [heirsP]
  rw [pb_none h]
theorem heirsP_yes {n : Int} (hi : i < 5) (h : numP r = some (n, r')) (hn : 0 < n) : heirsP (5 - i) i x r = pb (leftP (4 - 0) i 0 { x with heir := x.heir.set i n }) (heirsP (5 - (i + 1)) (i + 1)) r' := by
  rw [show 5 - i = (5 - (i + 1)) + 1 by omega]
  simp only [heirsP]
  rw [pb_some h, dif_pos hi, if_pos hn]
theorem heirsP_no {n : Int} (hi : i < 5) (h : numP r = some (n, r')) (hn : ¬ 0 < n) : heirsP (5 - i) i x r = heirsP (5 - (i + 1)) (i + 1) { x with heir := x.heir.set i n } r' := by
  rw [show 5 - i = (5 - (i + 1)) + 1 by omega]
  simp only [heirsP]
  rw [pb_some h, dif_pos hi, if_neg hn]
theorem heirsP_end (hi : ¬ i < 5) : heirsP (5 - i) i x r = some (x, r) := by
  rw [show 5 - i = 0 by omega]; rfl
end

/-- What a method of a Reader does, by what it reads. -/
def RdPost {α : Type} (T : TypeId) (gu : List PanicEntry) (enc : α → Value) (p : Ps α) (v : Value) (bs : List UInt8) (rb : Nat) : Ending → List HP → Prop :=
  RetP (fun x H => ∃ a r v', x = enc a ∧ H = [blkA rb [v'] T] ∧ p bs = some (a, r) ∧ Tail v bs v' r) (fun c H => ∃ v', c = gu ∧ H = [blkA rb [v'] T] ∧ p bs = none)

end Codec

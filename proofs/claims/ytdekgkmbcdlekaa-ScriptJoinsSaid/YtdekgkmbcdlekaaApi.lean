/-
  Package api's structs, in plain words, and how they lie in memory: as numbers one behind the other.
-/
import Derived.Test.YtdekgkmbcdlekaaLegE
namespace Api
open Go Leg

def ints (l : List Int) : List Value := l.map (Value.int .i64)
theorem ints_length (l : List Int) : (ints l).length = l.length := by simp [ints]
theorem ints_get (l : List Int) (j : Nat) (h : j < l.length) : (ints l)[j]? = some (.int .i64 (l.getD j 0)) := by simp [ints, h]

structure CellT where
  inn : Int
  out : Int
  given : Vector Int 5
structure RowT where
  version : Int
  cells : Vector CellT 4
  heir : Vector Int 5
  left : Vector (Vector CellT 4) 5
structure ViewT where
  epoch : Int
  members : Int
  heirs : Vector Int 5
structure ChangeT where
  kind : Int
  who : Int
  heir : Int
structure BallotT where
  round : Int
  who : Int

structure MsgT where
  kind : Int
  whose : Int
  row : RowT
  version : Int
  epoch : Int
  ballot : BallotT
  had : BallotT
  change : ChangeT
  view : ViewT
structure RecT where
  kind : Int
  whose : Int
  row : RowT
  epoch : Int
  ballot : BallotT
  change : ChangeT
  view : ViewT
structure OpT where
  kind : Int
  at' : Int
  to' : Int
  key : Int
  n : Int
  change : ChangeT
  mask : Int
  torn : Int
  cut : Int
structure ReplyT where
  op : Int
  err : Int
  value : Int

def CellT.flat (c : CellT) : List Int := c.inn :: c.out :: c.given.toList
def flats (v : List CellT) : List Int := v.flatMap CellT.flat
def RowT.flat (x : RowT) : List Int := x.version :: (flats x.cells.toList ++ (x.heir.toList ++ x.left.toList.flatMap fun v => flats v.toList))
def ViewT.flat (v : ViewT) : List Int := v.epoch :: v.members :: v.heirs.toList
def ChangeT.flat (c : ChangeT) : List Int := [c.kind, c.who, c.heir]
def BallotT.flat (b : BallotT) : List Int := [b.round, b.who]
def MsgT.flat (m : MsgT) : List Int := m.kind :: m.whose :: (m.row.flat ++ (m.version :: m.epoch :: (m.ballot.flat ++ (m.had.flat ++ (m.change.flat ++ m.view.flat)))))
def RecT.flat (m : RecT) : List Int := m.kind :: m.whose :: (m.row.flat ++ (m.epoch :: (m.ballot.flat ++ (m.change.flat ++ m.view.flat))))
def OpT.flat (m : OpT) : List Int := m.kind :: m.at' :: m.to' :: m.key :: m.n :: (m.change.flat ++ [m.mask, m.torn, m.cut])
def ReplyT.flat (m : ReplyT) : List Int := [m.op, m.err, m.value]
def agI (l : List Int) : Value := .agg (ints l).toArray
abbrev CellT.val (c : CellT) : Value := agI c.flat
abbrev RowT.val (x : RowT) : Value := agI x.flat
abbrev ViewT.val (v : ViewT) : Value := agI v.flat
abbrev ChangeT.val (c : ChangeT) : Value := agI c.flat
abbrev BallotT.val (b : BallotT) : Value := agI b.flat
def numV (n : Int) : Value := .int .i64 n

def CellT.zero : CellT := ⟨0, 0, #v[0, 0, 0, 0, 0]⟩
def RowT.zero : RowT := ⟨0, #v[.zero, .zero, .zero, .zero], #v[0, 0, 0, 0, 0], #v[#v[.zero, .zero, .zero, .zero], #v[.zero, .zero, .zero, .zero], #v[.zero, .zero, .zero, .zero], #v[.zero, .zero, .zero, .zero], #v[.zero, .zero, .zero, .zero]]⟩

def ViewT.zero : ViewT := ⟨0, 0, #v[0, 0, 0, 0, 0]⟩
def ChangeT.zero : ChangeT := ⟨0, 0, 0⟩
def BallotT.zero : BallotT := ⟨0, 0⟩
def MsgT.zero : MsgT := ⟨0, 0, .zero, 0, 0, .zero, .zero, .zero, .zero⟩
def RecT.zero : RecT := ⟨0, 0, .zero, 0, .zero, .zero, .zero⟩
def OpT.zero : OpT := ⟨0, 0, 0, 0, 0, .zero, 0, 0, 0⟩
def ReplyT.zero : ReplyT := ⟨0, 0, 0⟩
theorem tl_set {α : Type} {n : Nat} (v : Vector α n) (i : Nat) (x : α) (h : i < n) : (v.set i x h).toList = v.toList.set i x := by
  rcases v with ⟨⟨l⟩, e⟩
  simp [Vector.set, Vector.toList]
theorem CellT.flat_length (c : CellT) : c.flat.length = 7 := by simp [flat]
theorem flats_length (v : List CellT) : (flats v).length = 7 * v.length := by
  induction v with
  | nil => rfl
  | cons c v ih => simp only [flats, List.flatMap_cons, List.length_append, CellT.flat_length] at ih ⊢; rw [ih, List.length_cons]; omega
theorem flat5_length (l : List (Vector CellT 4)) : (l.flatMap fun v => flats v.toList).length = 28 * l.length := by
  induction l with
  | nil => rfl
  | cons c v ih => simp only [List.flatMap_cons, List.length_append, flats_length, Vector.length_toList] at ih ⊢; rw [ih, List.length_cons]; omega
theorem RowT.flat_length (x : RowT) : x.flat.length = 174 := by
  have h := flat5_length x.left.toList
  rw [Vector.length_toList] at h
  simp only [flat, List.length_cons, List.length_append, flats_length, h, Vector.length_toList]

theorem RowT.len (x : RowT) : (ints x.flat).length = 174 := by rw [ints_length, x.flat_length]
theorem CellT.len (c : CellT) : (ints c.flat).length = 7 := by rw [ints_length, c.flat_length]

/-! ### Lists written anew -/
theorem wr_length {cs vs : List Value} {o : Nat} (h : o + vs.length ≤ cs.length) : (wr cs o vs).length = cs.length := by simp [wr]; omega
theorem wr_append_left {a b vs : List Value} {o : Nat} (h : o + vs.length ≤ a.length) : wr (a ++ b) o vs = wr a o vs ++ b := by
  simp only [wr]
  rw [List.take_append_of_le_length (by omega), List.drop_append_of_le_length (by omega)]
  simp
theorem wr_append_right {a b vs : List Value} {o : Nat} (h : a.length ≤ o) : wr (a ++ b) o vs = a ++ wr b (o - a.length) vs := by
  simp only [wr]
  rw [List.take_append, List.drop_append, List.take_of_length_le h, List.drop_of_length_le (by omega)]
  have : o + vs.length - a.length = o - a.length + vs.length := by omega
  simp [this]
theorem wr_whole {a vs : List Value} (h : a.length = vs.length) : wr a 0 vs = vs := by simp [wr, h]
theorem wr_one {a : List Value} {o : Nat} {v : Value} (h : o < a.length) : wr a o [v] = a.set o v := by
  rw [wr, List.set_eq_take_append_cons_drop, if_pos h]; simp
/-- One of a row of parts, each of one length, written anew. -/
theorem wr_flatMap {α : Type} {f : α → List Value} {m : Nat} (hf : ∀ x, (f x).length = m) : ∀ (l : List α) (i : Nat) (x : α), i < l.length → wr (l.flatMap f) (i * m) (f x) = (l.set i x).flatMap f
  | [], _, _, h => by simp at h
  | y :: l, 0, x, _ => by
    simp only [List.flatMap_cons, List.set_cons_zero, Nat.zero_mul]
    rw [wr_append_left (by simp [hf]), wr_whole (by simp [hf])]
  | y :: l, i + 1, x, h => by
    simp only [List.flatMap_cons, List.set_cons_succ]
    have e : (i + 1) * m = m + i * m := by rw [Nat.add_mul, Nat.one_mul, Nat.add_comm]
    rw [wr_append_right (by rw [hf, e]; omega), hf, e, Nat.add_sub_cancel_left, wr_flatMap hf l i x (by simpa using h)]
theorem ints_flats (l : List CellT) : ints (flats l) = l.flatMap fun c => ints c.flat := by
  induction l with
  | nil => rfl
  | cons c l ih => simp only [flats, List.flatMap_cons, ints, List.map_append] at ih ⊢; rw [ih]
theorem ints_append (a b : List Int) : ints (a ++ b) = ints a ++ ints b := by simp [ints]
theorem ints_cons (a : Int) (b : List Int) : ints (a :: b) = .int .i64 a :: ints b := rfl
theorem wr_flats {l : List CellT} {i : Nat} {c : CellT} (h : i < l.length) : wr (ints (flats l)) (i * 7) (ints c.flat) = ints (flats (l.set i c)) := by
  rw [ints_flats, ints_flats]
  exact wr_flatMap (fun x => by rw [ints_length, x.flat_length]) l i c h
theorem ints5 (l : List (Vector CellT 4)) : ints (l.flatMap fun v => flats v.toList) = l.flatMap fun v => ints (flats v.toList) := by
  induction l with
  | nil => rfl
  | cons c l ih => simp only [List.flatMap_cons, ints_append] at ih ⊢; rw [ih]
theorem wr_flat5 {l : List (Vector CellT 4)} {i j : Nat} {c : CellT} (h : i < l.length) (hj : j < 4) : wr (ints (l.flatMap fun v => flats v.toList)) (i * 28 + j * 7) (ints c.flat) = ints ((l.set i ((l[i]).set j c)).flatMap fun v => flats v.toList) := by
  induction l generalizing i with
  | nil => simp at h
  | cons y l ih =>
    have hy : (ints (flats y.toList)).length = 28 := by rw [ints_length, flats_length]; simp
    have hc : (ints c.flat).length = 7 := by rw [ints_length, c.flat_length]
    cases i with
    | zero =>
      simp only [List.flatMap_cons, List.set_cons_zero, Nat.zero_mul, Nat.zero_add, ints_append, List.getElem_cons_zero]
      rw [wr_append_left (by omega), wr_flats (by simpa using hj), tl_set]
    | succ i =>
      simp only [List.flatMap_cons, List.set_cons_succ, ints_append, List.getElem_cons_succ]
      have e : (i + 1) * 28 + j * 7 = 28 + (i * 28 + j * 7) := by omega
      rw [wr_append_right (by omega), hy, e, Nat.add_sub_cancel_left, ih (by simpa using h)]

theorem RowT.wr_version (x : RowT) (n : Int) : wr (ints x.flat) 0 [.int .i64 n] = ints ({ x with version := n } : RowT).flat := by simp [wr, RowT.flat, ints]
theorem RowT.wr_cell (x : RowT) (i : Nat) (h : i < 4) (c : CellT) : wr (ints x.flat) (1 + i * 7) (ints c.flat) = ints ({ x with cells := x.cells.set i c } : RowT).flat := by
  have hc : (ints c.flat).length = 7 := by rw [ints_length, c.flat_length]
  have hf : (ints (flats x.cells.toList)).length = 28 := by rw [ints_length, flats_length]; simp
  simp only [RowT.flat, ints_cons, ints_append]
  rw [← List.singleton_append, wr_append_right (by simp), wr_append_left (by simp; omega)]
  simp only [List.length_singleton, Nat.add_sub_cancel_left]
  rw [wr_flats (by simpa using h), tl_set, List.singleton_append]
theorem RowT.wr_heir (x : RowT) (i : Nat) (h : i < 5) (n : Int) : wr (ints x.flat) (29 + i) [.int .i64 n] = ints ({ x with heir := x.heir.set i n } : RowT).flat := by
  have hf : (ints (flats x.cells.toList)).length = 28 := by rw [ints_length, flats_length]; simp
  have hh : (ints x.heir.toList).length = 5 := by rw [ints_length]; simp
  simp only [RowT.flat, ints_cons, ints_append]
  rw [← List.singleton_append, wr_append_right (by simp; omega), wr_append_right (by simp; omega), wr_append_left (by simp; omega)]
  have e : 29 + i - [Value.int IntKind.i64 x.version].length - (ints (flats x.cells.toList)).length = i := by simp; omega
  rw [e, wr_one (by omega), tl_set]
  simp [ints, List.map_set]
theorem RowT.wr_left (x : RowT) (i j : Nat) (h : i < 5) (hj : j < 4) (c : CellT) : wr (ints x.flat) (34 + i * 28 + j * 7) (ints c.flat) = ints ({ x with left := x.left.set i ((x.left[i]).set j c) } : RowT).flat := by
  have hf : (ints (flats x.cells.toList)).length = 28 := by rw [ints_length, flats_length]; simp
  have hh : (ints x.heir.toList).length = 5 := by rw [ints_length]; simp
  simp only [RowT.flat, ints_cons, ints_append]
  rw [← List.singleton_append, wr_append_right (by simp; omega), wr_append_right (by simp; omega), wr_append_right (by simp; omega)]
  have e : 34 + i * 28 + j * 7 - [Value.int IntKind.i64 x.version].length - (ints (flats x.cells.toList)).length - (ints x.heir.toList).length = i * 28 + j * 7 := by simp; omega
  rw [e, wr_flat5 (by simpa using h) hj, tl_set]
  simp
theorem RowT.get_heir (x : RowT) (i : Nat) (h : i < 5) : (ints x.flat)[29 + i]? = some (.int .i64 x.heir[i]) := by
  have hf : (flats x.cells.toList).length = 28 := by rw [flats_length]; simp
  have e : x.flat[29 + i]? = some x.heir[i] := by
    simp only [RowT.flat]
    rw [show 29 + i = (28 + i) + 1 by omega, List.getElem?_cons_succ, List.getElem?_append_right (by omega), hf, Nat.add_sub_cancel_left, List.getElem?_append_left (by simpa using h)]
    simp [h]
  simp [ints, e]
theorem RowT.get_version (x : RowT) : (ints x.flat)[0]? = some (.int .i64 x.version) := rfl
theorem RowT.get_cells (x : RowT) : ((ints x.flat).drop 1).take 28 = ints (flats x.cells.toList) := by
  have hf : (ints (flats x.cells.toList)).length = 28 := by rw [ints_length, flats_length]; simp
  simp only [RowT.flat, ints_cons, ints_append, List.drop_succ_cons, List.drop_zero]
  rw [List.take_append_of_le_length (by omega), List.take_of_length_le (by omega)]
theorem RowT.get_heirs (x : RowT) : ((ints x.flat).drop 29).take 5 = ints x.heir.toList := by
  have hf : (ints (flats x.cells.toList)).length = 28 := by rw [ints_length, flats_length]; simp
  have hh : (ints x.heir.toList).length = 5 := by rw [ints_length]; simp
  simp only [RowT.flat, ints_cons, ints_append, List.drop_succ_cons]
  rw [List.drop_append, List.drop_of_length_le (by omega), hf, Nat.sub_self, List.drop_zero, List.nil_append, List.take_append_of_le_length (by omega), List.take_of_length_le (by omega)]
theorem flats_get {l : List CellT} {i : Nat} (h : i < l.length) : ((ints (flats l)).drop (i * 7)).take 7 = ints (l[i]).flat := by
  induction l generalizing i with
  | nil => simp at h
  | cons c l ih =>
    have hc : (ints c.flat).length = 7 := c.len
    simp only [flats, List.flatMap_cons, ints_append] at ih ⊢
    cases i with
    | zero => simp only [Nat.zero_mul, List.drop_zero, List.getElem_cons_zero]; rw [List.take_append_of_le_length (by omega), List.take_of_length_le (by omega)]
    | succ i =>
      rw [List.drop_append, List.drop_of_length_le (by omega), hc, show (i + 1) * 7 - 7 = i * 7 by omega, List.nil_append]
      simpa using ih (by simpa using h)
theorem flat5_get {l : List (Vector CellT 4)} {i : Nat} (h : i < l.length) : ((ints (l.flatMap fun v => flats v.toList)).drop (i * 28)).take 28 = ints (flats (l[i]).toList) := by
  induction l generalizing i with
  | nil => simp at h
  | cons c l ih =>
    have hc : (ints (flats c.toList)).length = 28 := by rw [ints_length, flats_length]; simp
    simp only [List.flatMap_cons, ints_append] at ih ⊢
    cases i with
    | zero => simp only [Nat.zero_mul, List.drop_zero, List.getElem_cons_zero]; rw [List.take_append_of_le_length (by omega), List.take_of_length_le (by omega)]
    | succ i =>
      rw [List.drop_append, List.drop_of_length_le (by omega), hc, show (i + 1) * 28 - 28 = i * 28 by omega, List.nil_append]
      simpa using ih (by simpa using h)
theorem RowT.get_left (x : RowT) (i : Nat) (h : i < 5) : ((ints x.flat).drop (34 + i * 28)).take 28 = ints (flats (x.left[i]).toList) := by
  have hf : (ints (flats x.cells.toList)).length = 28 := by rw [ints_length, flats_length]; simp
  have hh : (ints x.heir.toList).length = 5 := by rw [ints_length]; simp
  have e : (ints x.flat).drop (34 + i * 28) = (ints (x.left.toList.flatMap fun v => flats v.toList)).drop (i * 28) := by
    simp only [RowT.flat, ints_cons, ints_append]
    rw [show 34 + i * 28 = (33 + i * 28) + 1 by omega, List.drop_succ_cons, List.drop_append, List.drop_of_length_le (by omega), hf, List.nil_append, List.drop_append, List.drop_of_length_le (by omega), hh, List.nil_append]
    congr 1
    omega
  rw [e, flat5_get (by simpa using h)]
  simp
theorem vec5 {p : Vector Int 5 → Prop} (h : ∀ a b c d e, p #v[a, b, c, d, e]) (v : Vector Int 5) : p v := by
  rcases v with ⟨⟨l⟩, hl⟩
  match l, hl with
  | [a, b, c, d, e], _ => exact h a b c d e
theorem ints_one (l : List Int) : ∀ u ∈ ints l, u.oneCell' = true := by
  intro u h
  obtain ⟨_, _, rfl⟩ := List.mem_map.1 h
  rfl
set_option maxRecDepth 100000 in
theorem RowT.flat_zero : RowT.zero.flat = List.replicate 174 0 := by rfl
end Api

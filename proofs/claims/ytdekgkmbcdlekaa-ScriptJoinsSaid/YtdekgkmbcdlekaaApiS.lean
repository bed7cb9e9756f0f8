/-
  Package api's structs, read and written part by part: each part as it stands among the cells.
-/
import Derived.Test.YtdekgkmbcdlekaaLegU
namespace Api
open Go Leg

theorem whole {cs : List Value} {n : Nat} (h : cs.length = n) : (cs.drop 0).take n = cs := by rw [List.drop_zero, List.take_of_length_le (by omega)]
theorem wwhole {cs vs : List Value} (h : cs.length = vs.length) : wr cs 0 vs = vs := wr_whole h
theorem vi_at {n : Nat} (v : Vector Int n) {i : Nat} (h : i < n) : (ints v.toList)[i]? = some (.int .i64 v[i]) := by simp [ints, h]
theorem vi_st {n : Nat} (v : Vector Int n) {i : Nat} (h : i < n) (x : Int) : (ints v.toList).set i (.int .i64 x) = ints (v.set i x h).toList := by rw [tl_set]; simp [ints, List.map_set]
theorem vs_eq {α : Type} (f : α → List Int) (l : List α) : ints (l.flatMap f) = (l.map fun x => ints (f x)).flatten := by
  induction l with
  | nil => rfl
  | cons x l ih => rw [List.flatMap_cons, ints_append, ih]; rfl
theorem vs_sl {α : Type} {m : Nat} {f : α → List Int} (hf : ∀ x, (f x).length = m) : ∀ l : List α, SL (l.map fun x => ints (f x)) (List.replicate l.length m)
  | [] => .nil
  | x :: l => .cons (by rw [ints_length, hf]) (vs_sl hf l)
theorem sum_rep (m : Nat) : ∀ (n i : Nat), i ≤ n → ((List.replicate n m).take i).sum = i * m := fun n i h => by
  rw [List.take_replicate, Nat.min_eq_left h, List.sum_replicate_nat]
theorem vs_sub {α : Type} {n m : Nat} {f : α → List Int} (hf : ∀ x, (f x).length = m) (v : Vector α n) {i k o : Nat} (j : Nat) (hi : i < n) (ho : o = i * m + j) (h : j + k ≤ m) {r : List Value} (hr : ((ints (f v[i])).drop j).take k = r) :
    ((ints (v.toList.flatMap f)).drop o).take k = r := by
  subst ho
  rw [← hr, vs_eq]
  have hl := (vs_sl hf v.toList)
  exact hl.sub i j k (by simp [hi]) (by simp [hi]) (by simp only [Vector.length_toList]; exact sum_rep m n i (by omega)) h
theorem vs_pt {α : Type} {n m : Nat} {f : α → List Int} (hf : ∀ x, (f x).length = m) (v : Vector α n) {i o : Nat} (j : Nat) (hi : i < n) (ho : o = i * m + j) (h : j < m) {r : Option Value} (hr : (ints (f v[i]))[j]? = r) :
    (ints (v.toList.flatMap f))[o]? = r := by
  subst ho
  rw [← hr, vs_eq]
  have hl := (vs_sl hf v.toList)
  exact hl.at i j (by simp [hi]) (by simp [hi]) (by simp only [Vector.length_toList]; exact sum_rep m n i (by omega)) h
theorem map_set_get {α : Type} {n : Nat} (v : Vector α n) {i : Nat} (hi : i < n) (g : α → List Value) (y : α) : (v.toList.map g).set i (g y) = (v.set i y hi).toList.map g := by rw [tl_set, List.map_set]
theorem vs_wr {α : Type} {n m : Nat} {f : α → List Int} (hf : ∀ x, (f x).length = m) (v : Vector α n) {i o : Nat} (j : Nat) {vs : List Value} {u' : α} (hi : i < n) (ho : o = i * m + j) (h : j + vs.length ≤ m) (hw : wr (ints (f v[i])) j vs = ints (f u')) :
    wr (ints (v.toList.flatMap f)) o vs = ints ((v.set i u' hi).toList.flatMap f) := by
  subst ho
  rw [vs_eq, vs_eq, ← map_set_get v hi (fun x => ints (f x)) u']
  have hl := (vs_sl hf v.toList)
  exact hl.putIn i j vs (by simp [hi]) (by simp [hi]) (by simp only [Vector.length_toList]; exact sum_rep m n i (by omega)) h hw
theorem vs_st {α : Type} {n m : Nat} {f : α → List Int} (hf : ∀ x, (f x).length = m) (v : Vector α n) {i o : Nat} (j : Nat) {x : Value} {u' : α} (hi : i < n) (ho : o = i * m + j) (h : j < m) (hw : (ints (f v[i])).set j x = ints (f u')) :
    (ints (v.toList.flatMap f)).set o x = ints ((v.set i u' hi).toList.flatMap f) := by
  subst ho
  rw [vs_eq, vs_eq, ← map_set_get v hi (fun x => ints (f x)) u', ← hw]
  have hl := (vs_sl hf v.toList)
  exact hl.set i j x (by simp [hi]) (by simp [hi]) (by simp only [Vector.length_toList]; exact sum_rep m n i (by omega)) h
theorem vi5_len (v : Vector Int 5) : (ints v.toList).length = 5 := by simp [ints]
theorem vs4_len (v : Vector CellT 4) : (ints (flats v.toList)).length = 28 := by simp [ints_length, flats_length]
theorem vs5_len (v : Vector (Vector CellT 4) 5) : (ints (v.toList.flatMap fun v => flats v.toList)).length = 140 := by rw [ints_length, flat5_length]; simp
theorem putSegs_nil {segs : List (List Value)} : putSegs segs [] = some segs := rfl
theorem putSegs_step {segs : List (List Value)} {i : Nat} {v s : List Value} {ps : List (Nat × List Value)} {res : List (List Value)} (hs : segs[i]? = some s) (hl : v.length = s.length) (h : putSegs (segs.set i v) ps = some res) : putSegs segs ((i, v) :: ps) = some res := by
  simp only [putSegs, hs, if_pos hl, h]
theorem vl_len (v : Vector CellT 4) : (flats v.toList).length = 28 := by simp [flats_length]
theorem CellT.sl (m : CellT) : SL [[Value.int .i64 m.inn], [Value.int .i64 m.out], ints m.given.toList] [1, 1, 5] := (.cons rfl (.cons rfl (.cons (by simp [ints]) .nil)))
theorem CellT.eq (m : CellT) : ints m.flat = [[Value.int .i64 m.inn], [Value.int .i64 m.out], ints m.given.toList].flatten := by simp [CellT.flat, ints]
theorem CellT.at_inn (m : CellT) {o : Nat} (ho : o = 0) : (ints m.flat)[o]? = some (.int .i64 m.inn) := by subst ho; rw [CellT.eq]; exact (CellT.sl m).at 0 0 rfl rfl rfl (by decide)
theorem CellT.set_inn (m : CellT) {o : Nat} (ho : o = 0) (x : Int) : (ints m.flat).set o (.int .i64 x) = ints ({ m with inn := x } : CellT).flat := by subst ho; rw [CellT.eq, CellT.eq]; exact (CellT.sl m).set 0 0 _ rfl rfl rfl (by decide)
theorem CellT.at_out (m : CellT) {o : Nat} (ho : o = 1) : (ints m.flat)[o]? = some (.int .i64 m.out) := by subst ho; rw [CellT.eq]; exact (CellT.sl m).at 1 0 rfl rfl rfl (by decide)
theorem CellT.set_out (m : CellT) {o : Nat} (ho : o = 1) (x : Int) : (ints m.flat).set o (.int .i64 x) = ints ({ m with out := x } : CellT).flat := by subst ho; rw [CellT.eq, CellT.eq]; exact (CellT.sl m).set 1 0 _ rfl rfl rfl (by decide)
theorem CellT.pt_given (m : CellT) {o : Nat} (j : Nat) (ho : o = 2 + j) (h : j < 5) {r : Option Value} (hr : (ints m.given.toList)[j]? = r) : (ints m.flat)[o]? = r := by subst ho; rw [← hr, CellT.eq]; exact (CellT.sl m).at 2 j rfl rfl rfl h
theorem CellT.sub_given (m : CellT) {o k : Nat} (j : Nat) (ho : o = 2 + j) (h : j + k ≤ 5) {r : List Value} (hr : ((ints m.given.toList).drop j).take k = r) : ((ints m.flat).drop o).take k = r := by subst ho; rw [← hr, CellT.eq]; exact (CellT.sl m).sub 2 j k rfl rfl rfl h
theorem CellT.wr_given_ (m : CellT) {o : Nat} (j : Nat) {vs : List Value} {u' : Vector Int 5} (ho : o = 2 + j) (h : j + vs.length ≤ 5) (hw : wr (ints m.given.toList) j vs = ints u'.toList) : wr (ints m.flat) o vs = ints ({ m with given := u' } : CellT).flat := by subst ho; rw [CellT.eq, CellT.eq]; exact (CellT.sl m).putIn 2 j vs rfl rfl rfl h hw
theorem CellT.st_given (m : CellT) {o : Nat} (j : Nat) {v : Value} {u' : Vector Int 5} (ho : o = 2 + j) (h : j < 5) (hw : (ints m.given.toList).set j v = ints u'.toList) : (ints m.flat).set o v = ints ({ m with given := u' } : CellT).flat := by subst ho; rw [CellT.eq, CellT.eq]; exact ((CellT.sl m).set 2 j v rfl rfl rfl h).trans (by rw [hw]; rfl)
theorem CellT.around_given (m : CellT) : ∃ A B, ints m.flat = A ++ (ints m.given.toList ++ B) ∧ A.length = 2 ∧ ∀ u' : Vector Int 5, ints ({ m with given := u' } : CellT).flat = A ++ (ints u'.toList ++ B) := by
  obtain ⟨A, B, h1, h2, h3⟩ := (CellT.sl m).around 2 rfl rfl rfl
  exact ⟨A, B, by rw [CellT.eq]; exact h1, h2, fun u' => by rw [CellT.eq]; exact h3 _⟩
theorem RowT.sl (m : RowT) : SL [[Value.int .i64 m.version], ints (flats m.cells.toList), ints m.heir.toList, ints (m.left.toList.flatMap fun v => flats v.toList)] [1, 28, 5, 140] := (.cons rfl (.cons (by simp [ints_length, flats_length]) (.cons (by simp [ints]) (.cons (by rw [ints_length, flat5_length]; simp) .nil))))
theorem RowT.eq (m : RowT) : ints m.flat = [[Value.int .i64 m.version], ints (flats m.cells.toList), ints m.heir.toList, ints (m.left.toList.flatMap fun v => flats v.toList)].flatten := by simp [RowT.flat, ints]
theorem RowT.at_version (m : RowT) {o : Nat} (ho : o = 0) : (ints m.flat)[o]? = some (.int .i64 m.version) := by subst ho; rw [RowT.eq]; exact (RowT.sl m).at 0 0 rfl rfl rfl (by decide)
theorem RowT.set_version (m : RowT) {o : Nat} (ho : o = 0) (x : Int) : (ints m.flat).set o (.int .i64 x) = ints ({ m with version := x } : RowT).flat := by subst ho; rw [RowT.eq, RowT.eq]; exact (RowT.sl m).set 0 0 _ rfl rfl rfl (by decide)
theorem RowT.pt_cells (m : RowT) {o : Nat} (j : Nat) (ho : o = 1 + j) (h : j < 28) {r : Option Value} (hr : (ints (flats m.cells.toList))[j]? = r) : (ints m.flat)[o]? = r := by subst ho; rw [← hr, RowT.eq]; exact (RowT.sl m).at 1 j rfl rfl rfl h
theorem RowT.sub_cells (m : RowT) {o k : Nat} (j : Nat) (ho : o = 1 + j) (h : j + k ≤ 28) {r : List Value} (hr : ((ints (flats m.cells.toList)).drop j).take k = r) : ((ints m.flat).drop o).take k = r := by subst ho; rw [← hr, RowT.eq]; exact (RowT.sl m).sub 1 j k rfl rfl rfl h
theorem RowT.wr_cells_ (m : RowT) {o : Nat} (j : Nat) {vs : List Value} {u' : Vector CellT 4} (ho : o = 1 + j) (h : j + vs.length ≤ 28) (hw : wr (ints (flats m.cells.toList)) j vs = ints (flats u'.toList)) : wr (ints m.flat) o vs = ints ({ m with cells := u' } : RowT).flat := by subst ho; rw [RowT.eq, RowT.eq]; exact (RowT.sl m).putIn 1 j vs rfl rfl rfl h hw
theorem RowT.st_cells (m : RowT) {o : Nat} (j : Nat) {v : Value} {u' : Vector CellT 4} (ho : o = 1 + j) (h : j < 28) (hw : (ints (flats m.cells.toList)).set j v = ints (flats u'.toList)) : (ints m.flat).set o v = ints ({ m with cells := u' } : RowT).flat := by subst ho; rw [RowT.eq, RowT.eq]; exact ((RowT.sl m).set 1 j v rfl rfl rfl h).trans (by rw [hw]; rfl)
theorem RowT.around_cells (m : RowT) : ∃ A B, ints m.flat = A ++ (ints (flats m.cells.toList) ++ B) ∧ A.length = 1 ∧ ∀ u' : Vector CellT 4, ints ({ m with cells := u' } : RowT).flat = A ++ (ints (flats u'.toList) ++ B) := by
  obtain ⟨A, B, h1, h2, h3⟩ := (RowT.sl m).around 1 rfl rfl rfl
  exact ⟨A, B, by rw [RowT.eq]; exact h1, h2, fun u' => by rw [RowT.eq]; exact h3 _⟩
theorem RowT.pt_heir (m : RowT) {o : Nat} (j : Nat) (ho : o = 29 + j) (h : j < 5) {r : Option Value} (hr : (ints m.heir.toList)[j]? = r) : (ints m.flat)[o]? = r := by subst ho; rw [← hr, RowT.eq]; exact (RowT.sl m).at 2 j rfl rfl rfl h
theorem RowT.sub_heir (m : RowT) {o k : Nat} (j : Nat) (ho : o = 29 + j) (h : j + k ≤ 5) {r : List Value} (hr : ((ints m.heir.toList).drop j).take k = r) : ((ints m.flat).drop o).take k = r := by subst ho; rw [← hr, RowT.eq]; exact (RowT.sl m).sub 2 j k rfl rfl rfl h
theorem RowT.wr_heir_ (m : RowT) {o : Nat} (j : Nat) {vs : List Value} {u' : Vector Int 5} (ho : o = 29 + j) (h : j + vs.length ≤ 5) (hw : wr (ints m.heir.toList) j vs = ints u'.toList) : wr (ints m.flat) o vs = ints ({ m with heir := u' } : RowT).flat := by subst ho; rw [RowT.eq, RowT.eq]; exact (RowT.sl m).putIn 2 j vs rfl rfl rfl h hw
theorem RowT.st_heir (m : RowT) {o : Nat} (j : Nat) {v : Value} {u' : Vector Int 5} (ho : o = 29 + j) (h : j < 5) (hw : (ints m.heir.toList).set j v = ints u'.toList) : (ints m.flat).set o v = ints ({ m with heir := u' } : RowT).flat := by subst ho; rw [RowT.eq, RowT.eq]; exact ((RowT.sl m).set 2 j v rfl rfl rfl h).trans (by rw [hw]; rfl)
theorem RowT.around_heir (m : RowT) : ∃ A B, ints m.flat = A ++ (ints m.heir.toList ++ B) ∧ A.length = 29 ∧ ∀ u' : Vector Int 5, ints ({ m with heir := u' } : RowT).flat = A ++ (ints u'.toList ++ B) := by
  obtain ⟨A, B, h1, h2, h3⟩ := (RowT.sl m).around 2 rfl rfl rfl
  exact ⟨A, B, by rw [RowT.eq]; exact h1, h2, fun u' => by rw [RowT.eq]; exact h3 _⟩
theorem RowT.pt_left (m : RowT) {o : Nat} (j : Nat) (ho : o = 34 + j) (h : j < 140) {r : Option Value} (hr : (ints (m.left.toList.flatMap fun v => flats v.toList))[j]? = r) : (ints m.flat)[o]? = r := by subst ho; rw [← hr, RowT.eq]; exact (RowT.sl m).at 3 j rfl rfl rfl h
theorem RowT.sub_left (m : RowT) {o k : Nat} (j : Nat) (ho : o = 34 + j) (h : j + k ≤ 140) {r : List Value} (hr : ((ints (m.left.toList.flatMap fun v => flats v.toList)).drop j).take k = r) : ((ints m.flat).drop o).take k = r := by subst ho; rw [← hr, RowT.eq]; exact (RowT.sl m).sub 3 j k rfl rfl rfl h
theorem RowT.wr_left_ (m : RowT) {o : Nat} (j : Nat) {vs : List Value} {u' : Vector (Vector CellT 4) 5} (ho : o = 34 + j) (h : j + vs.length ≤ 140) (hw : wr (ints (m.left.toList.flatMap fun v => flats v.toList)) j vs = ints (u'.toList.flatMap fun v => flats v.toList)) : wr (ints m.flat) o vs = ints ({ m with left := u' } : RowT).flat := by subst ho; rw [RowT.eq, RowT.eq]; exact (RowT.sl m).putIn 3 j vs rfl rfl rfl h hw
theorem RowT.st_left (m : RowT) {o : Nat} (j : Nat) {v : Value} {u' : Vector (Vector CellT 4) 5} (ho : o = 34 + j) (h : j < 140) (hw : (ints (m.left.toList.flatMap fun v => flats v.toList)).set j v = ints (u'.toList.flatMap fun v => flats v.toList)) : (ints m.flat).set o v = ints ({ m with left := u' } : RowT).flat := by subst ho; rw [RowT.eq, RowT.eq]; exact ((RowT.sl m).set 3 j v rfl rfl rfl h).trans (by rw [hw]; rfl)
theorem RowT.around_left (m : RowT) : ∃ A B, ints m.flat = A ++ (ints (m.left.toList.flatMap fun v => flats v.toList) ++ B) ∧ A.length = 34 ∧ ∀ u' : Vector (Vector CellT 4) 5, ints ({ m with left := u' } : RowT).flat = A ++ (ints (u'.toList.flatMap fun v => flats v.toList) ++ B) := by
  obtain ⟨A, B, h1, h2, h3⟩ := (RowT.sl m).around 3 rfl rfl rfl
  exact ⟨A, B, by rw [RowT.eq]; exact h1, h2, fun u' => by rw [RowT.eq]; exact h3 _⟩
theorem ViewT.sl (m : ViewT) : SL [[Value.int .i64 m.epoch], [Value.int .i64 m.members], ints m.heirs.toList] [1, 1, 5] := (.cons rfl (.cons rfl (.cons (by simp [ints]) .nil)))
theorem ViewT.eq (m : ViewT) : ints m.flat = [[Value.int .i64 m.epoch], [Value.int .i64 m.members], ints m.heirs.toList].flatten := by simp [ViewT.flat, ints]
theorem ViewT.len (m : ViewT) : (ints m.flat).length = 7 := by rw [ViewT.eq, (ViewT.sl m).len]; rfl
theorem ViewT.at_epoch (m : ViewT) {o : Nat} (ho : o = 0) : (ints m.flat)[o]? = some (.int .i64 m.epoch) := by subst ho; rw [ViewT.eq]; exact (ViewT.sl m).at 0 0 rfl rfl rfl (by decide)
theorem ViewT.set_epoch (m : ViewT) {o : Nat} (ho : o = 0) (x : Int) : (ints m.flat).set o (.int .i64 x) = ints ({ m with epoch := x } : ViewT).flat := by subst ho; rw [ViewT.eq, ViewT.eq]; exact (ViewT.sl m).set 0 0 _ rfl rfl rfl (by decide)
theorem ViewT.at_members (m : ViewT) {o : Nat} (ho : o = 1) : (ints m.flat)[o]? = some (.int .i64 m.members) := by subst ho; rw [ViewT.eq]; exact (ViewT.sl m).at 1 0 rfl rfl rfl (by decide)
theorem ViewT.set_members (m : ViewT) {o : Nat} (ho : o = 1) (x : Int) : (ints m.flat).set o (.int .i64 x) = ints ({ m with members := x } : ViewT).flat := by subst ho; rw [ViewT.eq, ViewT.eq]; exact (ViewT.sl m).set 1 0 _ rfl rfl rfl (by decide)
theorem ViewT.pt_heirs (m : ViewT) {o : Nat} (j : Nat) (ho : o = 2 + j) (h : j < 5) {r : Option Value} (hr : (ints m.heirs.toList)[j]? = r) : (ints m.flat)[o]? = r := by subst ho; rw [← hr, ViewT.eq]; exact (ViewT.sl m).at 2 j rfl rfl rfl h
theorem ViewT.sub_heirs (m : ViewT) {o k : Nat} (j : Nat) (ho : o = 2 + j) (h : j + k ≤ 5) {r : List Value} (hr : ((ints m.heirs.toList).drop j).take k = r) : ((ints m.flat).drop o).take k = r := by subst ho; rw [← hr, ViewT.eq]; exact (ViewT.sl m).sub 2 j k rfl rfl rfl h
theorem ViewT.wr_heirs_ (m : ViewT) {o : Nat} (j : Nat) {vs : List Value} {u' : Vector Int 5} (ho : o = 2 + j) (h : j + vs.length ≤ 5) (hw : wr (ints m.heirs.toList) j vs = ints u'.toList) : wr (ints m.flat) o vs = ints ({ m with heirs := u' } : ViewT).flat := by subst ho; rw [ViewT.eq, ViewT.eq]; exact (ViewT.sl m).putIn 2 j vs rfl rfl rfl h hw
theorem ViewT.st_heirs (m : ViewT) {o : Nat} (j : Nat) {v : Value} {u' : Vector Int 5} (ho : o = 2 + j) (h : j < 5) (hw : (ints m.heirs.toList).set j v = ints u'.toList) : (ints m.flat).set o v = ints ({ m with heirs := u' } : ViewT).flat := by subst ho; rw [ViewT.eq, ViewT.eq]; exact ((ViewT.sl m).set 2 j v rfl rfl rfl h).trans (by rw [hw]; rfl)
theorem ViewT.around_heirs (m : ViewT) : ∃ A B, ints m.flat = A ++ (ints m.heirs.toList ++ B) ∧ A.length = 2 ∧ ∀ u' : Vector Int 5, ints ({ m with heirs := u' } : ViewT).flat = A ++ (ints u'.toList ++ B) := by
  obtain ⟨A, B, h1, h2, h3⟩ := (ViewT.sl m).around 2 rfl rfl rfl
  exact ⟨A, B, by rw [ViewT.eq]; exact h1, h2, fun u' => by rw [ViewT.eq]; exact h3 _⟩
theorem ChangeT.sl (m : ChangeT) : SL [[Value.int .i64 m.kind], [Value.int .i64 m.who], [Value.int .i64 m.heir]] [1, 1, 1] := (.cons rfl (.cons rfl (.cons rfl .nil)))
theorem ChangeT.eq (m : ChangeT) : ints m.flat = [[Value.int .i64 m.kind], [Value.int .i64 m.who], [Value.int .i64 m.heir]].flatten := by simp [ChangeT.flat, ints]
theorem ChangeT.len (m : ChangeT) : (ints m.flat).length = 3 := by rw [ChangeT.eq, (ChangeT.sl m).len]; rfl
theorem ChangeT.at_kind (m : ChangeT) {o : Nat} (ho : o = 0) : (ints m.flat)[o]? = some (.int .i64 m.kind) := by subst ho; rw [ChangeT.eq]; exact (ChangeT.sl m).at 0 0 rfl rfl rfl (by decide)
theorem ChangeT.set_kind (m : ChangeT) {o : Nat} (ho : o = 0) (x : Int) : (ints m.flat).set o (.int .i64 x) = ints ({ m with kind := x } : ChangeT).flat := by subst ho; rw [ChangeT.eq, ChangeT.eq]; exact (ChangeT.sl m).set 0 0 _ rfl rfl rfl (by decide)
theorem ChangeT.at_who (m : ChangeT) {o : Nat} (ho : o = 1) : (ints m.flat)[o]? = some (.int .i64 m.who) := by subst ho; rw [ChangeT.eq]; exact (ChangeT.sl m).at 1 0 rfl rfl rfl (by decide)
theorem ChangeT.set_who (m : ChangeT) {o : Nat} (ho : o = 1) (x : Int) : (ints m.flat).set o (.int .i64 x) = ints ({ m with who := x } : ChangeT).flat := by subst ho; rw [ChangeT.eq, ChangeT.eq]; exact (ChangeT.sl m).set 1 0 _ rfl rfl rfl (by decide)
theorem ChangeT.at_heir (m : ChangeT) {o : Nat} (ho : o = 2) : (ints m.flat)[o]? = some (.int .i64 m.heir) := by subst ho; rw [ChangeT.eq]; exact (ChangeT.sl m).at 2 0 rfl rfl rfl (by decide)
theorem ChangeT.set_heir (m : ChangeT) {o : Nat} (ho : o = 2) (x : Int) : (ints m.flat).set o (.int .i64 x) = ints ({ m with heir := x } : ChangeT).flat := by subst ho; rw [ChangeT.eq, ChangeT.eq]; exact (ChangeT.sl m).set 2 0 _ rfl rfl rfl (by decide)
theorem BallotT.sl (m : BallotT) : SL [[Value.int .i64 m.round], [Value.int .i64 m.who]] [1, 1] := (.cons rfl (.cons rfl .nil))
theorem BallotT.eq (m : BallotT) : ints m.flat = [[Value.int .i64 m.round], [Value.int .i64 m.who]].flatten := by simp [BallotT.flat, ints]
theorem BallotT.len (m : BallotT) : (ints m.flat).length = 2 := by rw [BallotT.eq, (BallotT.sl m).len]; rfl
theorem BallotT.at_round (m : BallotT) {o : Nat} (ho : o = 0) : (ints m.flat)[o]? = some (.int .i64 m.round) := by subst ho; rw [BallotT.eq]; exact (BallotT.sl m).at 0 0 rfl rfl rfl (by decide)
theorem BallotT.set_round (m : BallotT) {o : Nat} (ho : o = 0) (x : Int) : (ints m.flat).set o (.int .i64 x) = ints ({ m with round := x } : BallotT).flat := by subst ho; rw [BallotT.eq, BallotT.eq]; exact (BallotT.sl m).set 0 0 _ rfl rfl rfl (by decide)
theorem BallotT.at_who (m : BallotT) {o : Nat} (ho : o = 1) : (ints m.flat)[o]? = some (.int .i64 m.who) := by subst ho; rw [BallotT.eq]; exact (BallotT.sl m).at 1 0 rfl rfl rfl (by decide)
theorem BallotT.set_who (m : BallotT) {o : Nat} (ho : o = 1) (x : Int) : (ints m.flat).set o (.int .i64 x) = ints ({ m with who := x } : BallotT).flat := by subst ho; rw [BallotT.eq, BallotT.eq]; exact (BallotT.sl m).set 1 0 _ rfl rfl rfl (by decide)
theorem MsgT.sl (m : MsgT) : SL [[Value.int .i64 m.kind], [Value.int .i64 m.whose], ints m.row.flat, [Value.int .i64 m.version], [Value.int .i64 m.epoch], ints m.ballot.flat, ints m.had.flat, ints m.change.flat, ints m.view.flat] [1, 1, 174, 1, 1, 2, 2, 3, 7] := (.cons rfl (.cons rfl (.cons (RowT.len _) (.cons rfl (.cons rfl (.cons (BallotT.len _) (.cons (BallotT.len _) (.cons (ChangeT.len _) (.cons (ViewT.len _) .nil)))))))))
theorem MsgT.eq (m : MsgT) : ints m.flat = [[Value.int .i64 m.kind], [Value.int .i64 m.whose], ints m.row.flat, [Value.int .i64 m.version], [Value.int .i64 m.epoch], ints m.ballot.flat, ints m.had.flat, ints m.change.flat, ints m.view.flat].flatten := by simp [MsgT.flat, ints]
theorem MsgT.len (m : MsgT) : (ints m.flat).length = 192 := by rw [MsgT.eq, (MsgT.sl m).len]; rfl
theorem MsgT.at_kind (m : MsgT) {o : Nat} (ho : o = 0) : (ints m.flat)[o]? = some (.int .i64 m.kind) := by subst ho; rw [MsgT.eq]; exact (MsgT.sl m).at 0 0 rfl rfl rfl (by decide)
theorem MsgT.set_kind (m : MsgT) {o : Nat} (ho : o = 0) (x : Int) : (ints m.flat).set o (.int .i64 x) = ints ({ m with kind := x } : MsgT).flat := by subst ho; rw [MsgT.eq, MsgT.eq]; exact (MsgT.sl m).set 0 0 _ rfl rfl rfl (by decide)
theorem MsgT.at_whose (m : MsgT) {o : Nat} (ho : o = 1) : (ints m.flat)[o]? = some (.int .i64 m.whose) := by subst ho; rw [MsgT.eq]; exact (MsgT.sl m).at 1 0 rfl rfl rfl (by decide)
theorem MsgT.set_whose (m : MsgT) {o : Nat} (ho : o = 1) (x : Int) : (ints m.flat).set o (.int .i64 x) = ints ({ m with whose := x } : MsgT).flat := by subst ho; rw [MsgT.eq, MsgT.eq]; exact (MsgT.sl m).set 1 0 _ rfl rfl rfl (by decide)
theorem MsgT.pt_row (m : MsgT) {o : Nat} (j : Nat) (ho : o = 2 + j) (h : j < 174) {r : Option Value} (hr : (ints m.row.flat)[j]? = r) : (ints m.flat)[o]? = r := by subst ho; rw [← hr, MsgT.eq]; exact (MsgT.sl m).at 2 j rfl rfl rfl h
theorem MsgT.sub_row (m : MsgT) {o k : Nat} (j : Nat) (ho : o = 2 + j) (h : j + k ≤ 174) {r : List Value} (hr : ((ints m.row.flat).drop j).take k = r) : ((ints m.flat).drop o).take k = r := by subst ho; rw [← hr, MsgT.eq]; exact (MsgT.sl m).sub 2 j k rfl rfl rfl h
theorem MsgT.wr_row_ (m : MsgT) {o : Nat} (j : Nat) {vs : List Value} {u' : RowT} (ho : o = 2 + j) (h : j + vs.length ≤ 174) (hw : wr (ints m.row.flat) j vs = ints u'.flat) : wr (ints m.flat) o vs = ints ({ m with row := u' } : MsgT).flat := by subst ho; rw [MsgT.eq, MsgT.eq]; exact (MsgT.sl m).putIn 2 j vs rfl rfl rfl h hw
theorem MsgT.st_row (m : MsgT) {o : Nat} (j : Nat) {v : Value} {u' : RowT} (ho : o = 2 + j) (h : j < 174) (hw : (ints m.row.flat).set j v = ints u'.flat) : (ints m.flat).set o v = ints ({ m with row := u' } : MsgT).flat := by subst ho; rw [MsgT.eq, MsgT.eq]; exact ((MsgT.sl m).set 2 j v rfl rfl rfl h).trans (by rw [hw]; rfl)
theorem MsgT.around_row (m : MsgT) : ∃ A B, ints m.flat = A ++ (ints m.row.flat ++ B) ∧ A.length = 2 ∧ ∀ u' : RowT, ints ({ m with row := u' } : MsgT).flat = A ++ (ints u'.flat ++ B) := by
  obtain ⟨A, B, h1, h2, h3⟩ := (MsgT.sl m).around 2 rfl rfl rfl
  exact ⟨A, B, by rw [MsgT.eq]; exact h1, h2, fun u' => by rw [MsgT.eq]; exact h3 _⟩
theorem MsgT.at_version (m : MsgT) {o : Nat} (ho : o = 176) : (ints m.flat)[o]? = some (.int .i64 m.version) := by subst ho; rw [MsgT.eq]; exact (MsgT.sl m).at 3 0 rfl rfl rfl (by decide)
theorem MsgT.set_version (m : MsgT) {o : Nat} (ho : o = 176) (x : Int) : (ints m.flat).set o (.int .i64 x) = ints ({ m with version := x } : MsgT).flat := by subst ho; rw [MsgT.eq, MsgT.eq]; exact (MsgT.sl m).set 3 0 _ rfl rfl rfl (by decide)
theorem MsgT.at_epoch (m : MsgT) {o : Nat} (ho : o = 177) : (ints m.flat)[o]? = some (.int .i64 m.epoch) := by subst ho; rw [MsgT.eq]; exact (MsgT.sl m).at 4 0 rfl rfl rfl (by decide)
theorem MsgT.set_epoch (m : MsgT) {o : Nat} (ho : o = 177) (x : Int) : (ints m.flat).set o (.int .i64 x) = ints ({ m with epoch := x } : MsgT).flat := by subst ho; rw [MsgT.eq, MsgT.eq]; exact (MsgT.sl m).set 4 0 _ rfl rfl rfl (by decide)
theorem MsgT.pt_ballot (m : MsgT) {o : Nat} (j : Nat) (ho : o = 178 + j) (h : j < 2) {r : Option Value} (hr : (ints m.ballot.flat)[j]? = r) : (ints m.flat)[o]? = r := by subst ho; rw [← hr, MsgT.eq]; exact (MsgT.sl m).at 5 j rfl rfl rfl h
theorem MsgT.sub_ballot (m : MsgT) {o k : Nat} (j : Nat) (ho : o = 178 + j) (h : j + k ≤ 2) {r : List Value} (hr : ((ints m.ballot.flat).drop j).take k = r) : ((ints m.flat).drop o).take k = r := by subst ho; rw [← hr, MsgT.eq]; exact (MsgT.sl m).sub 5 j k rfl rfl rfl h
theorem MsgT.wr_ballot_ (m : MsgT) {o : Nat} (j : Nat) {vs : List Value} {u' : BallotT} (ho : o = 178 + j) (h : j + vs.length ≤ 2) (hw : wr (ints m.ballot.flat) j vs = ints u'.flat) : wr (ints m.flat) o vs = ints ({ m with ballot := u' } : MsgT).flat := by subst ho; rw [MsgT.eq, MsgT.eq]; exact (MsgT.sl m).putIn 5 j vs rfl rfl rfl h hw
theorem MsgT.st_ballot (m : MsgT) {o : Nat} (j : Nat) {v : Value} {u' : BallotT} (ho : o = 178 + j) (h : j < 2) (hw : (ints m.ballot.flat).set j v = ints u'.flat) : (ints m.flat).set o v = ints ({ m with ballot := u' } : MsgT).flat := by subst ho; rw [MsgT.eq, MsgT.eq]; exact ((MsgT.sl m).set 5 j v rfl rfl rfl h).trans (by rw [hw]; rfl)
theorem MsgT.around_ballot (m : MsgT) : ∃ A B, ints m.flat = A ++ (ints m.ballot.flat ++ B) ∧ A.length = 178 ∧ ∀ u' : BallotT, ints ({ m with ballot := u' } : MsgT).flat = A ++ (ints u'.flat ++ B) := by
  obtain ⟨A, B, h1, h2, h3⟩ := (MsgT.sl m).around 5 rfl rfl rfl
  exact ⟨A, B, by rw [MsgT.eq]; exact h1, h2, fun u' => by rw [MsgT.eq]; exact h3 _⟩
theorem MsgT.pt_had (m : MsgT) {o : Nat} (j : Nat) (ho : o = 180 + j) (h : j < 2) {r : Option Value} (hr : (ints m.had.flat)[j]? = r) : (ints m.flat)[o]? = r := by subst ho; rw [← hr, MsgT.eq]; exact (MsgT.sl m).at 6 j rfl rfl rfl h
theorem MsgT.sub_had (m : MsgT) {o k : Nat} (j : Nat) (ho : o = 180 + j) (h : j + k ≤ 2) {r : List Value} (hr : ((ints m.had.flat).drop j).take k = r) : ((ints m.flat).drop o).take k = r := by subst ho; rw [← hr, MsgT.eq]; exact (MsgT.sl m).sub 6 j k rfl rfl rfl h
theorem MsgT.wr_had_ (m : MsgT) {o : Nat} (j : Nat) {vs : List Value} {u' : BallotT} (ho : o = 180 + j) (h : j + vs.length ≤ 2) (hw : wr (ints m.had.flat) j vs = ints u'.flat) : wr (ints m.flat) o vs = ints ({ m with had := u' } : MsgT).flat := by subst ho; rw [MsgT.eq, MsgT.eq]; exact (MsgT.sl m).putIn 6 j vs rfl rfl rfl h hw
theorem MsgT.st_had (m : MsgT) {o : Nat} (j : Nat) {v : Value} {u' : BallotT} (ho : o = 180 + j) (h : j < 2) (hw : (ints m.had.flat).set j v = ints u'.flat) : (ints m.flat).set o v = ints ({ m with had := u' } : MsgT).flat := by subst ho; rw [MsgT.eq, MsgT.eq]; exact ((MsgT.sl m).set 6 j v rfl rfl rfl h).trans (by rw [hw]; rfl)
theorem MsgT.around_had (m : MsgT) : ∃ A B, ints m.flat = A ++ (ints m.had.flat ++ B) ∧ A.length = 180 ∧ ∀ u' : BallotT, ints ({ m with had := u' } : MsgT).flat = A ++ (ints u'.flat ++ B) := by
  obtain ⟨A, B, h1, h2, h3⟩ := (MsgT.sl m).around 6 rfl rfl rfl
  exact ⟨A, B, by rw [MsgT.eq]; exact h1, h2, fun u' => by rw [MsgT.eq]; exact h3 _⟩
theorem MsgT.pt_change (m : MsgT) {o : Nat} (j : Nat) (ho : o = 182 + j) (h : j < 3) {r : Option Value} (hr : (ints m.change.flat)[j]? = r) : (ints m.flat)[o]? = r := by subst ho; rw [← hr, MsgT.eq]; exact (MsgT.sl m).at 7 j rfl rfl rfl h
theorem MsgT.sub_change (m : MsgT) {o k : Nat} (j : Nat) (ho : o = 182 + j) (h : j + k ≤ 3) {r : List Value} (hr : ((ints m.change.flat).drop j).take k = r) : ((ints m.flat).drop o).take k = r := by subst ho; rw [← hr, MsgT.eq]; exact (MsgT.sl m).sub 7 j k rfl rfl rfl h
theorem MsgT.wr_change_ (m : MsgT) {o : Nat} (j : Nat) {vs : List Value} {u' : ChangeT} (ho : o = 182 + j) (h : j + vs.length ≤ 3) (hw : wr (ints m.change.flat) j vs = ints u'.flat) : wr (ints m.flat) o vs = ints ({ m with change := u' } : MsgT).flat := by subst ho; rw [MsgT.eq, MsgT.eq]; exact (MsgT.sl m).putIn 7 j vs rfl rfl rfl h hw
theorem MsgT.st_change (m : MsgT) {o : Nat} (j : Nat) {v : Value} {u' : ChangeT} (ho : o = 182 + j) (h : j < 3) (hw : (ints m.change.flat).set j v = ints u'.flat) : (ints m.flat).set o v = ints ({ m with change := u' } : MsgT).flat := by subst ho; rw [MsgT.eq, MsgT.eq]; exact ((MsgT.sl m).set 7 j v rfl rfl rfl h).trans (by rw [hw]; rfl)
theorem MsgT.around_change (m : MsgT) : ∃ A B, ints m.flat = A ++ (ints m.change.flat ++ B) ∧ A.length = 182 ∧ ∀ u' : ChangeT, ints ({ m with change := u' } : MsgT).flat = A ++ (ints u'.flat ++ B) := by
  obtain ⟨A, B, h1, h2, h3⟩ := (MsgT.sl m).around 7 rfl rfl rfl
  exact ⟨A, B, by rw [MsgT.eq]; exact h1, h2, fun u' => by rw [MsgT.eq]; exact h3 _⟩
theorem MsgT.pt_view (m : MsgT) {o : Nat} (j : Nat) (ho : o = 185 + j) (h : j < 7) {r : Option Value} (hr : (ints m.view.flat)[j]? = r) : (ints m.flat)[o]? = r := by subst ho; rw [← hr, MsgT.eq]; exact (MsgT.sl m).at 8 j rfl rfl rfl h
theorem MsgT.sub_view (m : MsgT) {o k : Nat} (j : Nat) (ho : o = 185 + j) (h : j + k ≤ 7) {r : List Value} (hr : ((ints m.view.flat).drop j).take k = r) : ((ints m.flat).drop o).take k = r := by subst ho; rw [← hr, MsgT.eq]; exact (MsgT.sl m).sub 8 j k rfl rfl rfl h
theorem MsgT.wr_view_ (m : MsgT) {o : Nat} (j : Nat) {vs : List Value} {u' : ViewT} (ho : o = 185 + j) (h : j + vs.length ≤ 7) (hw : wr (ints m.view.flat) j vs = ints u'.flat) : wr (ints m.flat) o vs = ints ({ m with view := u' } : MsgT).flat := by subst ho; rw [MsgT.eq, MsgT.eq]; exact (MsgT.sl m).putIn 8 j vs rfl rfl rfl h hw
theorem MsgT.st_view (m : MsgT) {o : Nat} (j : Nat) {v : Value} {u' : ViewT} (ho : o = 185 + j) (h : j < 7) (hw : (ints m.view.flat).set j v = ints u'.flat) : (ints m.flat).set o v = ints ({ m with view := u' } : MsgT).flat := by subst ho; rw [MsgT.eq, MsgT.eq]; exact ((MsgT.sl m).set 8 j v rfl rfl rfl h).trans (by rw [hw]; rfl)
theorem MsgT.around_view (m : MsgT) : ∃ A B, ints m.flat = A ++ (ints m.view.flat ++ B) ∧ A.length = 185 ∧ ∀ u' : ViewT, ints ({ m with view := u' } : MsgT).flat = A ++ (ints u'.flat ++ B) := by
  obtain ⟨A, B, h1, h2, h3⟩ := (MsgT.sl m).around 8 rfl rfl rfl
  exact ⟨A, B, by rw [MsgT.eq]; exact h1, h2, fun u' => by rw [MsgT.eq]; exact h3 _⟩
theorem RecT.sl (m : RecT) : SL [[Value.int .i64 m.kind], [Value.int .i64 m.whose], ints m.row.flat, [Value.int .i64 m.epoch], ints m.ballot.flat, ints m.change.flat, ints m.view.flat] [1, 1, 174, 1, 2, 3, 7] := (.cons rfl (.cons rfl (.cons (RowT.len _) (.cons rfl (.cons (BallotT.len _) (.cons (ChangeT.len _) (.cons (ViewT.len _) .nil)))))))
theorem RecT.eq (m : RecT) : ints m.flat = [[Value.int .i64 m.kind], [Value.int .i64 m.whose], ints m.row.flat, [Value.int .i64 m.epoch], ints m.ballot.flat, ints m.change.flat, ints m.view.flat].flatten := by simp [RecT.flat, ints]
theorem RecT.len (m : RecT) : (ints m.flat).length = 189 := by rw [RecT.eq, (RecT.sl m).len]; rfl
theorem RecT.at_kind (m : RecT) {o : Nat} (ho : o = 0) : (ints m.flat)[o]? = some (.int .i64 m.kind) := by subst ho; rw [RecT.eq]; exact (RecT.sl m).at 0 0 rfl rfl rfl (by decide)
theorem RecT.set_kind (m : RecT) {o : Nat} (ho : o = 0) (x : Int) : (ints m.flat).set o (.int .i64 x) = ints ({ m with kind := x } : RecT).flat := by subst ho; rw [RecT.eq, RecT.eq]; exact (RecT.sl m).set 0 0 _ rfl rfl rfl (by decide)
theorem RecT.at_whose (m : RecT) {o : Nat} (ho : o = 1) : (ints m.flat)[o]? = some (.int .i64 m.whose) := by subst ho; rw [RecT.eq]; exact (RecT.sl m).at 1 0 rfl rfl rfl (by decide)
theorem RecT.set_whose (m : RecT) {o : Nat} (ho : o = 1) (x : Int) : (ints m.flat).set o (.int .i64 x) = ints ({ m with whose := x } : RecT).flat := by subst ho; rw [RecT.eq, RecT.eq]; exact (RecT.sl m).set 1 0 _ rfl rfl rfl (by decide)
theorem RecT.pt_row (m : RecT) {o : Nat} (j : Nat) (ho : o = 2 + j) (h : j < 174) {r : Option Value} (hr : (ints m.row.flat)[j]? = r) : (ints m.flat)[o]? = r := by subst ho; rw [← hr, RecT.eq]; exact (RecT.sl m).at 2 j rfl rfl rfl h
theorem RecT.sub_row (m : RecT) {o k : Nat} (j : Nat) (ho : o = 2 + j) (h : j + k ≤ 174) {r : List Value} (hr : ((ints m.row.flat).drop j).take k = r) : ((ints m.flat).drop o).take k = r := by subst ho; rw [← hr, RecT.eq]; exact (RecT.sl m).sub 2 j k rfl rfl rfl h
theorem RecT.wr_row_ (m : RecT) {o : Nat} (j : Nat) {vs : List Value} {u' : RowT} (ho : o = 2 + j) (h : j + vs.length ≤ 174) (hw : wr (ints m.row.flat) j vs = ints u'.flat) : wr (ints m.flat) o vs = ints ({ m with row := u' } : RecT).flat := by subst ho; rw [RecT.eq, RecT.eq]; exact (RecT.sl m).putIn 2 j vs rfl rfl rfl h hw
theorem RecT.st_row (m : RecT) {o : Nat} (j : Nat) {v : Value} {u' : RowT} (ho : o = 2 + j) (h : j < 174) (hw : (ints m.row.flat).set j v = ints u'.flat) : (ints m.flat).set o v = ints ({ m with row := u' } : RecT).flat := by subst ho; rw [RecT.eq, RecT.eq]; exact ((RecT.sl m).set 2 j v rfl rfl rfl h).trans (by rw [hw]; rfl)
theorem RecT.around_row (m : RecT) : ∃ A B, ints m.flat = A ++ (ints m.row.flat ++ B) ∧ A.length = 2 ∧ ∀ u' : RowT, ints ({ m with row := u' } : RecT).flat = A ++ (ints u'.flat ++ B) := by
  obtain ⟨A, B, h1, h2, h3⟩ := (RecT.sl m).around 2 rfl rfl rfl
  exact ⟨A, B, by rw [RecT.eq]; exact h1, h2, fun u' => by rw [RecT.eq]; exact h3 _⟩
theorem RecT.at_epoch (m : RecT) {o : Nat} (ho : o = 176) : (ints m.flat)[o]? = some (.int .i64 m.epoch) := by subst ho; rw [RecT.eq]; exact (RecT.sl m).at 3 0 rfl rfl rfl (by decide)
theorem RecT.set_epoch (m : RecT) {o : Nat} (ho : o = 176) (x : Int) : (ints m.flat).set o (.int .i64 x) = ints ({ m with epoch := x } : RecT).flat := by subst ho; rw [RecT.eq, RecT.eq]; exact (RecT.sl m).set 3 0 _ rfl rfl rfl (by decide)
theorem RecT.pt_ballot (m : RecT) {o : Nat} (j : Nat) (ho : o = 177 + j) (h : j < 2) {r : Option Value} (hr : (ints m.ballot.flat)[j]? = r) : (ints m.flat)[o]? = r := by subst ho; rw [← hr, RecT.eq]; exact (RecT.sl m).at 4 j rfl rfl rfl h
theorem RecT.sub_ballot (m : RecT) {o k : Nat} (j : Nat) (ho : o = 177 + j) (h : j + k ≤ 2) {r : List Value} (hr : ((ints m.ballot.flat).drop j).take k = r) : ((ints m.flat).drop o).take k = r := by subst ho; rw [← hr, RecT.eq]; exact (RecT.sl m).sub 4 j k rfl rfl rfl h
theorem RecT.wr_ballot_ (m : RecT) {o : Nat} (j : Nat) {vs : List Value} {u' : BallotT} (ho : o = 177 + j) (h : j + vs.length ≤ 2) (hw : wr (ints m.ballot.flat) j vs = ints u'.flat) : wr (ints m.flat) o vs = ints ({ m with ballot := u' } : RecT).flat := by subst ho; rw [RecT.eq, RecT.eq]; exact (RecT.sl m).putIn 4 j vs rfl rfl rfl h hw
theorem RecT.st_ballot (m : RecT) {o : Nat} (j : Nat) {v : Value} {u' : BallotT} (ho : o = 177 + j) (h : j < 2) (hw : (ints m.ballot.flat).set j v = ints u'.flat) : (ints m.flat).set o v = ints ({ m with ballot := u' } : RecT).flat := by subst ho; rw [RecT.eq, RecT.eq]; exact ((RecT.sl m).set 4 j v rfl rfl rfl h).trans (by rw [hw]; rfl)
theorem RecT.around_ballot (m : RecT) : ∃ A B, ints m.flat = A ++ (ints m.ballot.flat ++ B) ∧ A.length = 177 ∧ ∀ u' : BallotT, ints ({ m with ballot := u' } : RecT).flat = A ++ (ints u'.flat ++ B) := by
  obtain ⟨A, B, h1, h2, h3⟩ := (RecT.sl m).around 4 rfl rfl rfl
  exact ⟨A, B, by rw [RecT.eq]; exact h1, h2, fun u' => by rw [RecT.eq]; exact h3 _⟩
theorem RecT.pt_change (m : RecT) {o : Nat} (j : Nat) (ho : o = 179 + j) (h : j < 3) {r : Option Value} (hr : (ints m.change.flat)[j]? = r) : (ints m.flat)[o]? = r := by subst ho; rw [← hr, RecT.eq]; exact (RecT.sl m).at 5 j rfl rfl rfl h
theorem RecT.sub_change (m : RecT) {o k : Nat} (j : Nat) (ho : o = 179 + j) (h : j + k ≤ 3) {r : List Value} (hr : ((ints m.change.flat).drop j).take k = r) : ((ints m.flat).drop o).take k = r := by subst ho; rw [← hr, RecT.eq]; exact (RecT.sl m).sub 5 j k rfl rfl rfl h
theorem RecT.wr_change_ (m : RecT) {o : Nat} (j : Nat) {vs : List Value} {u' : ChangeT} (ho : o = 179 + j) (h : j + vs.length ≤ 3) (hw : wr (ints m.change.flat) j vs = ints u'.flat) : wr (ints m.flat) o vs = ints ({ m with change := u' } : RecT).flat := by subst ho; rw [RecT.eq, RecT.eq]; exact (RecT.sl m).putIn 5 j vs rfl rfl rfl h hw
theorem RecT.st_change (m : RecT) {o : Nat} (j : Nat) {v : Value} {u' : ChangeT} (ho : o = 179 + j) (h : j < 3) (hw : (ints m.change.flat).set j v = ints u'.flat) : (ints m.flat).set o v = ints ({ m with change := u' } : RecT).flat := by subst ho; rw [RecT.eq, RecT.eq]; exact ((RecT.sl m).set 5 j v rfl rfl rfl h).trans (by rw [hw]; rfl)
theorem RecT.around_change (m : RecT) : ∃ A B, ints m.flat = A ++ (ints m.change.flat ++ B) ∧ A.length = 179 ∧ ∀ u' : ChangeT, ints ({ m with change := u' } : RecT).flat = A ++ (ints u'.flat ++ B) := by
  obtain ⟨A, B, h1, h2, h3⟩ := (RecT.sl m).around 5 rfl rfl rfl
  exact ⟨A, B, by rw [RecT.eq]; exact h1, h2, fun u' => by rw [RecT.eq]; exact h3 _⟩
theorem RecT.pt_view (m : RecT) {o : Nat} (j : Nat) (ho : o = 182 + j) (h : j < 7) {r : Option Value} (hr : (ints m.view.flat)[j]? = r) : (ints m.flat)[o]? = r := by subst ho; rw [← hr, RecT.eq]; exact (RecT.sl m).at 6 j rfl rfl rfl h
theorem RecT.sub_view (m : RecT) {o k : Nat} (j : Nat) (ho : o = 182 + j) (h : j + k ≤ 7) {r : List Value} (hr : ((ints m.view.flat).drop j).take k = r) : ((ints m.flat).drop o).take k = r := by subst ho; rw [← hr, RecT.eq]; exact (RecT.sl m).sub 6 j k rfl rfl rfl h
theorem RecT.wr_view_ (m : RecT) {o : Nat} (j : Nat) {vs : List Value} {u' : ViewT} (ho : o = 182 + j) (h : j + vs.length ≤ 7) (hw : wr (ints m.view.flat) j vs = ints u'.flat) : wr (ints m.flat) o vs = ints ({ m with view := u' } : RecT).flat := by subst ho; rw [RecT.eq, RecT.eq]; exact (RecT.sl m).putIn 6 j vs rfl rfl rfl h hw
theorem RecT.st_view (m : RecT) {o : Nat} (j : Nat) {v : Value} {u' : ViewT} (ho : o = 182 + j) (h : j < 7) (hw : (ints m.view.flat).set j v = ints u'.flat) : (ints m.flat).set o v = ints ({ m with view := u' } : RecT).flat := by subst ho; rw [RecT.eq, RecT.eq]; exact ((RecT.sl m).set 6 j v rfl rfl rfl h).trans (by rw [hw]; rfl)
theorem RecT.around_view (m : RecT) : ∃ A B, ints m.flat = A ++ (ints m.view.flat ++ B) ∧ A.length = 182 ∧ ∀ u' : ViewT, ints ({ m with view := u' } : RecT).flat = A ++ (ints u'.flat ++ B) := by
  obtain ⟨A, B, h1, h2, h3⟩ := (RecT.sl m).around 6 rfl rfl rfl
  exact ⟨A, B, by rw [RecT.eq]; exact h1, h2, fun u' => by rw [RecT.eq]; exact h3 _⟩
theorem OpT.sl (m : OpT) : SL [[Value.int .i64 m.kind], [Value.int .i64 m.at'], [Value.int .i64 m.to'], [Value.int .i64 m.key], [Value.int .i64 m.n], ints m.change.flat, [Value.int .i64 m.mask], [Value.int .i64 m.torn], [Value.int .i64 m.cut]] [1, 1, 1, 1, 1, 3, 1, 1, 1] := (.cons rfl (.cons rfl (.cons rfl (.cons rfl (.cons rfl (.cons (ChangeT.len _) (.cons rfl (.cons rfl (.cons rfl .nil)))))))))
theorem OpT.eq (m : OpT) : ints m.flat = [[Value.int .i64 m.kind], [Value.int .i64 m.at'], [Value.int .i64 m.to'], [Value.int .i64 m.key], [Value.int .i64 m.n], ints m.change.flat, [Value.int .i64 m.mask], [Value.int .i64 m.torn], [Value.int .i64 m.cut]].flatten := by simp [OpT.flat, ints]
theorem OpT.len (m : OpT) : (ints m.flat).length = 11 := by rw [OpT.eq, (OpT.sl m).len]; rfl
theorem OpT.at_kind (m : OpT) {o : Nat} (ho : o = 0) : (ints m.flat)[o]? = some (.int .i64 m.kind) := by subst ho; rw [OpT.eq]; exact (OpT.sl m).at 0 0 rfl rfl rfl (by decide)
theorem OpT.set_kind (m : OpT) {o : Nat} (ho : o = 0) (x : Int) : (ints m.flat).set o (.int .i64 x) = ints ({ m with kind := x } : OpT).flat := by subst ho; rw [OpT.eq, OpT.eq]; exact (OpT.sl m).set 0 0 _ rfl rfl rfl (by decide)
theorem OpT.at_at' (m : OpT) {o : Nat} (ho : o = 1) : (ints m.flat)[o]? = some (.int .i64 m.at') := by subst ho; rw [OpT.eq]; exact (OpT.sl m).at 1 0 rfl rfl rfl (by decide)
theorem OpT.set_at' (m : OpT) {o : Nat} (ho : o = 1) (x : Int) : (ints m.flat).set o (.int .i64 x) = ints ({ m with at' := x } : OpT).flat := by subst ho; rw [OpT.eq, OpT.eq]; exact (OpT.sl m).set 1 0 _ rfl rfl rfl (by decide)
theorem OpT.at_to' (m : OpT) {o : Nat} (ho : o = 2) : (ints m.flat)[o]? = some (.int .i64 m.to') := by subst ho; rw [OpT.eq]; exact (OpT.sl m).at 2 0 rfl rfl rfl (by decide)
theorem OpT.set_to' (m : OpT) {o : Nat} (ho : o = 2) (x : Int) : (ints m.flat).set o (.int .i64 x) = ints ({ m with to' := x } : OpT).flat := by subst ho; rw [OpT.eq, OpT.eq]; exact (OpT.sl m).set 2 0 _ rfl rfl rfl (by decide)
theorem OpT.at_key (m : OpT) {o : Nat} (ho : o = 3) : (ints m.flat)[o]? = some (.int .i64 m.key) := by subst ho; rw [OpT.eq]; exact (OpT.sl m).at 3 0 rfl rfl rfl (by decide)
theorem OpT.set_key (m : OpT) {o : Nat} (ho : o = 3) (x : Int) : (ints m.flat).set o (.int .i64 x) = ints ({ m with key := x } : OpT).flat := by subst ho; rw [OpT.eq, OpT.eq]; exact (OpT.sl m).set 3 0 _ rfl rfl rfl (by decide)
theorem OpT.at_n (m : OpT) {o : Nat} (ho : o = 4) : (ints m.flat)[o]? = some (.int .i64 m.n) := by subst ho; rw [OpT.eq]; exact (OpT.sl m).at 4 0 rfl rfl rfl (by decide)
theorem OpT.set_n (m : OpT) {o : Nat} (ho : o = 4) (x : Int) : (ints m.flat).set o (.int .i64 x) = ints ({ m with n := x } : OpT).flat := by subst ho; rw [OpT.eq, OpT.eq]; exact (OpT.sl m).set 4 0 _ rfl rfl rfl (by decide)
theorem OpT.pt_change (m : OpT) {o : Nat} (j : Nat) (ho : o = 5 + j) (h : j < 3) {r : Option Value} (hr : (ints m.change.flat)[j]? = r) : (ints m.flat)[o]? = r := by subst ho; rw [← hr, OpT.eq]; exact (OpT.sl m).at 5 j rfl rfl rfl h
theorem OpT.sub_change (m : OpT) {o k : Nat} (j : Nat) (ho : o = 5 + j) (h : j + k ≤ 3) {r : List Value} (hr : ((ints m.change.flat).drop j).take k = r) : ((ints m.flat).drop o).take k = r := by subst ho; rw [← hr, OpT.eq]; exact (OpT.sl m).sub 5 j k rfl rfl rfl h
theorem OpT.wr_change_ (m : OpT) {o : Nat} (j : Nat) {vs : List Value} {u' : ChangeT} (ho : o = 5 + j) (h : j + vs.length ≤ 3) (hw : wr (ints m.change.flat) j vs = ints u'.flat) : wr (ints m.flat) o vs = ints ({ m with change := u' } : OpT).flat := by subst ho; rw [OpT.eq, OpT.eq]; exact (OpT.sl m).putIn 5 j vs rfl rfl rfl h hw
theorem OpT.st_change (m : OpT) {o : Nat} (j : Nat) {v : Value} {u' : ChangeT} (ho : o = 5 + j) (h : j < 3) (hw : (ints m.change.flat).set j v = ints u'.flat) : (ints m.flat).set o v = ints ({ m with change := u' } : OpT).flat := by subst ho; rw [OpT.eq, OpT.eq]; exact ((OpT.sl m).set 5 j v rfl rfl rfl h).trans (by rw [hw]; rfl)
theorem OpT.around_change (m : OpT) : ∃ A B, ints m.flat = A ++ (ints m.change.flat ++ B) ∧ A.length = 5 ∧ ∀ u' : ChangeT, ints ({ m with change := u' } : OpT).flat = A ++ (ints u'.flat ++ B) := by
  obtain ⟨A, B, h1, h2, h3⟩ := (OpT.sl m).around 5 rfl rfl rfl
  exact ⟨A, B, by rw [OpT.eq]; exact h1, h2, fun u' => by rw [OpT.eq]; exact h3 _⟩
theorem OpT.at_mask (m : OpT) {o : Nat} (ho : o = 8) : (ints m.flat)[o]? = some (.int .i64 m.mask) := by subst ho; rw [OpT.eq]; exact (OpT.sl m).at 6 0 rfl rfl rfl (by decide)
theorem OpT.set_mask (m : OpT) {o : Nat} (ho : o = 8) (x : Int) : (ints m.flat).set o (.int .i64 x) = ints ({ m with mask := x } : OpT).flat := by subst ho; rw [OpT.eq, OpT.eq]; exact (OpT.sl m).set 6 0 _ rfl rfl rfl (by decide)
theorem OpT.at_torn (m : OpT) {o : Nat} (ho : o = 9) : (ints m.flat)[o]? = some (.int .i64 m.torn) := by subst ho; rw [OpT.eq]; exact (OpT.sl m).at 7 0 rfl rfl rfl (by decide)
theorem OpT.set_torn (m : OpT) {o : Nat} (ho : o = 9) (x : Int) : (ints m.flat).set o (.int .i64 x) = ints ({ m with torn := x } : OpT).flat := by subst ho; rw [OpT.eq, OpT.eq]; exact (OpT.sl m).set 7 0 _ rfl rfl rfl (by decide)
theorem OpT.at_cut (m : OpT) {o : Nat} (ho : o = 10) : (ints m.flat)[o]? = some (.int .i64 m.cut) := by subst ho; rw [OpT.eq]; exact (OpT.sl m).at 8 0 rfl rfl rfl (by decide)
theorem OpT.set_cut (m : OpT) {o : Nat} (ho : o = 10) (x : Int) : (ints m.flat).set o (.int .i64 x) = ints ({ m with cut := x } : OpT).flat := by subst ho; rw [OpT.eq, OpT.eq]; exact (OpT.sl m).set 8 0 _ rfl rfl rfl (by decide)
theorem ReplyT.sl (m : ReplyT) : SL [[Value.int .i64 m.op], [Value.int .i64 m.err], [Value.int .i64 m.value]] [1, 1, 1] := (.cons rfl (.cons rfl (.cons rfl .nil)))
theorem ReplyT.eq (m : ReplyT) : ints m.flat = [[Value.int .i64 m.op], [Value.int .i64 m.err], [Value.int .i64 m.value]].flatten := by simp [ReplyT.flat, ints]
theorem ReplyT.len (m : ReplyT) : (ints m.flat).length = 3 := by rw [ReplyT.eq, (ReplyT.sl m).len]; rfl
theorem ReplyT.at_op (m : ReplyT) {o : Nat} (ho : o = 0) : (ints m.flat)[o]? = some (.int .i64 m.op) := by subst ho; rw [ReplyT.eq]; exact (ReplyT.sl m).at 0 0 rfl rfl rfl (by decide)
theorem ReplyT.set_op (m : ReplyT) {o : Nat} (ho : o = 0) (x : Int) : (ints m.flat).set o (.int .i64 x) = ints ({ m with op := x } : ReplyT).flat := by subst ho; rw [ReplyT.eq, ReplyT.eq]; exact (ReplyT.sl m).set 0 0 _ rfl rfl rfl (by decide)
theorem ReplyT.at_err (m : ReplyT) {o : Nat} (ho : o = 1) : (ints m.flat)[o]? = some (.int .i64 m.err) := by subst ho; rw [ReplyT.eq]; exact (ReplyT.sl m).at 1 0 rfl rfl rfl (by decide)
theorem ReplyT.set_err (m : ReplyT) {o : Nat} (ho : o = 1) (x : Int) : (ints m.flat).set o (.int .i64 x) = ints ({ m with err := x } : ReplyT).flat := by subst ho; rw [ReplyT.eq, ReplyT.eq]; exact (ReplyT.sl m).set 1 0 _ rfl rfl rfl (by decide)
theorem ReplyT.at_value (m : ReplyT) {o : Nat} (ho : o = 2) : (ints m.flat)[o]? = some (.int .i64 m.value) := by subst ho; rw [ReplyT.eq]; exact (ReplyT.sl m).at 2 0 rfl rfl rfl (by decide)
theorem ReplyT.set_value (m : ReplyT) {o : Nat} (ho : o = 2) (x : Int) : (ints m.flat).set o (.int .i64 x) = ints ({ m with value := x } : ReplyT).flat := by subst ho; rw [ReplyT.eq, ReplyT.eq]; exact (ReplyT.sl m).set 2 0 _ rfl rfl rfl (by decide)
end Api

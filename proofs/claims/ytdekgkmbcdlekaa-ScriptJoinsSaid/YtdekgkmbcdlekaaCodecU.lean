/-
  What 'tame' keeps, in plain words.
-/
import Derived.Test.YtdekgkmbcdlekaaCodecT
import Derived.Test.YtdekgkmbcdlekaaLegI
namespace Codec
open Go Leg Api

theorem app_get {P l : List Value} {off j : Nat} {v : Value} (hP : P.length = off) (h : l[j]? = some v) : (P ++ l)[off + j]? = some v := by
  rw [List.getElem?_append_right (by omega), hP, Nat.add_sub_cancel_left, h]
theorem app_set {P l l' : List Value} {off j : Nat} {v : Value} (hP : P.length = off) (h : l.set j v = l') : (P ++ l).set (off + j) v = P ++ l' := by
  rw [List.set_append_right _ _ (by omega), hP, Nat.add_sub_cancel_left, h]
theorem app_lt {P l : List Value} {off j : Nat} (hP : P.length = off) (h : Nat.blt j l.length = true) : off + j < (P ++ l).length := by
  have := lb h
  rw [List.length_append]; omega

theorem get_two {α : Type} {cs : List α} {a b c d : Nat} (h : c + d ≤ b) : (((cs.drop a).take b).drop c).take d = (cs.drop (a + c)).take d := by
  rw [List.drop_take, List.take_take, List.drop_drop, Nat.min_eq_left (by omega)]
theorem get_cell (x : RowT) (k : Nat) (h : k < 4) : ((ints x.flat).drop (1 + k * 7)).take 7 = ints (x.cells[k]).flat := by
  rw [← get_two (b := 28) (by omega), RowT.get_cells, flats_get (by simpa using h)]; simp
theorem get_leftcell (x : RowT) (i k : Nat) (h : i < 5) (hk : k < 4) : ((ints x.flat).drop (34 + i * 28 + k * 7)).take 7 = ints (x.left[i][k]).flat := by
  rw [← get_two (b := 28) (by omega), RowT.get_left x i h, flats_get (by simpa using hk)]; simp
def zero4 : Vector CellT 4 := #v[CellT.zero, CellT.zero, CellT.zero, CellT.zero]
theorem wr_flat5w {l : List (Vector CellT 4)} {i : Nat} {v : Vector CellT 4} (h : i < l.length) : wr (ints (l.flatMap fun v => flats v.toList)) (i * 28) (ints (flats v.toList)) = ints ((l.set i v).flatMap fun v => flats v.toList) := by
  rw [ints5, ints5]
  exact wr_flatMap (f := fun v : Vector CellT 4 => ints (flats v.toList)) (fun x => by rw [ints_length, flats_length]; simp) l i v h
theorem wr_lefts (x : RowT) (i : Nat) (h : i < 5) (v : Vector CellT 4) : wr (ints x.flat) (34 + i * 28) (ints (flats v.toList)) = ints ({ x with left := x.left.set i v } : RowT).flat := by
  have hf : (ints (flats x.cells.toList)).length = 28 := by rw [ints_length, flats_length]; simp
  have hh : (ints x.heir.toList).length = 5 := by rw [ints_length]; simp
  simp only [RowT.flat, ints_cons, ints_append]
  rw [← List.singleton_append, wr_append_right (by simp; omega), wr_append_right (by simp; omega), wr_append_right (by simp; omega)]
  have e : 34 + i * 28 - [Value.int IntKind.i64 x.version].length - (ints (flats x.cells.toList)).length - (ints x.heir.toList).length = i * 28 := by simp; omega
  rw [e, wr_flat5w (by simpa using h), tl_set]
  simp
theorem split7 {cs : List Value} {off : Nat} {c : List Value} (h : (cs.drop off).take 7 = c) (hc : c.length = 7) : ∃ P R, cs = P ++ (c ++ R) ∧ P.length = off ∧ ∀ vs : List Value, vs.length = 7 → wr cs off vs = P ++ (vs ++ R) := by
  have hlen : off + 7 ≤ cs.length := by
    have := congrArg List.length h
    rw [hc, List.length_take, List.length_drop] at this
    omega
  refine ⟨cs.take off, cs.drop (off + 7), ?_, by rw [List.length_take]; omega, fun vs hv => by rw [wr, hv, List.append_assoc]⟩
  rw [← h, ← List.drop_drop, List.take_append_drop, List.take_append_drop]

def tameC (c : CellT) : CellT := ⟨m40 c.inn, m40 c.out, c.given.map m40⟩
theorem tameC_ok (c : CellT) : TameC (tameC c) := by
  have h := fun n => m40_lt n
  refine ⟨⟨(h _).1, by have := (h c.inn).2; show m40 c.inn < _; omega⟩, ⟨(h _).1, by have := (h c.out).2; show m40 c.out < _; omega⟩, fun j hj => ?_⟩
  show Small ((c.given.map m40)[j])
  rw [Vector.getElem_map]
  exact ⟨(h _).1, by have := (h c.given[j]).2; omega⟩
theorem tameC_zero : tameC CellT.zero = CellT.zero := by
  simp only [tameC, CellT.zero, CellT.mk.injEq]
  exact ⟨by decide, by decide, by simp [m40]⟩
def T1 (k : Nat) (x : RowT) : Prop := k ≤ 4 ∧ (0 ≤ x.version ∧ x.version < 9223372036854775808) ∧ ∀ (j : Nat) (h : j < 4), j < k → TameC x.cells[j]
def T2 (i : Nat) (x : RowT) : Prop := i ≤ 5 ∧ (0 ≤ x.version ∧ x.version < 9223372036854775808) ∧ (∀ (j : Nat) (h : j < 4), TameC x.cells[j]) ∧
  ∀ (j : Nat) (h : j < 5), j < i → (0 ≤ x.heir[j] ∧ x.heir[j] < 9223372036854775808) ∧ (∀ (k : Nat) (hk : k < 4), TameC x.left[j][k]) ∧ (x.heir[j] = 0 → x.left[j] = zero4)
def T3 (i k : Nat) (x : RowT) : Prop := k ≤ 4 ∧ i < 5 ∧ T2 i x ∧ ∀ h : i < 5, (0 ≤ x.heir[i] ∧ x.heir[i] < 9223372036854775808) ∧ (∀ (j : Nat) (hj : j < 4), j < k → TameC x.left[i][j]) ∧ (x.heir[i] = 0 → x.left[i] = zero4)
theorem T1.start (x : RowT) : T1 0 { x with version := m50 x.version } := ⟨by omega, by have := m50_lt x.version; exact ⟨this.1, by show m50 x.version < _; omega⟩, fun j h h' => by omega⟩
theorem T1.step {k : Nat} {x : RowT} (t : T1 k x) (h : k < 4) : T1 (k + 1) { x with cells := x.cells.set k (tameC x.cells[k]) } :=
  ⟨by omega, t.2.1, fun j hj hjk => by
    show TameC (x.cells.set k _)[j]
    rw [Vector.getElem_set]
    split
    · exact tameC_ok _
    · exact t.2.2 j hj (by omega)⟩
theorem T1.done {k : Nat} {x : RowT} (t : T1 k x) (h : ¬ k < 4) : T2 0 x := ⟨by omega, t.2.1, fun j hj => t.2.2 j hj (by omega), fun j _ h => by omega⟩
theorem T2.none {i : Nat} {x : RowT} (t : T2 i x) (h : i < 5) (h0 : m30 x.heir[i] = 0) : T3 i 0 { x with heir := x.heir.set i (m30 x.heir[i]), left := x.left.set i zero4 } := by
  refine ⟨by omega, h, ⟨t.1, t.2.1, t.2.2.1, fun j hj hji => ?_⟩, fun _ => ?_⟩
  · simp only [Vector.getElem_set_ne _ _ (show i ≠ j by omega)]
    exact t.2.2.2 j hj hji
  · simp only [Vector.getElem_set_self]
    have := m30_lt x.heir[i]
    exact ⟨⟨this.1, by omega⟩, fun j _ h => by omega, by simp⟩
theorem T2.some {i : Nat} {x : RowT} (t : T2 i x) (h : i < 5) (h0 : ¬ m30 x.heir[i] = 0) : T3 i 0 { x with heir := x.heir.set i (m30 x.heir[i]) } := by
  refine ⟨by omega, h, ⟨t.1, t.2.1, t.2.2.1, fun j hj hji => ?_⟩, fun _ => ?_⟩
  · simp only [Vector.getElem_set_ne _ _ (show i ≠ j by omega)]
    exact t.2.2.2 j hj hji
  · simp only [Vector.getElem_set_self]
    have := m30_lt x.heir[i]
    exact ⟨⟨this.1, by omega⟩, fun j _ h => by omega, fun h => absurd h h0⟩
theorem T3.step {i k : Nat} {x : RowT} (t : T3 i k x) (hi : i < 5) (h : k < 4) : T3 i (k + 1) { x with left := x.left.set i ((x.left[i]).set k (tameC x.left[i][k])) } := by
  obtain ⟨h1, h2, h3, h4⟩ := t
  have h5 := h4 hi
  refine ⟨by omega, h2, ⟨h3.1, h3.2.1, h3.2.2.1, fun j hj hji => ?_⟩, fun _ => ?_⟩
  · simp only [Vector.getElem_set_ne _ _ (show i ≠ j by omega)]
    exact h3.2.2.2 j hj hji
  · simp only [Vector.getElem_set_self]
    refine ⟨h5.1, fun j hj hjk => ?_, fun hz => ?_⟩
    · rw [Vector.getElem_set]
      split
      · exact tameC_ok _
      · exact h5.2.1 j hj (by omega)
    · have e := h5.2.2 hz
      simp only [e]
      apply Vector.ext
      intro j hj
      have hzj : ∀ (j : Nat) (hj : j < 4), zero4[j] = CellT.zero := fun j hj => by
        match j, hj with
        | 0, _ => rfl
        | 1, _ => rfl
        | 2, _ => rfl
        | 3, _ => rfl
      rw [Vector.getElem_set]
      split
      · rw [hzj k h, tameC_zero, hzj j hj]
      · rfl
theorem T3.done {i k : Nat} {x : RowT} (t : T3 i k x) (h : ¬ k < 4) : T2 (i + 1) x := by
  obtain ⟨h1, h2, h3, h4⟩ := t
  have h5 := h4 h2
  refine ⟨by omega, h3.2.1, h3.2.2.1, fun j hj hji => ?_⟩
  by_cases e : j = i
  · subst e
    exact ⟨h5.1, fun k hk => h5.2.1 k hk (by omega), h5.2.2⟩
  · exact h3.2.2.2 j hj (by omega)
theorem T2.tame {i : Nat} {x : RowT} (t : T2 i x) (h : ¬ i < 5) : TameR x :=
  ⟨t.2.1, t.2.2.1, fun j hj => (t.2.2.2 j hj (by omega)).1, fun j k hj hk => (t.2.2.2 j hj (by omega)).2.1 k hk, fun j hj h => (t.2.2.2 j hj (by omega)).2.2 h⟩
theorem wf_small {n : Int} (h : 0 ≤ n ∧ n < 9223372036854775808) : (Lit.int .i64 n).wf = true := by
  have m1 : IntKind.i64.min = -9223372036854775808 := by decide
  have m2 : IntKind.i64.max = 9223372036854775807 := by decide
  simp only [Lit.wf, m1, m2, Bool.and_eq_true, decide_eq_true_eq]
  omega
theorem TameC.wf {c : CellT} (h : TameC c) : WF c.flat := fun n hn => by
  simp only [CellT.flat, List.mem_cons] at hn
  have s : ∀ n, Small n → (Lit.int .i64 n).wf = true := fun n h => wf_small ⟨h.1, by have := h.2; omega⟩
  rcases hn with rfl | rfl | hn
  · exact s _ h.inn
  · exact s _ h.out
  · obtain ⟨j, hj, rfl⟩ := List.getElem_of_mem hn
    rw [Vector.length_toList] at hj
    have := s _ (h.given j hj)
    simpa using this
theorem wf_flats {v : Vector CellT 4} (h : ∀ (k : Nat) (hk : k < 4), TameC v[k]) : WF (flats v.toList) := fun n hn => by
  obtain ⟨c, hc, hn⟩ := List.mem_flatMap.1 hn
  obtain ⟨j, hj, rfl⟩ := List.getElem_of_mem hc
  rw [Vector.length_toList] at hj
  have := (h j hj).wf n
  simp only [Vector.getElem_toList] at hn
  exact this hn
theorem TameR.wf {x : RowT} (h : TameR x) : WF x.flat := fun n hn => by
  simp only [RowT.flat, List.mem_cons, List.mem_append] at hn
  rcases hn with rfl | hn | hn | hn
  · exact wf_small h.version
  · exact wf_flats h.cells n hn
  · obtain ⟨j, hj, rfl⟩ := List.getElem_of_mem hn
    rw [Vector.length_toList] at hj
    simpa using wf_small (h.heir j hj)
  · obtain ⟨v, hv, hn⟩ := List.mem_flatMap.1 hn
    obtain ⟨j, hj, rfl⟩ := List.getElem_of_mem hv
    rw [Vector.length_toList] at hj
    simp only [Vector.getElem_toList] at hn
    exact wf_flats (fun k hk => h.left j k hj hk) n hn
theorem wf_zero : WF RowT.zero.flat := fun n hn => by
  rw [RowT.flat_zero] at hn
  obtain rfl := List.eq_of_mem_replicate hn
  decide
theorem formed_ag {P : Program} {t : TypeId} {l : List Int} {c : Nat} (hu : (match P.underlying t with | some (.struct _) | some (.array _ _) => true | _ => false) = true) (hc : P.cellsOf t = c) (hl : l.length = c) : (agI l).formed P t = true := by
  have e : ((ints l).toArray.size == P.cellsOf t) = true := by simp [ints, hl, hc]
  unfold agI Value.formed
  split at hu
  · rename_i h; simp only [h]; exact e
  · rename_i h; simp only [h]; exact e
  · cases hu
theorem CellT.of : ∀ l : List Int, l.length = 7 → ∃ c : CellT, c.flat = l
  | [i, o, a, b, c, d, e], _ => ⟨⟨i, o, #v[a, b, c, d, e]⟩, rfl⟩
theorem flats_of : ∀ (n : Nat) (l : List Int), l.length = 7 * n → ∃ cs : List CellT, cs.length = n ∧ flats cs = l
  | 0, l, h => ⟨[], rfl, (List.eq_nil_of_length_eq_zero (by omega)).symm⟩
  | n + 1, l, h => by
    obtain ⟨c, hc⟩ := CellT.of (l.take 7) (by rw [List.length_take]; omega)
    obtain ⟨cs, h1, h2⟩ := flats_of n (l.drop 7) (by rw [List.length_drop]; omega)
    refine ⟨c :: cs, by simp [h1], ?_⟩
    rw [flats, List.flatMap_cons, hc]
    have : List.flatMap CellT.flat cs = flats cs := rfl
    rw [this, h2, List.take_append_drop]
theorem vec_of {α : Type} {n : Nat} (l : List α) (h : l.length = n) : ∃ v : Vector α n, v.toList = l := ⟨⟨l.toArray, by simpa using h⟩, by simp⟩
theorem lefts_of : ∀ (n : Nat) (l : List Int), l.length = 28 * n → ∃ vs : List (Vector CellT 4), vs.length = n ∧ (vs.flatMap fun v => flats v.toList) = l
  | 0, l, h => ⟨[], rfl, (List.eq_nil_of_length_eq_zero (by omega)).symm⟩
  | n + 1, l, h => by
    obtain ⟨c, hc1, hc2⟩ := flats_of 4 (l.take 28) (by rw [List.length_take]; omega)
    obtain ⟨v, rfl⟩ := vec_of c hc1
    obtain ⟨vs, h1, h2⟩ := lefts_of n (l.drop 28) (by rw [List.length_drop]; omega)
    exact ⟨v :: vs, by simp [h1], by rw [List.flatMap_cons, hc2, h2, List.take_append_drop]⟩
theorem RowT.of (l : List Int) (h : l.length = 174) : ∃ x : RowT, x.flat = l := by
  match l, h with
  | n :: l, h =>
    have h' : l.length = 173 := by simpa using h
    obtain ⟨cs, hc1, hc2⟩ := flats_of 4 (l.take 28) (by rw [List.length_take]; omega)
    obtain ⟨cv, rfl⟩ := vec_of cs hc1
    obtain ⟨hv, hh⟩ := vec_of (n := 5) ((l.drop 28).take 5) (by rw [List.length_take, List.length_drop]; omega)
    obtain ⟨vs, hv1, hv2⟩ := lefts_of 5 (l.drop 33) (by rw [List.length_drop]; omega)
    obtain ⟨lv, rfl⟩ := vec_of vs hv1
    refine ⟨⟨n, cv, hv, lv⟩, ?_⟩
    simp only [RowT.flat]
    rw [hc2, hh, hv2]
    congr 1
    rw [show l.drop 33 = (l.drop 28).drop 5 by rw [List.drop_drop], List.take_append_drop, List.take_append_drop]
theorem ints_inj {a b : List Int} (h : ints a = ints b) : a = b := by
  have hj : Function.Injective (Value.int IntKind.i64) := fun u v h => by injection h
  exact (List.map_inj_right fun u v h => hj h).1 h
theorem flat7_inj {c d : CellT} (h : c.flat = d.flat) : c = d := by
  obtain ⟨i, o, g⟩ := c
  obtain ⟨i', o', g'⟩ := d
  simp only [CellT.flat, List.cons.injEq] at h
  obtain ⟨rfl, rfl, h⟩ := h
  rw [Vector.toList_inj.1 h]
theorem flat_inj {x y : RowT} (h : x.flat = y.flat) : x = y := by
  have h1 : x.version = y.version := by simp only [RowT.flat, List.cons.injEq] at h; exact h.1
  have h2 : x.cells = y.cells := Vector.ext fun k hk => flat7_inj (ints_inj (by rw [← get_cell x k hk, ← get_cell y k hk, h]))
  have h3 : x.heir = y.heir := Vector.toList_inj.1 (ints_inj (by rw [← RowT.get_heirs x, ← RowT.get_heirs y, h]))
  have h4 : x.left = y.left := Vector.ext fun i hi => Vector.ext fun k hk => flat7_inj (ints_inj (by rw [← get_leftcell x i k hi hk, ← get_leftcell y i k hi hk, h]))
  obtain ⟨a, b, c, d⟩ := x
  obtain ⟨a', b', c', d'⟩ := y
  simp only at h1 h2 h3 h4
  subst h1; subst h2; subst h3; subst h4
  rfl
end Codec

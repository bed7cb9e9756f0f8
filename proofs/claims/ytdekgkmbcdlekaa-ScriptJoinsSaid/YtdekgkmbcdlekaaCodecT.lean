/-
  Rows, views, changes and ballots as bytes and back, in plain words.
-/
import Derived.Test.YtdekgkmbcdlekaaCodecP
import Derived.Test.YtdekgkmbcdlekaaCodecW
namespace Codec
open Go Leg Api

theorem smallP_enc {n lim : Int} (h0 : 0 ≤ n) (h1 : n < lim) (h2 : n < 9223372036854775808) (r : List UInt8) : smallP lim (encN n ++ r) = some (n, r) := by
  rw [smallP, pb_some (numP_encN h0 h2 r), if_neg (by omega)]; rfl
theorem smallP_big {n lim : Int} (h0 : 0 ≤ n) (h1 : ¬ n < lim) (h2 : n < 9223372036854775808) (r : List UInt8) : smallP lim (encN n ++ r) = none := by
  rw [smallP, pb_some (numP_encN h0 h2 r), if_pos (by omega)]; rfl
/-- Numbers that a cell's bytes tell. -/
def Small (n : Int) : Prop := 0 ≤ n ∧ n < 1099511627777
structure TameC (c : CellT) : Prop where
  inn : Small c.inn
  out : Small c.out
  given : ∀ (j : Nat) (h : j < 5), Small c.given[j]
theorem cellP_enc {c : CellT} (h : TameC c) (r : List UInt8) : cellP (encs c.flat ++ r) = some (c, r) := by
  obtain ⟨i, o, g⟩ := c
  obtain ⟨h1, h2, h3⟩ := h
  revert h3
  refine vec5 (p := fun g => (∀ (j : Nat) (h : j < 5), Small g[j]) → cellP (encs (CellT.flat ⟨i, o, g⟩) ++ r) = some (⟨i, o, g⟩, r)) (fun a b c d e h3 => ?_) g
  have s := fun n (h : Small n) r => smallP_enc (n := n) (lim := 1099511627777) h.1 h.2 (by unfold Small at h; omega) r
  have e0 := h3 0 (by omega)
  have e1 := h3 1 (by omega)
  have e2 := h3 2 (by omega)
  have e3 := h3 3 (by omega)
  have e4 := h3 4 (by omega)
  simp only [CellT.flat, Vector.toList_mk, encs_cons, encs_nil, List.append_assoc, cellP]
  rw [pb_some (s i h1 _), pb_some (s o h2 _), pb_some (s a e0 _), pb_some (s b e1 _), pb_some (s c e2 _), pb_some (s d e3 _), pb_some (s e e4 _)]
  rfl
structure TameR (x : RowT) : Prop where
  version : 0 ≤ x.version ∧ x.version < 9223372036854775808
  cells : ∀ (k : Nat) (h : k < 4), TameC x.cells[k]
  heir : ∀ (i : Nat) (h : i < 5), 0 ≤ x.heir[i] ∧ x.heir[i] < 9223372036854775808
  left : ∀ (i k : Nat) (h : i < 5) (hk : k < 4), TameC x.left[i][k]
  none : ∀ (i : Nat) (h : i < 5), x.heir[i] = (0 : Int) → x.left[i] = RowT.zero.left[0]
theorem cells_enc {ys : Vector CellT 4} (ht : ∀ (k : Nat) (h : k < 4), TameC ys[k]) (r : List UInt8) : ∀ (m k : Nat) (x : RowT), m = 4 - k → k ≤ 4 → (∀ j (h : j < 4), j < k → x.cells[j] = ys[j]) →
    cellsP m k x (encs (flats (ys.toList.drop k)) ++ r) = some ({ x with cells := ys }, r)
  | 0, k, x, hm, hk, hx => by
    have hk4 : k = 4 := by omega
    subst hk4
    rw [List.drop_eq_nil_of_le (by simp)]
    have : x.cells = ys := by
      apply Vector.ext
      intro j hj
      exact hx j hj hj
    subst this
    rfl
  | m + 1, k, x, hm, hk, hx => by
    have hk4 : k < 4 := by omega
    rw [flats_drop (l := ys.toList) (k := k) (by simpa using hk4), List.append_assoc]
    simp only [cellsP]
    rw [Vector.getElem_toList, pb_some (cellP_enc (ht k hk4) _), dif_pos hk4]
    rw [cells_enc ht r m (k + 1) { x with cells := x.cells.set k ys[k] } (by omega) (by omega) (fun j h hj => by
      rw [Vector.getElem_set]
      split
      · rename_i e; subst e; rfl
      · exact hx j h (by omega))]
theorem left_enc {ys : Vector CellT 4} (ht : ∀ (k : Nat) (h : k < 4), TameC ys[k]) (r : List UInt8) {i : Nat} (hi : i < 5) : ∀ (m k : Nat) (x : RowT), m = 4 - k → k ≤ 4 → (∀ j (h : j < 4), j < k → x.left[i][j] = ys[j]) →
    leftP m i k x (encs (flats (ys.toList.drop k)) ++ r) = some ({ x with left := x.left.set i ys }, r)
  | 0, k, x, hm, hk, hx => by
    have hk4 : k = 4 := by omega
    subst hk4
    rw [List.drop_eq_nil_of_le (by simp)]
    have e : x.left[i] = ys := by
      apply Vector.ext
      intro j hj
      exact hx j hj hj
    have : x.left.set i ys = x.left := by
      apply Vector.ext
      intro j hj
      rw [Vector.getElem_set]
      split
      · rename_i q; subst q; exact e.symm
      · rfl
    rw [this]
    rfl
  | m + 1, k, x, hm, hk, hx => by
    have hk4 : k < 4 := by omega
    rw [flats_drop (l := ys.toList) (k := k) (by simpa using hk4), List.append_assoc]
    simp only [leftP]
    rw [Vector.getElem_toList, pb_some (cellP_enc (ht k hk4) _), dif_pos ⟨hi, hk4⟩]
    rw [left_enc ht r hi m (k + 1) _ (by omega) (by omega) (fun j h hj => by
      rw [Vector.getElem_set_self, Vector.getElem_set]
      split
      · rename_i e; subst e; rfl
      · exact hx j h (by omega))]
    simp only [Vector.set_set]
theorem heirs_enc {y : RowT} (ht : TameR y) (r : List UInt8) : ∀ (m i : Nat) (x : RowT), m = 5 - i → i ≤ 5 → (∀ j (h : j < 5), j < i → x.heir[j] = y.heir[j] ∧ x.left[j] = y.left[j]) → (∀ j (h : j < 5), i ≤ j → x.left[j] = RowT.zero.left[0]) →
    heirsP m i x (encHeirs y m i ++ r) = some ({ x with heir := y.heir, left := y.left }, r)
  | 0, i, x, hm, hi, h1, h2 => by
    have e1 : x.heir = y.heir := Vector.ext fun j hj => (h1 j hj (by omega)).1
    have e2 : x.left = y.left := Vector.ext fun j hj => (h1 j hj (by omega)).2
    rw [← e1, ← e2]
    rfl
  | m + 1, i, x, hm, hi, h1, h2 => by
    have hi5 : i < 5 := by omega
    simp only [encHeirs, heirsP]
    rw [dif_pos hi5, List.append_assoc, List.append_assoc, pb_some (numP_encN (ht.heir i hi5).1 (ht.heir i hi5).2 _), dif_pos hi5]
    by_cases hp : 0 < y.heir[i]
    · rw [if_pos hp, if_pos hp]
      have hl := left_enc (fun k hk => ht.left i k hi5 hk) (encHeirs y m (i + 1) ++ r) hi5 4 0 { x with heir := x.heir.set i y.heir[i] } (by omega) (by omega) (fun j h hj => by omega)
      rw [List.drop_zero] at hl
      rw [pb_some hl]
      rw [heirs_enc ht r m (i + 1) _ (by omega) (by omega) (fun j h hj => by
        simp only [Vector.getElem_set]
        split
        · rename_i e; subst e; exact ⟨rfl, rfl⟩
        · exact h1 j h (by omega)) (fun j h hj => by
        simp only [Vector.getElem_set]
        rw [if_neg (by omega)]
        exact h2 j h (by omega))]
    · have h0 : y.heir[i] = 0 := by have := (ht.heir i hi5).1; omega
      rw [if_neg hp, if_neg hp, List.nil_append]
      rw [heirs_enc ht r m (i + 1) { x with heir := x.heir.set i y.heir[i] } (by omega) (by omega) (fun j h hj => by
        simp only [Vector.getElem_set]
        split
        · rename_i e; subst e; exact ⟨rfl, by rw [h2 i h (Nat.le_refl _), ht.none i h h0]⟩
        · exact h1 j h (by omega)) (fun j h hj => h2 j h (by omega))]
theorem rowP_enc {x : RowT} (h : TameR x) (r : List UInt8) : rowP (encRow x ++ r) = some (x, r) := by
  rw [encRow, List.append_assoc, List.append_assoc, rowP, pb_some (numP_encN h.version.1 h.version.2 _)]
  have hc := cells_enc h.cells (encHeirs x 5 0 ++ r) 4 0 { RowT.zero with version := x.version } (by omega) (by omega) (fun j h hj => by omega)
  rw [List.drop_zero] at hc
  rw [pb_some hc, heirs_enc h r 5 0 _ (by omega) (by omega) (fun j h hj => by omega) (fun j hj _ => by
    match j, hj with
    | 0, _ => rfl
    | 1, _ => rfl
    | 2, _ => rfl
    | 3, _ => rfl
    | 4, _ => rfl)]
theorem encRow_inj {x y : RowT} (hx : TameR x) (hy : TameR y) (h : encRow x = encRow y) : x = y := by
  have h1 := rowP_enc hx []
  have h2 := rowP_enc hy []
  rw [h] at h1
  rw [h1] at h2
  simpa using h2

/-! ### More bytes behind change nothing -/
def Ext {α : Type} (p : Ps α) : Prop := ∀ bs a r s, p bs = some (a, r) → p (bs ++ s) = some (a, r ++ s)
theorem Ext.pr {α : Type} (a : α) : Ext (pr a) := fun bs b r s h => by
  simp only [Codec.pr, Option.some.injEq, Prod.mk.injEq] at h ⊢
  exact ⟨h.1, by rw [h.2]⟩
theorem Ext.pf {α : Type} : Ext (pf : Ps α) := fun bs b r s h => by cases h
theorem Ext.pb {α β : Type} {p : Ps α} {q : α → Ps β} (hp : Ext p) (hq : ∀ a, Ext (q a)) : Ext (pb p q) := fun bs b r s h => by
  simp only [Codec.pb] at h
  split at h
  · cases h
  · rename_i a r' e
    rw [pb_some (hp _ _ _ s e)]
    exact hq a _ _ _ s h
theorem parse_ext : ∀ (bs : List UInt8) (k acc m : Nat) (r s : List UInt8), parse k acc bs = some (m, r) → parse k acc (bs ++ s) = some (m, r ++ s)
  | [], _, _, _, _, _, h => by simp [parse] at h
  | c :: cs, k, acc, m, r, s, h => by
    simp only [parse, List.cons_append] at h ⊢
    by_cases h9 : k = 9
    · rw [if_pos h9] at h; cases h
    · rw [if_neg h9] at h ⊢
      by_cases h1 : 128 ≤ c.toNat
      · rw [if_pos h1] at h ⊢; exact parse_ext cs _ _ _ _ s h
      · rw [if_neg h1] at h ⊢
        by_cases h2 : c.toNat = 0 ∧ 0 < k
        · rw [if_pos h2] at h; cases h
        · rw [if_neg h2] at h ⊢
          simp only [Option.some.injEq, Prod.mk.injEq] at h ⊢
          exact ⟨h.1, by rw [h.2]⟩
theorem Ext.num : Ext numP := fun bs a r s h => by
  simp only [numP] at h ⊢
  split at h
  · cases h
  · rename_i n r' e
    rw [parse_ext _ _ _ _ _ s e]
    simp only [Option.some.injEq, Prod.mk.injEq] at h ⊢
    exact ⟨h.1, by rw [h.2]⟩
theorem Ext.small (lim : Int) : Ext (smallP lim) := Ext.num.pb fun n => by
  split
  · exact Ext.pf
  · exact Ext.pr _
theorem Ext.cell : Ext cellP := (Ext.small _).pb fun _ => (Ext.small _).pb fun _ => (Ext.small _).pb fun _ => (Ext.small _).pb fun _ => (Ext.small _).pb fun _ => (Ext.small _).pb fun _ => (Ext.small _).pb fun _ => Ext.pr _
theorem Ext.cells : ∀ (m k : Nat) (x : RowT), Ext (cellsP m k x)
  | 0, _, _ => Ext.pr _
  | m + 1, k, x => Ext.cell.pb fun _ => Ext.cells m _ _
theorem Ext.left : ∀ (m i k : Nat) (x : RowT), Ext (leftP m i k x)
  | 0, _, _, _ => Ext.pr _
  | m + 1, i, k, x => Ext.cell.pb fun _ => Ext.left m _ _ _
theorem Ext.heirs : ∀ (m i : Nat) (x : RowT), Ext (heirsP m i x)
  | 0, _, _ => Ext.pr _
  | m + 1, i, x => Ext.num.pb fun n => by
    show Ext (if 0 < n then _ else _)
    split
    · exact (Ext.left _ _ _ _).pb fun _ => Ext.heirs m _ _
    · exact Ext.heirs m _ _
theorem Ext.row : Ext rowP := Ext.num.pb fun _ => (Ext.cells _ _ _).pb fun _ => Ext.heirs _ _ _
/-- Cut off they are none. -/
theorem Ext.cut {α : Type} {p : Ps α} (h : Ext p) {bs : List UInt8} {a : α} (h1 : p bs = some (a, [])) {k : Nat} (hk : k < bs.length) : p (bs.take k) = none := by
  cases e : p (bs.take k) with
  | none => rfl
  | some x =>
    obtain ⟨b, r⟩ := x
    have := h _ _ _ (bs.drop k) e
    rw [List.take_append_drop, h1] at this
    simp only [Option.some.injEq, Prod.mk.injEq] at this
    have h2 := congrArg List.length this.2
    simp at h2
    omega
end Codec

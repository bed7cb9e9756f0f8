/-
  Joined texts: what a statement's proof reaches.
-/
import Derived.Test.YtohmkchalilodaaGreatDoorPLock2
set_option maxHeartbeats 8000000
set_option maxRecDepth 100000
set_option linter.unusedSimpArgs false
set_option linter.unusedVariables false
section
namespace Codec
open Go Leg Api
theorem smallP_enc {n lim : Int} (h0 : 0 ≤ n) (h1 : n < lim) (h2 : n < 9223372036854775808) (r : List UInt8) : smallP lim (encN n ++ r) = some (n, r) := by
 rw [smallP, pb_some (numP_encN h0 h2 r), if_neg (by omega)]; rfl
def Small (n : Int) : Prop := 0 ≤ n ∧ n < 1099511627777
structure TameC (c : CellT) : Prop where
 inn : Small c.inn
 out : Small c.out
 given : ∀ (j : Nat) (h : j < 5), Small c.given[j]
theorem cellP_enc {c : CellT} (h : TameC c) (r : List UInt8) : cellP (encs c.flat ++ r) = some (c, r) := by
 obtain ⟨i, o, g⟩ := c
 obtain ⟨h1, h2, h3⟩ := h
 revert h3
 refine vec5 (p := fun g => (∀ (j : Nat) (h : j < 5), Small g[j]) → cellP (encs (CellT.flat ⟨i, o, g⟩) ++ r) = some (⟨i, o, g⟩, r)) (fun a b c d e h3 => ?_) g
 have s := fun n (h : Small n) r => smallP_enc (n := n) (lim := 1099511627777) h.1 h.2 (by unfold Small at h; omega) r
 have e0 := h3 0 (by omega)
 have e1 := h3 1 (by omega)
 have e2 := h3 2 (by omega)
 have e3 := h3 3 (by omega)
 have e4 := h3 4 (by omega)
 simp only [CellT.flat, Vector.toList_mk, encs_cons, encs_nil, List.append_assoc, cellP]
 rw [pb_some (s i h1 _), pb_some (s o h2 _), pb_some (s a e0 _), pb_some (s b e1 _), pb_some (s c e2 _), pb_some (s d e3 _), pb_some (s e e4 _)]
 rfl
structure TameR (x : RowT) : Prop where
 version : 0 ≤ x.version ∧ x.version < 9223372036854775808
 cells : ∀ (k : Nat) (h : k < 4), TameC x.cells[k]
 heir : ∀ (i : Nat) (h : i < 5), 0 ≤ x.heir[i] ∧ x.heir[i] < 9223372036854775808
 left : ∀ (i k : Nat) (h : i < 5) (hk : k < 4), TameC x.left[i][k]
 none : ∀ (i : Nat) (h : i < 5), x.heir[i] = (0 : Int) → x.left[i] = RowT.zero.left[0]
theorem cells_enc {ys : Vector CellT 4} (ht : ∀ (k : Nat) (h : k < 4), TameC ys[k]) (r : List UInt8) : ∀ (m k : Nat) (x : RowT), m = 4 - k → k ≤ 4 → (∀ j (h : j < 4), j < k → x.cells[j] = ys[j]) →
 cellsP m k x (encs (flats (ys.toList.drop k)) ++ r) = some ({ x with cells := ys }, r)
 | 0, k, x, hm, hk, hx => by
  have hk4 : k = 4 := by omega
  subst hk4
  rw [List.drop_eq_nil_of_le (by simp)]
  have : x.cells = ys := by
   apply Vector.ext
   intro j hj
   exact hx j hj hj
  subst this
  rfl
 | m + 1, k, x, hm, hk, hx => by
  have hk4 : k < 4 := by omega
  rw [flats_drop (l := ys.toList) (k := k) (by simpa using hk4), List.append_assoc]
  simp only [cellsP]
  rw [Vector.getElem_toList, pb_some (cellP_enc (ht k hk4) _), dif_pos hk4]
  rw [cells_enc ht r m (k + 1) { x with cells := x.cells.set k ys[k] } (by omega) (by omega) (fun j h hj => by
   rw [Vector.getElem_set]
   split
   · rename_i e; subst e; rfl
   · exact hx j h (by omega))]
theorem left_enc {ys : Vector CellT 4} (ht : ∀ (k : Nat) (h : k < 4), TameC ys[k]) (r : List UInt8) {i : Nat} (hi : i < 5) : ∀ (m k : Nat) (x : RowT), m = 4 - k → k ≤ 4 → (∀ j (h : j < 4), j < k → x.left[i][j] = ys[j]) →
 leftP m i k x (encs (flats (ys.toList.drop k)) ++ r) = some ({ x with left := x.left.set i ys }, r)
 | 0, k, x, hm, hk, hx => by
  have hk4 : k = 4 := by omega
  subst hk4
  rw [List.drop_eq_nil_of_le (by simp)]
  have e : x.left[i] = ys := by
   apply Vector.ext
   intro j hj
   exact hx j hj hj
  have : x.left.set i ys = x.left := by
   apply Vector.ext
   intro j hj
   rw [Vector.getElem_set]
   split
   · rename_i q; subst q; exact e.symm
   · rfl
  rw [this]
  rfl
 | m + 1, k, x, hm, hk, hx => by
  have hk4 : k < 4 := by omega
  rw [flats_drop (l := ys.toList) (k := k) (by simpa using hk4), List.append_assoc]
  simp only [leftP]
  rw [Vector.getElem_toList, pb_some (cellP_enc (ht k hk4) _), dif_pos ⟨hi, hk4⟩]
  rw [left_enc ht r hi m (k + 1) _ (by omega) (by omega) (fun j h hj => by
   rw [Vector.getElem_set_self, Vector.getElem_set]
   split
   · rename_i e; subst e; rfl
   · exact hx j h (by omega))]
  simp only [Vector.set_set]
theorem heirs_enc {y : RowT} (ht : TameR y) (r : List UInt8) : ∀ (m i : Nat) (x : RowT), m = 5 - i → i ≤ 5 → (∀ j (h : j < 5), j < i → x.heir[j] = y.heir[j] ∧ x.left[j] = y.left[j]) → (∀ j (h : j < 5), i ≤ j → x.left[j] = RowT.zero.left[0]) →
 heirsP m i x (encHeirs y m i ++ r) = some ({ x with heir := y.heir, left := y.left }, r)
 | 0, i, x, hm, hi, h1, h2 => by
  have e1 : x.heir = y.heir := Vector.ext fun j hj => (h1 j hj (by omega)).1
  have e2 : x.left = y.left := Vector.ext fun j hj => (h1 j hj (by omega)).2
  rw [← e1, ← e2]
  rfl
 | m + 1, i, x, hm, hi, h1, h2 => by
  have hi5 : i < 5 := by omega
  simp only [encHeirs, heirsP]
  rw [dif_pos hi5, List.append_assoc, List.append_assoc, pb_some (numP_encN (ht.heir i hi5).1 (ht.heir i hi5).2 _), dif_pos hi5]
  by_cases hp : 0 < y.heir[i]
  · rw [if_pos hp, if_pos hp]
    have hl := left_enc (fun k hk => ht.left i k hi5 hk) (encHeirs y m (i + 1) ++ r) hi5 4 0 { x with heir := x.heir.set i y.heir[i] } (by omega) (by omega) (fun j h hj => by omega)
    rw [List.drop_zero] at hl
    rw [pb_some hl]
    rw [heirs_enc ht r m (i + 1) _ (by omega) (by omega) (fun j h hj => by
     simp only [Vector.getElem_set]
     split
     · rename_i e; subst e; exact ⟨rfl, rfl⟩
     · exact h1 j h (by omega)) (fun j h hj => by
     simp only [Vector.getElem_set]
     rw [if_neg (by omega)]
     exact h2 j h (by omega))]
  · have h0 : y.heir[i] = 0 := by have := (ht.heir i hi5).1; omega
    rw [if_neg hp, if_neg hp, List.nil_append]
    rw [heirs_enc ht r m (i + 1) { x with heir := x.heir.set i y.heir[i] } (by omega) (by omega) (fun j h hj => by
     simp only [Vector.getElem_set]
     split
     · rename_i e; subst e; exact ⟨rfl, by rw [h2 i h (Nat.le_refl _), ht.none i h h0]⟩
     · exact h1 j h (by omega)) (fun j h hj => h2 j h (by omega))]
theorem rowP_enc {x : RowT} (h : TameR x) (r : List UInt8) : rowP (encRow x ++ r) = some (x, r) := by
 rw [encRow, List.append_assoc, List.append_assoc, rowP, pb_some (numP_encN h.version.1 h.version.2 _)]
 have hc := cells_enc h.cells (encHeirs x 5 0 ++ r) 4 0 { RowT.zero with version := x.version } (by omega) (by omega) (fun j h hj => by omega)
 rw [List.drop_zero] at hc
 rw [pb_some hc, heirs_enc h r 5 0 _ (by omega) (by omega) (fun j h hj => by omega) (fun j hj _ => by
  match j, hj with
  | 0, _ => rfl
  | 1, _ => rfl
  | 2, _ => rfl
  | 3, _ => rfl
  | 4, _ => rfl)]
end Codec
end

section
namespace Codec
open Go Leg Api
def tameC (c : CellT) : CellT := ⟨m40 c.inn, m40 c.out, c.given.map m40⟩
theorem tameC_ok (c : CellT) : TameC (tameC c) := by
 have h := fun n => m40_lt n
 refine ⟨⟨(h _).1, by have := (h c.inn).2; show m40 c.inn < _; omega⟩, ⟨(h _).1, by have := (h c.out).2; show m40 c.out < _; omega⟩, fun j hj => ?_⟩
 show Small ((c.given.map m40)[j])
 rw [Vector.getElem_map]
 exact ⟨(h _).1, by have := (h c.given[j]).2; omega⟩
theorem tameC_zero : tameC CellT.zero = CellT.zero := by
 simp only [tameC, CellT.zero, CellT.mk.injEq]
 exact ⟨by decide, by decide, by simp [m40]⟩
theorem wf_small {n : Int} (h : 0 ≤ n ∧ n < 9223372036854775808) : (Lit.int .i64 n).wf = true := by
 have m1 : IntKind.i64.min = -9223372036854775808 := by decide
 have m2 : IntKind.i64.max = 9223372036854775807 := by decide
 simp only [Lit.wf, m1, m2, Bool.and_eq_true, decide_eq_true_eq]
 omega
theorem TameC.wf {c : CellT} (h : TameC c) : WF c.flat := fun n hn => by
 simp only [CellT.flat, List.mem_cons] at hn
 have s : ∀ n, Small n → (Lit.int .i64 n).wf = true := fun n h => wf_small ⟨h.1, by have := h.2; omega⟩
 rcases hn with rfl | rfl | hn
 · exact s _ h.inn
 · exact s _ h.out
 · obtain ⟨j, hj, rfl⟩ := List.getElem_of_mem hn
   rw [Vector.length_toList] at hj
   have := s _ (h.given j hj)
   simpa using this
theorem wf_flats {v : Vector CellT 4} (h : ∀ (k : Nat) (hk : k < 4), TameC v[k]) : WF (flats v.toList) := fun n hn => by
 obtain ⟨c, hc, hn⟩ := List.mem_flatMap.1 hn
 obtain ⟨j, hj, rfl⟩ := List.getElem_of_mem hc
 rw [Vector.length_toList] at hj
 have := (h j hj).wf n
 simp only [Vector.getElem_toList] at hn
 exact this hn
theorem TameR.wf {x : RowT} (h : TameR x) : WF x.flat := fun n hn => by
 simp only [RowT.flat, List.mem_cons, List.mem_append] at hn
 rcases hn with rfl | hn | hn | hn
 · exact wf_small h.version
 · exact wf_flats h.cells n hn
 · obtain ⟨j, hj, rfl⟩ := List.getElem_of_mem hn
   rw [Vector.length_toList] at hj
   simpa using wf_small (h.heir j hj)
 · obtain ⟨v, hv, hn⟩ := List.mem_flatMap.1 hn
   obtain ⟨j, hj, rfl⟩ := List.getElem_of_mem hv
   rw [Vector.length_toList] at hj
   simp only [Vector.getElem_toList] at hn
   exact wf_flats (fun k hk => h.left j k hj hk) n hn
theorem formed_ag {P : Program} {t : TypeId} {l : List Int} {c : Nat} (hu : (match P.underlying t with | some (.struct _) | some (.array _ _) => true | _ => false) = true) (hc : P.cellsOf t = c) (hl : l.length = c) : (agI l).formed P t = true := by
 have e : ((ints l).toArray.size == P.cellsOf t) = true := by simp [ints, hl, hc]
 unfold agI Value.formed
 split at hu
 · rename_i h; simp only [h]; exact e
 · rename_i h; simp only [h]; exact e
 · cases hu
end Codec
end

section
namespace Codec
open Go Leg Api
theorem pb_inv {α β : Type} {p : Ps α} {q : α → Ps β} {bs r : List UInt8} {b : β} (h : pb p q bs = some (b, r)) : ∃ a r', p bs = some (a, r') ∧ q a r' = some (b, r) := by
 cases e : p bs with
 | none => rw [pb_none e] at h; cases h
 | some x => obtain ⟨a, r'⟩ := x; rw [pb_some e] at h; exact ⟨a, r', rfl, h⟩
theorem pr_inv {α : Type} {a b : α} {bs r : List UInt8} (h : pr a bs = some (b, r)) : a = b ∧ bs = r := by
 simp only [pr, Option.some.injEq, Prod.mk.injEq] at h; exact h
theorem small_spec {lim n : Int} {bs r : List UInt8} (h : smallP lim bs = some (n, r)) : (0 ≤ n ∧ n < lim ∧ n < 9223372036854775808) ∧ bs = encN n ++ r := by
 obtain ⟨a, r', h1, h2⟩ := pb_inv h
 obtain ⟨k1, k2, k3⟩ := numP_spec h1
 split at h2
 · cases h2
 · obtain ⟨rfl, rfl⟩ := pr_inv h2
   exact ⟨⟨k1, by omega, k2⟩, k3⟩
theorem cell_spec {c : CellT} {bs r : List UInt8} (h : cellP bs = some (c, r)) : TameC c ∧ bs = encs c.flat ++ r := by
 obtain ⟨i, _, h1, h⟩ := pb_inv h
 obtain ⟨o, _, h2, h⟩ := pb_inv h
 obtain ⟨a, _, h3, h⟩ := pb_inv h
 obtain ⟨b, _, h4, h⟩ := pb_inv h
 obtain ⟨d, _, h5, h⟩ := pb_inv h
 obtain ⟨e, _, h6, h⟩ := pb_inv h
 obtain ⟨f, _, h7, h⟩ := pb_inv h
 obtain ⟨rfl, rfl⟩ := pr_inv h
 obtain ⟨k1, rfl⟩ := small_spec h1
 obtain ⟨k2, rfl⟩ := small_spec h2
 obtain ⟨k3, rfl⟩ := small_spec h3
 obtain ⟨k4, rfl⟩ := small_spec h4
 obtain ⟨k5, rfl⟩ := small_spec h5
 obtain ⟨k6, rfl⟩ := small_spec h6
 obtain ⟨k7, rfl⟩ := small_spec h7
 have s : ∀ {n : Int}, (0 ≤ n ∧ n < 1099511627777 ∧ n < 9223372036854775808) → Small n := fun h => ⟨h.1, h.2.1⟩
 refine ⟨⟨s k1, s k2, fun j hj => ?_⟩, by simp [CellT.flat, encs]⟩
 match j, hj with
 | 0, _ => exact s k3
 | 1, _ => exact s k4
 | 2, _ => exact s k5
 | 3, _ => exact s k6
 | 4, _ => exact s k7
theorem view_spec {v : ViewT} {bs r : List UInt8} (h : viewP bs = some (v, r)) : ((0 ≤ v.epoch ∧ v.epoch < 9223372036854775808) ∧ (0 ≤ v.members ∧ v.members < 32) ∧ ∀ (i : Nat) (hi : i < 5), 0 ≤ v.heirs[i] ∧ v.heirs[i] < 6) ∧ bs = encs v.flat ++ r := by
 obtain ⟨i, _, h1, h⟩ := pb_inv h
 obtain ⟨o, _, h2, h⟩ := pb_inv h
 obtain ⟨a, _, h3, h⟩ := pb_inv h
 obtain ⟨b, _, h4, h⟩ := pb_inv h
 obtain ⟨d, _, h5, h⟩ := pb_inv h
 obtain ⟨e, _, h6, h⟩ := pb_inv h
 obtain ⟨f, _, h7, h⟩ := pb_inv h
 obtain ⟨rfl, rfl⟩ := pr_inv h
 obtain ⟨k1, k1', rfl⟩ := numP_spec h1
 obtain ⟨k2, rfl⟩ := small_spec h2
 obtain ⟨k3, rfl⟩ := small_spec h3
 obtain ⟨k4, rfl⟩ := small_spec h4
 obtain ⟨k5, rfl⟩ := small_spec h5
 obtain ⟨k6, rfl⟩ := small_spec h6
 obtain ⟨k7, rfl⟩ := small_spec h7
 refine ⟨⟨⟨k1, k1'⟩, ⟨k2.1, k2.2.1⟩, fun j hj => ?_⟩, by simp [ViewT.flat, encs]⟩
 match j, hj with
 | 0, _ => exact ⟨k3.1, k3.2.1⟩
 | 1, _ => exact ⟨k4.1, k4.2.1⟩
 | 2, _ => exact ⟨k5.1, k5.2.1⟩
 | 3, _ => exact ⟨k6.1, k6.2.1⟩
 | 4, _ => exact ⟨k7.1, k7.2.1⟩
theorem cells_spec : ∀ (m k : Nat) (x y : RowT) (bs r : List UInt8), m = 4 - k → k ≤ 4 → cellsP m k x bs = some (y, r) →
 (y.version = x.version ∧ y.heir = x.heir ∧ y.left = x.left) ∧ (∀ j (h : j < 4), j < k → y.cells[j] = x.cells[j]) ∧ (∀ j (h : j < 4), k ≤ j → TameC y.cells[j]) ∧ bs = encs (flats (y.cells.toList.drop k)) ++ r
 | 0, k, x, y, bs, r, hm, hk, h => by
  obtain ⟨rfl, rfl⟩ := pr_inv h
  obtain rfl : k = 4 := by omega
  exact ⟨⟨rfl, rfl, rfl⟩, fun _ _ _ => rfl, fun j h h' => by omega, by rw [List.drop_eq_nil_of_le (by simp)]; rfl⟩
 | m + 1, k, x, y, bs, r, hm, hk, h => by
  have hk4 : k < 4 := by omega
  obtain ⟨c, r', h1, h2⟩ := pb_inv h
  obtain ⟨k1, rfl⟩ := cell_spec h1
  rw [dif_pos hk4] at h2
  obtain ⟨i1, i2, i3, rfl⟩ := cells_spec m (k + 1) _ y r' r (by omega) (by omega) h2
  have e : y.cells[k] = c := by rw [i2 k hk4 (by omega)]; simp
  refine ⟨i1, fun j h hj => by rw [i2 j h (by omega)]; simp [Vector.getElem_set, show k ≠ j by omega], fun j h hj => ?_, ?_⟩
  · by_cases q : j = k
    · subst q; rw [e]; exact k1
    · exact i3 j h (by omega)
  · rw [flats_drop (l := y.cells.toList) (k := k) (by simpa using hk4), Vector.getElem_toList, e, List.append_assoc]
theorem left_spec {i : Nat} (hi : i < 5) : ∀ (m k : Nat) (x y : RowT) (bs r : List UInt8), m = 4 - k → k ≤ 4 → leftP m i k x bs = some (y, r) →
 (y.version = x.version ∧ y.heir = x.heir ∧ y.cells = x.cells) ∧ (∀ j (h : j < 5), j ≠ i → y.left[j] = x.left[j]) ∧ (∀ j (h : j < 4), j < k → y.left[i][j] = x.left[i][j]) ∧ (∀ j (h : j < 4), k ≤ j → TameC y.left[i][j]) ∧ bs = encs (flats (y.left[i].toList.drop k)) ++ r
 | 0, k, x, y, bs, r, hm, hk, h => by
  obtain ⟨rfl, rfl⟩ := pr_inv h
  obtain rfl : k = 4 := by omega
  exact ⟨⟨rfl, rfl, rfl⟩, fun _ _ _ => rfl, fun _ _ _ => rfl, fun j h h' => by omega, by rw [List.drop_eq_nil_of_le (by simp)]; rfl⟩
 | m + 1, k, x, y, bs, r, hm, hk, h => by
  have hk4 : k < 4 := by omega
  obtain ⟨c, r', h1, h2⟩ := pb_inv h
  obtain ⟨k1, rfl⟩ := cell_spec h1
  rw [dif_pos ⟨hi, hk4⟩] at h2
  obtain ⟨i1, i2, i3, i4, rfl⟩ := left_spec hi m (k + 1) _ y r' r (by omega) (by omega) h2
  have e : y.left[i][k] = c := by rw [i3 k hk4 (by omega)]; simp
  refine ⟨i1, fun j h hj => by rw [i2 j h hj]; simp [Vector.getElem_set, Ne.symm hj], fun j h hj => by rw [i3 j h (by omega)]; simp [Vector.getElem_set, show k ≠ j by omega], fun j h hj => ?_, ?_⟩
  · by_cases q : j = k
    · subst q; rw [e]; exact k1
    · exact i4 j h (by omega)
  · rw [flats_drop (l := y.left[i].toList) (k := k) (by simpa using hk4), Vector.getElem_toList, e, List.append_assoc]
theorem tame_zero : TameC CellT.zero := by rw [← tameC_zero]; exact tameC_ok _
theorem heirs_spec : ∀ (m i : Nat) (x y : RowT) (bs r : List UInt8), m = 5 - i → i ≤ 5 → (∀ j (h : j < 5), i ≤ j → x.left[j] = RowT.zero.left[0]) → heirsP m i x bs = some (y, r) →
 (y.version = x.version ∧ y.cells = x.cells) ∧ (∀ j (h : j < 5), j < i → y.heir[j] = x.heir[j] ∧ y.left[j] = x.left[j]) ∧
 (∀ j (h : j < 5), i ≤ j → (0 ≤ y.heir[j] ∧ y.heir[j] < 9223372036854775808) ∧ (∀ k (hk : k < 4), TameC y.left[j][k]) ∧ (y.heir[j] = (0 : Int) → y.left[j] = RowT.zero.left[0])) ∧ bs = encHeirs y m i ++ r
 | 0, i, x, y, bs, r, hm, hi, hz, h => by
  obtain ⟨rfl, rfl⟩ := pr_inv h
  obtain rfl : i = 5 := by omega
  exact ⟨⟨rfl, rfl⟩, fun _ _ _ => ⟨rfl, rfl⟩, fun j h h' => by omega, rfl⟩
 | m + 1, i, x, y, bs, r, hm, hi, hz, h => by
  have hi5 : i < 5 := by omega
  have zt : ∀ k (hk : k < 4), TameC (RowT.zero.left[0])[k] := fun k hk => by
   match k, hk with
   | 0, _ | 1, _ | 2, _ | 3, _ => exact tame_zero
  obtain ⟨n, r', h1, h2⟩ := pb_inv h
  obtain ⟨k1, k2, rfl⟩ := numP_spec h1
  simp only [dif_pos hi5] at h2
  split at h2
  · rename_i hn
    obtain ⟨z, r2, h3, h4⟩ := pb_inv h2
    obtain ⟨⟨i1, i2, i3⟩, i4, _, i5, rfl⟩ := left_spec hi5 4 0 _ z r' r2 rfl (by omega) h3
    obtain ⟨⟨j1, j2⟩, j3, j4, rfl⟩ := heirs_spec m (i + 1) z y r2 r (by omega) (by omega) (fun j h hj => by rw [i4 j h (by omega)]; exact hz j h (by omega)) h4
    have e1 : y.heir[i] = n := by rw [(j3 i hi5 (by omega)).1, show z.heir[i] = (x.heir.set i n)[i] from by rw [i2]]; simp
    have e2 : y.left[i] = z.left[i] := (j3 i hi5 (by omega)).2
    refine ⟨⟨by rw [j1, i1], by rw [j2, i3]⟩, fun j h hj => ⟨?_, ?_⟩, fun j h hj => ?_, ?_⟩
    · rw [(j3 j h (by omega)).1, show z.heir[j] = (x.heir.set i n)[j] from by rw [i2]]; simp [Vector.getElem_set, show i ≠ j by omega]
    · rw [(j3 j h (by omega)).2, i4 j h (by omega)]
    · by_cases q : j = i
      · subst q
        rw [e1, e2]
        exact ⟨⟨k1, k2⟩, fun k hk => i5 k hk (by omega), fun e => by omega⟩
      · exact j4 j h (by omega)
    · simp only [encHeirs, dif_pos hi5, e1, if_pos hn, e2, List.append_assoc, List.drop_zero]
  · rename_i hn
    obtain ⟨⟨j1, j2⟩, j3, j4, rfl⟩ := heirs_spec m (i + 1) { x with heir := x.heir.set i n } y r' r (by omega) (by omega) (fun j h hj => hz j h (by omega)) h2
    have e1 : y.heir[i] = n := by rw [(j3 i hi5 (by omega)).1]; simp
    have e2 : y.left[i] = x.left[i] := (j3 i hi5 (by omega)).2
    refine ⟨⟨j1, j2⟩, fun j h hj => ⟨?_, ?_⟩, fun j h hj => ?_, ?_⟩
    · rw [(j3 j h (by omega)).1]; simp [Vector.getElem_set, show i ≠ j by omega]
    · rw [(j3 j h (by omega)).2]
    · by_cases q : j = i
      · subst q
        rw [e1, e2, hz j hi5 (Nat.le_refl _)]
        exact ⟨⟨k1, k2⟩, zt, fun _ => rfl⟩
      · exact j4 j h (by omega)
    · simp only [encHeirs, dif_pos hi5, e1, if_neg hn, List.nil_append, List.append_nil, List.append_assoc]
theorem row_spec {x : RowT} {bs r : List UInt8} (h : rowP bs = some (x, r)) : TameR x ∧ bs = encRow x ++ r := by
 obtain ⟨n, r1, h1, h'⟩ := pb_inv h
 clear h
 obtain ⟨k1, k2, rfl⟩ := numP_spec h1
 replace h' : pb (cellsP 4 0 { RowT.zero with version := n }) (heirsP 5 0) r1 = some (x, r) := h'
 obtain ⟨y, r2, h2, h3⟩ := pb_inv h'
 clear h'
 obtain ⟨⟨i1, i2, i3⟩, _, i4, rfl⟩ := cells_spec 4 0 _ y r1 r2 rfl (by omega) h2
 obtain ⟨⟨j1, j2⟩, _, j3, rfl⟩ := heirs_spec 5 0 y x r2 r rfl (by omega) (fun j h _ => by
  rw [show y.left[j] = RowT.zero.left[j] from by rw [i3]]
  match j, h with
  | 0, _ | 1, _ | 2, _ | 3, _ | 4, _ => rfl) h3
 have ev : x.version = n := by rw [j1, i1]
 refine ⟨⟨by rw [ev]; exact ⟨k1, k2⟩, fun k hk => by rw [show x.cells[k] = y.cells[k] from by rw [j2]]; exact i4 k hk (by omega), fun i hi => (j3 i hi (by omega)).1, fun i k hi hk => (j3 i hi (by omega)).2.1 k hk, fun i hi => (j3 i hi (by omega)).2.2⟩, ?_⟩
 rw [encRow, ev, j2, List.drop_zero]
 simp only [List.append_assoc]
end Codec
end

section
namespace Api
open Go Leg Codec
def okN (n : Int) : Bool := decide (0 ≤ n ∧ n ≤ 1099511627776)
def addE : List Int → Int → Int × Int
 | [], s => (s, 0)
 | n :: l, s => if okN n then (if n > 1099511627776 - s then (0, 6) else addE l (s + n)) else (0, 5)
def okC (c : CellT) : Bool := okN c.inn && okN c.out && decide ((addE c.given.toList 0).2 = 0)
def okCs (v : Vector CellT 4) : Bool := decide (∀ k (h : k < 4), okC v[k] = true)
def hokR (h : Int) (l : Vector CellT 4) : Bool := decide (0 ≤ h) && okCs l && decide (h = 0 → flats l.toList = flats RowT.zero.left[0].toList)
def rightR (x : RowT) : Bool := decide (0 ≤ x.version) && okCs x.cells && decide (∀ j (h : j < 5), hokR x.heir[j] x.left[j] = true)
def machB (w : Int) : Bool := decide (0 ≤ w ∧ w < 5)
def bitB (m w : Int) : Bool := decide ((m.fdiv (2 ^ min w.toNat IntKind.i64.bits)) % 2 = 1)
def memb (v : ViewT) (w : Int) : Bool := machB w && bitB v.members w
def okH (v : ViewT) (h : Int) (i : Nat) : Bool := decide (h = 0) || (memb v (h - 1) && !memb v (i : Int))
def rightV (v : ViewT) : Bool := decide (1 ≤ v.epoch ∧ 1 ≤ v.members ∧ v.members < 32) && @decide (∀ (j : Nat) (h : j < 5), okH v (v.heirs[j]'h) j = true) (Nat.decidableBallLT 5 fun j h => okH v (v.heirs[j]'h) j = true)
def firstV : ViewT := ⟨1, 7, #v[0, 0, 0, 0, 0]⟩
def heirV (v : ViewT) (w : Int) : Option Int := if h : 0 ≤ w ∧ w < 5 then (if v.heirs[w.toNat] < 1 then none else some (v.heirs[w.toNat] - 1)) else none
def Rng (v : ViewT) : Prop := ∀ (i : Nat) (h : i < 5), 0 ≤ v.heirs[i] ∧ v.heirs[i] ≤ 5
theorem add_step {l : List Int} {k : Nat} {s : Int} (h : k < l.length) : addE (l.drop k) s = if okN (l.getD k 0) then (if l.getD k 0 > 1099511627776 - s then (0, 6) else addE (l.drop (k + 1)) (s + l.getD k 0)) else (0, 5) := by
 rw [List.drop_eq_getElem_cons h, addE]; simp [List.getD_eq_getElem?_getD, h]
theorem bit_one (x : Int) : andI .i64 x 1 = x % 2 := mask (k := 1) (by decide) x
end Api
namespace Leg
section
open Go
variable {P : Program} {n : Nat} {D : List Deferred} {L : List (Nat × Value)} {S : World → Prop} {o : Oper}
theorem ints_len {l : List Int} {n : Nat} (h : (Api.ints l).length = n) : l.length = n := by rwa [Api.ints_length] at h
theorem PV.neqAgg {t t' : TypeId} {x y : Operand} {a b : List Int} {m c : Nat} (hg : P.eqGuardType P.depth t = false) (hk : P.keyTypeAt m t = true) (hm : Nat.ble m 10000 = true) (hF : flatI P m t = some c) (ha : a.length = c) (hb : b.length = c)
 (hf : (Api.agI a).formed P t = true ∧ (Api.agI b).formed P t = true) (wa : WF a) (wb : WF b)
 (ho : o.op = .binOp .neq t x y t') (hx : evL L x = some (Api.agI a)) (hy : evL L y = some (Api.agI b)) : PV P n D L S o (.bool (decide (a ≠ b))) :=
 PV.bin ho hx hy fun w => by
  have hm' : m ≤ 10000 := Nat.le_of_ble_eq_true hm
  obtain ⟨r, hr, hi⟩ := run_equalIn_deep (10000 - m) m t hk w m m (Api.agI a) (Api.agI b) (litI a) (litI b) hf.1 hf.2 (by simpa [Api.agI, Value.cells] using keyLits_ints m t c hF a ha wa) (by simpa [Api.agI, Value.cells] using keyLits_ints m t c hF b hb wb)
  rw [show 10000 - m + m = 10000 by omega] at hr
  have e : r = decide (a = b) := by
   rw [Bool.eq_iff_iff, hi, decide_eq_true_iff]
   constructor
   · intro h
     have hj : Function.Injective (Lit.int IntKind.i64) := fun u v h => by injection h
     exact (List.map_inj_right fun u v h => hj h).1 h
   · rintro rfl; rfl
  subst e
  simp only [Api.agI] at hr ⊢
  rw [Sem.run_bind, run_eqGuard_agg w .neq t x y _ _ hg, Result.andThen_ok, run_neq_struct, hr]
  simp
theorem TE.retCT {w0 : World} {F : Hl} {H H' : List HP} {fn : Func} {post : Ending → List HP → Prop} {t t' ty e m b : Nat} {cs : List Value} {z : Nat × Nat} {dt : TypeDesc} {v' : Value} (hr : fn.results = #[.cell t ty, .tmp t']) (he : lk L t = some (.pointer (some ⟨b, 0, none⟩))) (e' : lk L t' = some v')
 (hu : P.underlying ty = some dt) (hp : plainT dt = false) (hm : (P.info? ty).map (·.size) = some m) (hR : Rd (Sat H F) b (.cells cs.toArray e z)) (hl : cs.length = m) (hk : ∀ h, sep H h → sep H' h)
 (h : post (.returned (.tuple #[.agg cs.toArray, v'])) H') : TE w0 F n (bodyPost P fn (postOf post w0 F)) .ret [] L H := fun a w f s q => by
 have h1 : a.tmps.getD t undef = .pointer (some ⟨b, 0, none⟩) := f.eval (x := .tmp t) he
 have h2 : a.tmps.getD t' undef = v' := f.eval (x := .tmp t') e'
 have h3 : (results fn a.tmps).run P w = .ok (.tuple #[.agg cs.toArray, v']) w := by
  have h1' : a.tmps[t]?.getD undef = .pointer (some ⟨b, 0, none⟩) := by simpa using h1
  have h2' : a.tmps[t']?.getD undef = v' := by simpa using h2
  simp [results, hr, h1', h2', asAddr, run_loadVar_row w b e ty cs.toArray z dt (hR w q) hu (by cases dt <;> simp [plainT] at hp ⊢) (by simp [hm, hl])]
 exact bodyPost_ret h3 f.2.1 ⟨s, H', q.mono hk, h⟩
end
end Leg
end

section
namespace Go.Proofs.YtohmkchalilodaaGreatDoor
open Go Leg Codec Api
theorem mixed : Tryz.prog.follows .mixedOrders = true := by kernel_rfl
abbrev giveUp : List PanicEntry := [{ v := .iface 218 (.agg #[]), recovered := false }]
theorem num_cells (rb b off cap : Nat) (bs : List UInt8) (cs : List Value) (T : TypeId) (z : Nat × Nat) (hcap : bs.length ≤ cap) (hm : cap ≤ 9223372036854775807) (hb : ∀ j, j < bs.length → cs[off + j]? = some (.int .u8 ((bs.getD j 0).toNat : Nat))) :
 Leg.Does Tryz.prog 136 #[(.pointer (some ⟨rb, 0, none⟩))] (fun F => F b = some (.cells cs.toArray T z)) [blkA rb [(.slice (some ⟨b, off, none⟩) (bs.length) (cap))] 216] (RetP (fun x H => ∃ n r v', x = .int .i64 ((n : Nat) : Int) ∧ H = [blkA rb [v'] 216] ∧ parse 0 0 bs = some (n, r) ∧ Tail (.slice (some ⟨b, off, none⟩) bs.length cap) bs v' r) (fun c H => c = giveUp ∧ H = [blkA rb [(.slice (some ⟨b, off, none⟩) bs.length cap)] 216] ∧ parse 0 0 bs = none)) := by
 refine Leg.Does.body (n := 48) Tryz.func136 rfl rfl rfl (fun w0 F hF => sr fun _ J1 => PS ?_)
 refine nx J1 (sr fun _ J2 => PS ?_)
 refine nx J2 (TC.seq fun _ J3 => sr fun _ J4 => PS ?_)
 refine PS ?_
 refine FA 0 Y216 sz47 ?_
 refine LA 0 Y47 ?_
 refine tp (PV.lenSl rfl Y47 rfl) ?_
 refine PS ?_
 refine nx J4 (TC.block ?_)
 refine TC.loop (α := (Nat) × (Nat)) (fun ⟨k, a⟩ => k ≤ bs.length ∧ k ≤ 9 ∧ a < 2 ^ (7 * k) ∧ parse 0 0 bs = parse k a (bs.drop k)) (fun ⟨k, a⟩ => [(0, (.pointer (some ⟨rb, 0, none⟩))), (3, (.int .i64 ((a : Nat)))), (9, (.slice (some ⟨b, off, none⟩) (bs.length) (cap))), (10, (.int .i64 (((bs.length : Nat) : Int)))), (11, (.int .i64 ((k : Nat))))]) (fun ⟨k, a⟩ => [blkA rb [(.slice (some ⟨b, off, none⟩) (bs.length) (cap))] 216]) (fun ⟨k, a⟩ => bs.length - k) (0, 0)
  ⟨by omega, by omega, by omega, rfl⟩ SB
  (fun _ s => s) (fun ⟨k, a⟩ hinv => ?_)
 obtain ⟨hk, hk9, ha, hp⟩ := hinv
 have hc : (bs.getD k 0).toNat < 256 := (bs.getD k 0).toNat_lt
 refine sr fun _ J5 => PS ?_
 refine TL.dec (fun h12 => ?_) (fun h12 => ?_)
 refine nx J5 (TC.seq fun _ J6 => CY (CX J6 (TC.seq fun _ J7 => TC.block (sr fun _ J8 => PS ?_))))
 refine tp (PV.indexSl (r := off + k) rfl Y47 sz5 rfl rfl (by first | omega | decide) (by first | omega | decide) (by omega)) ?_
 refine tp (PV.load1 (v := (.int .u8 (((bs.getD k 0).toNat : Nat)))) rfl Y5 rfl rfl (Rd.ro hF) (hb k (by omega))) ?_
 refine PS ?_
 refine PS ?_
 refine nx J8 (TC.seq fun _ J9 => sr fun _ J10 => PS ?_)
 refine PS ?_
 refine TL.dec (fun h17 => ?_) (fun h17 => ?_)
 refine nx J10 (CY (TC.exit (TE.pass (TE.miss (by decide) (TE.pass (TE.pass (TE.hit (TE.next J3 (TC.region (tp (PV.build (cells := #[]) rfl rfl (by as_aux_lemma => kernel_rfl)) ?_))))))))))
 refine tp (PV.mkIface rfl Y218 rfl rfl) ?_
 refine TL.panicOp (Want.plain rfl) rfl rfl (TE.panicked ?_)
 exact ⟨rfl, rfl, by rw [hp, drop_getD bs k (by omega)]; simp only [parse]; rw [if_pos (by omega)]⟩
 refine nx J10 (CN (CX J9 (sr fun _ J11 => PS ?_)))
 refine PS ?_
 refine tp (PV.and (r := (((bs.getD k 0).toNat % 128 : Nat) : Int)) rfl rfl rfl (and127 _ hc)) ?_
 refine tp (PV.convI rfl Y5 Y3 rfl (wrap_i64 (by omega) (by omega))) ?_
 refine PS ?_
 refine tp (PV.mul rfl rfl rfl (wrap_i64 (by omega) (by omega))) ?_
 refine tp (PV.shl (r := (((bs.getD k 0).toNat % 128 * 2 ^ (7 * k) : Nat) : Int)) rfl rfl rfl (by omega) (shl7 _ k (by omega) (by omega))) ?_
 refine tp (PV.or (r := ((a + (bs.getD k 0).toNat % 128 * 2 ^ (7 * k) : Nat) : Int)) rfl rfl rfl (or_add a _ k ha (by omega) (by omega))) ?_
 refine PS ?_
 refine nx J11 (TC.seq fun _ J12 => sr fun _ J13 => PS ?_)
 refine PS ?_
 refine TL.dec (fun h27 => ?_) (fun h27 => ?_)
 refine nx J13 (CY (TC.exit (TE.pass (TE.hit (TE.next J7 (TC.region (AD ?_)))))))
 refine PS ?_
 refine TL.nil ?_
 exact TE.round ((k + 1, a + (bs.getD k 0).toNat % 128 * 2 ^ (7 * k)) : (Nat) × (Nat)) ⟨by omega, by omega, grow7 a _ k ha (by omega), by rw [hp, drop_getD bs k (by omega)]; simp only [parse]; rw [if_neg (by omega), if_pos (by omega)]⟩ (by show _ - _ < _ - _; omega)
  SB
  (fun _ s => s)
 refine nx J13 (CN (CX J12 (TC.seq fun _ J14 => sr fun _ J15 => PS ?_)))
 refine PS ?_
 refine TL.dec (fun h29 => ?_) (fun h29 => ?_)
 iterate 3 refine PS ?_
 refine TL.dec (fun h32 => ?_) (fun h32 => ?_)
 refine PS ?_
 refine nx J15 (CY (TC.exit (TE.pass (TE.miss (by decide) (TE.pass (TE.pass (TE.hit (TE.next J3 (TC.region (tp (PV.build (cells := #[]) rfl rfl (by as_aux_lemma => kernel_rfl)) ?_))))))))))
 refine tp (PV.mkIface rfl Y218 rfl rfl) ?_
 refine TL.panicOp (Want.plain rfl) rfl rfl (TE.panicked ?_)
 exact ⟨rfl, rfl, by rw [hp, drop_getD bs k (by omega)]; simp only [parse]; rw [if_neg (by omega), if_neg (by omega), if_pos (by omega)]⟩
 refine PS ?_
 refine nx J15 (CN (CX J14 (sr fun _ J16 => ?_)))
 iterate 3 refine PS ?_
 refine FA 0 Y216 sz47 ?_
 refine LA 0 Y47 ?_
 refine PS ?_
 refine AD ?_
 refine tp (PV.sliceLo (k := k + 1) rfl Y47 sz5 rfl rfl (by omega) (by omega) rfl) ?_
 refine PS ?_
 refine FA 0 Y216 sz47 ?_
 refine S0 0 sz47 ?_
 refine nx J16 (sr fun _ J17 => PS ?_)
 refine PS ?_
 refine nx J17 (TC.ret (TE.blockRet (TE.passRet (TE.passRet (TE.blockRet (TE.passRet (TE.ret1 rfl rfl ?_)))))))
 exact ⟨_, _, _, rfl, rfl, by rw [hp, drop_getD bs k (by omega)]; simp only [parse]; rw [if_neg (by omega), if_neg (by omega), if_neg (by omega)], Tail.cut _ (by omega)⟩
 refine PS ?_
 refine UF ?_
 refine UF ?_
 refine PS ?_
 refine nx J15 (CN (CX J14 (sr fun _ J18 => ?_)))
 iterate 3 refine PS ?_
 refine FA 0 Y216 sz47 ?_
 refine LA 0 Y47 ?_
 refine PS ?_
 refine AD ?_
 refine tp (PV.sliceLo (k := k + 1) rfl Y47 sz5 rfl rfl (by omega) (by omega) rfl) ?_
 refine PS ?_
 refine FA 0 Y216 sz47 ?_
 refine S0 0 sz47 ?_
 refine nx J18 (sr fun _ J19 => PS ?_)
 refine PS ?_
 refine nx J19 (TC.ret (TE.blockRet (TE.passRet (TE.passRet (TE.blockRet (TE.passRet (TE.ret1 rfl rfl ?_)))))))
 exact ⟨_, _, _, rfl, rfl, by rw [hp, drop_getD bs k (by omega)]; simp only [parse]; rw [if_neg (by omega), if_neg (by omega), if_neg (by omega)], Tail.cut _ (by omega)⟩
 refine nx J5 (TC.seq fun _ J20 => CN (TC.exit (TE.pass (TE.pass (TE.hit (TE.next J3 (TC.region (tp (PV.build (cells := #[]) rfl rfl (by as_aux_lemma => kernel_rfl)) ?_))))))))
 refine tp (PV.mkIface rfl Y218 rfl rfl) ?_
 refine TL.panicOp (Want.plain rfl) rfl rfl (TE.panicked ?_)
 exact ⟨rfl, rfl, by rw [hp, List.drop_eq_nil_of_le (by omega)]; rfl⟩
theorem num_nil (rb : Nat) :
 Leg.Does Tryz.prog 136 #[(.pointer (some ⟨rb, 0, none⟩))] (fun _ => True) [blkA rb [(.slice none 0 0)] 216] (RetP (fun x H => ∃ n r v', x = .int .i64 ((n : Nat) : Int) ∧ H = [blkA rb [v'] 216] ∧ parse 0 0 [] = some (n, r) ∧ Tail (.slice none 0 0) [] v' r) (fun c H => c = giveUp ∧ H = [blkA rb [(.slice none 0 0)] 216] ∧ parse 0 0 [] = none)) := by
 refine Leg.Does.body (n := 48) Tryz.func136 rfl rfl rfl (fun w0 F hF => sr fun _ J1 => PS ?_)
 refine nx J1 (sr fun _ J2 => PS ?_)
 refine nx J2 (TC.seq fun _ J3 => sr fun _ J4 => PS ?_)
 refine PS ?_
 refine FA 0 Y216 sz47 ?_
 refine LA 0 Y47 ?_
 refine tp (PV.lenSl rfl Y47 rfl) ?_
 refine PS ?_
 refine nx J4 (TC.block ?_)
 refine TC.loop (α := Unit) (fun _u => True) (fun _u => [(0, (.pointer (some ⟨rb, 0, none⟩))), (3, (.int .i64 0)), (9, (.slice none 0 0)), (10, (.int .i64 0)), (11, (.int .i64 0))]) (fun _u => [blkA rb [(.slice none 0 0)] 216]) (fun _u => 0) ()
  trivial SB
  (fun _ s => s) (fun _u hinv => ?_)
 obtain _ := hinv
 refine sr fun _ J5 => PS ?_
 refine nx J5 (TC.seq fun _ J6 => CN (TC.exit (TE.pass (TE.pass (TE.hit (TE.next J3 (TC.region (tp (PV.build (cells := #[]) rfl rfl (by as_aux_lemma => kernel_rfl)) ?_))))))))
 refine tp (PV.mkIface rfl Y218 rfl rfl) ?_
 exact TL.panicOp (Want.plain rfl) rfl rfl (TE.panicked ⟨rfl, rfl, rfl⟩)
theorem num_does (rb : Nat) (v : Value) (bs : List UInt8) : Leg.Does Tryz.prog 136 #[(.pointer (some ⟨rb, 0, none⟩))] (IsB v bs) [blkA rb [v] 216] (RdPost 216 giveUp (fun n => .int .i64 n) numP v bs rb) := by
 have fin : ∀ e H, (RetP (fun x H => ∃ n r v', x = .int .i64 ((n : Nat) : Int) ∧ H = [blkA rb [v'] 216] ∧ parse 0 0 bs = some (n, r) ∧ Tail v bs v' r) (fun c H => c = giveUp ∧ H = [blkA rb [v] 216] ∧ parse 0 0 bs = none)) e H → RdPost 216 giveUp (fun n => .int .i64 n) numP v bs rb e H := by
  intro e H h
  cases e with
  | returned x => obtain ⟨n, r, v', h1, h2, h3, h4⟩ := h; exact ⟨_, r, v', h1, h2, numP_some h3, h4⟩
  | panicked c => obtain ⟨h1, h2, h3⟩ := h; exact ⟨_, h1, h2, numP_none h3⟩
  | outgrown => exact h
 refine Leg.Does.of fun F hF => ?_
 rcases id hF with ⟨rfl, rfl⟩ | ⟨b, off, cap, cs, T, z, rfl, h1, h2, h3, h4⟩
 · exact ⟨_, trivial, (num_nil rb).mono fin⟩
 · exact ⟨_, h3, (num_cells rb b off cap bs cs T z h1 h2 h4).mono fin⟩
theorem small_does (rb : Nat) (v : Value) (bs : List UInt8) (lim : Int) :
 Leg.Does Tryz.prog 134 #[(.pointer (some ⟨rb, 0, none⟩)), (.int .i64 (lim))] (IsB v bs) [blkA rb [v] 216] (RdPost 216 giveUp (fun n => .int .i64 n) (smallP lim) v bs rb) := by
 refine Leg.Does.body (n := 14) Tryz.func134 rfl rfl rfl (fun w0 F hF => sr fun _ J1 => PS ?_)
 refine nx J1 (sr fun _ J2 => PS ?_)
 refine TL.callP (Want.plain rfl) rfl rfl rfl nm136 rfl (num_does rb v bs ) (fun _ s => s) (fun _ d _ => (hF).more d) (fun cP HP hP => ?_) (fun vR HR hR => ?_)
 obtain ⟨vP, rfl, rfl, hpP⟩ := hP
 refine TE.passPanic (WK [0] (TE.panicked ?_))
 exact ⟨_, rfl, rfl, by simp [smallP, pb_none hpP]⟩
 obtain ⟨a1, r1, v1, rfl, rfl, hp1, ht1⟩ := hR
 have hf1 := ht1 _ hF
 refine PS ?_
 refine nx J2 (TC.seq fun _ J3 => sr fun _ J4 => ?_)
 iterate 3 refine PS ?_
 refine TL.dec (fun h10 => ?_) (fun h10 => ?_)
 refine nx J4 (CY (TC.region (tp (PV.build (cells := #[]) rfl rfl (by as_aux_lemma => kernel_rfl)) ?_)))
 refine tp (PV.mkIface rfl Y218 rfl rfl) ?_
 refine TL.panicOp (Want.plain rfl) rfl rfl (TE.passPanic (WK [0] (TE.panicked ?_)))
 exact ⟨_, rfl, rfl, by simp [smallP, pb_some hp1, h10, pf]⟩
 refine nx J4 (CN (CX J3 (sr fun _ J5 => PS ?_)))
 refine PS ?_
 refine nx J5 (TC.ret (WK [0] (TE.ret1 rfl rfl ?_)))
 exact ⟨_, _, _, rfl, rfl, by rw [smallP, pb_some hp1, if_neg h10]; rfl, ht1⟩
theorem rcell_does (rb : Nat) (v : Value) (bs : List UInt8) :
 Leg.Does Tryz.prog 162 #[(.pointer (some ⟨rb, 0, none⟩))] (IsB v bs) [blkA rb [v] 216] (RdPost 216 giveUp CellT.val cellP v bs rb) := by
 refine Leg.Does.body (n := 21) Tryz.func162 rfl rfl rfl (fun w0 F hF => sr fun _ J1 => XA z70 fun b2 => ?_)
 refine nx J1 (sr fun _ J2 => XA z70 fun b3 => ?_)
 refine nx J2 (sr fun _ J3 => PS ?_)
 refine TL.callP (Want.plain rfl) rfl rfl rfl nm134 rfl (small_does rb v bs (1099511627777)) (fun _ s => sep_selR [2] rfl s) (fun _ d _ => (hF).more d) (fun cP HP hP => ?_) (fun vR HR hR => ?_)
 obtain ⟨vP, rfl, rfl, hpP⟩ := hP
 refine TE.passPanic (WK [0] (TE.panicked ?_))
 exact ⟨_, rfl, rfl, by simp [cellP, pr, pb_none hpP]⟩
 obtain ⟨a1, r1, v1, rfl, rfl, hp1, ht1⟩ := hR
 have hf1 := ht1 _ hF
 refine FA 0 Y70 sz3 ?_
 refine S0 1 sz3 ?_
 refine nx J3 (sr fun _ J4 => PS ?_)
 refine TL.callP (Want.plain rfl) rfl rfl rfl nm134 rfl (small_does rb v1 r1 (1099511627777)) (fun _ s => s) (fun _ d _ => (hf1).more d) (fun cP HP hP => ?_) (fun vR HR hR => ?_)
 obtain ⟨vP, rfl, rfl, hpP⟩ := hP
 refine TE.passPanic (WK [0] (TE.panicked ?_))
 exact ⟨_, rfl, rfl, by simp [cellP, pr, pb_some hp1, pb_none hpP]⟩
 obtain ⟨a2, r2, v2, rfl, rfl, hp2, ht2⟩ := hR
 have hf2 := ht2 _ hf1
 refine FA 1 Y70 sz3 ?_
 refine S0 1 sz3 ?_
 refine nx J4 (TC.seq fun _ J5 => sr fun _ J6 => PS ?_)
 refine nx J6 (TC.block (TC.unroll 5 (sr fun _ J7 => PS ?_)))
 refine nx J7 (TC.seq fun _ J8 => CY (CX J8 (TC.seq fun _ J9 => TC.block (sr fun _ J10 => PS ?_))))
 refine PS ?_
 refine nx J10 (TC.region (PS ?_))
 refine PS ?_
 refine TL.callP (Want.plain rfl) rfl rfl rfl nm134 rfl (small_does rb v2 r2 (1099511627777)) (fun _ s => s) (fun _ d _ => (hf2).more d) (fun cP HP hP => ?_) (fun vR HR hR => ?_)
 obtain ⟨vP, rfl, rfl, hpP⟩ := hP
 refine TE.blockPanic (TE.passPanic (TE.passPanic (TE.blockPanic (TE.passPanic (WK [0] (TE.panicked ?_))))))
 exact ⟨_, rfl, rfl, by simp [cellP, pr, pb_some hp1, pb_some hp2, pb_none hpP]⟩
 obtain ⟨a3, r3, v3, rfl, rfl, hp3, ht3⟩ := hR
 have hf3 := ht3 _ hf2
 refine FA 2 Y70 sz68 ?_
 refine tp (PV.indexArr (r := 2) rfl Y68 sz3 rfl rfl (lz rfl) (lz rfl) rfl) ?_
 refine S0 1 sz3 ?_
 refine TL.nil (TE.blockEnd (TE.next J9 (TC.region (tp (PV.add (r := 1) rfl rfl rfl (by decide)) ?_))))
 refine PS ?_
 refine TL.nil (TE.again (sr fun _ J11 => PS ?_))
 refine nx J11 (TC.seq fun _ J12 => CY (CX J12 (TC.seq fun _ J13 => TC.block (sr fun _ J14 => PS ?_))))
 refine PS ?_
 refine nx J14 (TC.region (PS ?_))
 refine PS ?_
 refine TL.callP (Want.plain rfl) rfl rfl rfl nm134 rfl (small_does rb v3 r3 (1099511627777)) (fun _ s => s) (fun _ d _ => (hf3).more d) (fun cP HP hP => ?_) (fun vR HR hR => ?_)
 obtain ⟨vP, rfl, rfl, hpP⟩ := hP
 refine TE.blockPanic (TE.passPanic (TE.passPanic (TE.blockPanic (TE.passPanic (WK [0] (TE.panicked ?_))))))
 exact ⟨_, rfl, rfl, by simp [cellP, pr, pb_some hp1, pb_some hp2, pb_some hp3, pb_none hpP]⟩
 obtain ⟨a4, r4, v4, rfl, rfl, hp4, ht4⟩ := hR
 have hf4 := ht4 _ hf3
 refine FA 2 Y70 sz68 ?_
 refine tp (PV.indexArr (r := 3) rfl Y68 sz3 rfl rfl (lz rfl) (lz rfl) rfl) ?_
 refine S0 1 sz3 ?_
 refine TL.nil (TE.blockEnd (TE.next J13 (TC.region (tp (PV.add (r := 2) rfl rfl rfl (by decide)) ?_))))
 refine PS ?_
 refine TL.nil (TE.again (sr fun _ J15 => PS ?_))
 refine nx J15 (TC.seq fun _ J16 => CY (CX J16 (TC.seq fun _ J17 => TC.block (sr fun _ J18 => PS ?_))))
 refine PS ?_
 refine nx J18 (TC.region (PS ?_))
 refine PS ?_
 refine TL.callP (Want.plain rfl) rfl rfl rfl nm134 rfl (small_does rb v4 r4 (1099511627777)) (fun _ s => s) (fun _ d _ => (hf4).more d) (fun cP HP hP => ?_) (fun vR HR hR => ?_)
 obtain ⟨vP, rfl, rfl, hpP⟩ := hP
 refine TE.blockPanic (TE.passPanic (TE.passPanic (TE.blockPanic (TE.passPanic (WK [0] (TE.panicked ?_))))))
 exact ⟨_, rfl, rfl, by simp [cellP, pr, pb_some hp1, pb_some hp2, pb_some hp3, pb_some hp4, pb_none hpP]⟩
 obtain ⟨a5, r5, v5, rfl, rfl, hp5, ht5⟩ := hR
 have hf5 := ht5 _ hf4
 refine FA 2 Y70 sz68 ?_
 refine tp (PV.indexArr (r := 4) rfl Y68 sz3 rfl rfl (lz rfl) (lz rfl) rfl) ?_
 refine S0 1 sz3 ?_
 refine TL.nil (TE.blockEnd (TE.next J17 (TC.region (tp (PV.add (r := 3) rfl rfl rfl (by decide)) ?_))))
 refine PS ?_
 refine TL.nil (TE.again (sr fun _ J19 => PS ?_))
 refine nx J19 (TC.seq fun _ J20 => CY (CX J20 (TC.seq fun _ J21 => TC.block (sr fun _ J22 => PS ?_))))
 refine PS ?_
 refine nx J22 (TC.region (PS ?_))
 refine PS ?_
 refine TL.callP (Want.plain rfl) rfl rfl rfl nm134 rfl (small_does rb v5 r5 (1099511627777)) (fun _ s => s) (fun _ d _ => (hf5).more d) (fun cP HP hP => ?_) (fun vR HR hR => ?_)
 obtain ⟨vP, rfl, rfl, hpP⟩ := hP
 refine TE.blockPanic (TE.passPanic (TE.passPanic (TE.blockPanic (TE.passPanic (WK [0] (TE.panicked ?_))))))
 exact ⟨_, rfl, rfl, by simp [cellP, pr, pb_some hp1, pb_some hp2, pb_some hp3, pb_some hp4, pb_some hp5, pb_none hpP]⟩
 obtain ⟨a6, r6, v6, rfl, rfl, hp6, ht6⟩ := hR
 have hf6 := ht6 _ hf5
 refine FA 2 Y70 sz68 ?_
 refine tp (PV.indexArr (r := 5) rfl Y68 sz3 rfl rfl (lz rfl) (lz rfl) rfl) ?_
 refine S0 1 sz3 ?_
 refine TL.nil (TE.blockEnd (TE.next J21 (TC.region (tp (PV.add (r := 4) rfl rfl rfl (by decide)) ?_))))
 refine PS ?_
 refine TL.nil (TE.again (sr fun _ J23 => PS ?_))
 refine nx J23 (TC.seq fun _ J24 => CY (CX J24 (TC.seq fun _ J25 => TC.block (sr fun _ J26 => PS ?_))))
 refine PS ?_
 refine nx J26 (TC.region (PS ?_))
 refine PS ?_
 refine TL.callP (Want.plain rfl) rfl rfl rfl nm134 rfl (small_does rb v6 r6 (1099511627777)) (fun _ s => s) (fun _ d _ => (hf6).more d) (fun cP HP hP => ?_) (fun vR HR hR => ?_)
 obtain ⟨vP, rfl, rfl, hpP⟩ := hP
 refine TE.blockPanic (TE.passPanic (TE.passPanic (TE.blockPanic (TE.passPanic (WK [0] (TE.panicked ?_))))))
 exact ⟨_, rfl, rfl, by simp [cellP, pr, pb_some hp1, pb_some hp2, pb_some hp3, pb_some hp4, pb_some hp5, pb_some hp6, pb_none hpP]⟩
 obtain ⟨a7, r7, v7, rfl, rfl, hp7, ht7⟩ := hR
 have hf7 := ht7 _ hf6
 refine FA 2 Y70 sz68 ?_
 refine tp (PV.indexArr (r := 6) rfl Y68 sz3 rfl rfl (lz rfl) (lz rfl) rfl) ?_
 refine S0 1 sz3 ?_
 refine TL.nil (TE.blockEnd (TE.next J25 (TC.region (tp (PV.add (r := 5) rfl rfl rfl (by decide)) ?_))))
 refine PS ?_
 refine TL.nil (TE.again (sr fun _ J27 => PS ?_))
 refine nx J27 (TC.seq fun _ J28 => CN (TC.exit (TE.pass (TE.pass (TE.hit (TE.next J5 (sr fun _ J29 => tp (PV.loadN (vs := [(.int .i64 (a1)), (.int .i64 (a2)), (.int .i64 (a3)), (.int .i64 (a4)), (.int .i64 (a5)), (.int .i64 (a6)), (.int .i64 (a7))]) rfl Y70 rfl sz70 rfl (RO 1) rfl rfl) ?_)))))))
 refine TL.store (vs := [(.int .i64 (a1)), (.int .i64 (a2)), (.int .i64 (a3)), (.int .i64 (a4)), (.int .i64 (a5)), (.int .i64 (a6)), (.int .i64 (a7))]) (i := 2) (Want.plain rfl) rfl rfl rfl rfl rfl sz70 (by simp [Value.oneCell']) rfl rfl (lbe rfl) rfl rfl (nx J29 (TC.ret (TE.retC (H' := [blkA rb [v7] 216]) rfl rfl Y70 rfl sz70 (RO 2) rfl (fun _ s => sep_keep [0] rfl s) ?_)))
 exact ⟨⟨a1, a2, #v[a3, a4, a5, a6, a7]⟩, _, _, rfl, rfl, by simp [cellP, pr, pb_some hp1, pb_some hp2, pb_some hp3, pb_some hp4, pb_some hp5, pb_some hp6, pb_some hp7], (ht1.trans (ht2.trans (ht3.trans (ht4.trans (ht5.trans (ht6.trans ht7))))))⟩
theorem rview_does (rb : Nat) (v : Value) (bs : List UInt8) :
 Leg.Does Tryz.prog 139 #[(.pointer (some ⟨rb, 0, none⟩))] (IsB v bs) [blkA rb [v] 216] (RdPost 216 giveUp ViewT.val viewP v bs rb) := by
 refine Leg.Does.body (n := 21) Tryz.func139 rfl rfl rfl (fun w0 F hF => sr fun _ J1 => XA z85 fun b2 => ?_)
 refine nx J1 (sr fun _ J2 => XA z85 fun b3 => ?_)
 refine nx J2 (sr fun _ J3 => PS ?_)
 refine TL.callP (Want.plain rfl) rfl rfl rfl nm136 rfl (num_does rb v bs ) (fun _ s => sep_selR [2] rfl s) (fun _ d _ => (hF).more d) (fun cP HP hP => ?_) (fun vR HR hR => ?_)
 obtain ⟨vP, rfl, rfl, hpP⟩ := hP
 refine TE.passPanic (WK [0] (TE.panicked ?_))
 exact ⟨_, rfl, rfl, by simp [viewP, pr, pb_none hpP]⟩
 obtain ⟨a1, r1, v1, rfl, rfl, hp1, ht1⟩ := hR
 have hf1 := ht1 _ hF
 refine FA 0 Y85 sz3 ?_
 refine S0 1 sz3 ?_
 refine nx J3 (sr fun _ J4 => PS ?_)
 refine TL.callP (Want.plain rfl) rfl rfl rfl nm134 rfl (small_does rb v1 r1 (32)) (fun _ s => s) (fun _ d _ => (hf1).more d) (fun cP HP hP => ?_) (fun vR HR hR => ?_)
 obtain ⟨vP, rfl, rfl, hpP⟩ := hP
 refine TE.passPanic (WK [0] (TE.panicked ?_))
 exact ⟨_, rfl, rfl, by simp [viewP, pr, pb_some hp1, pb_none hpP]⟩
 obtain ⟨a2, r2, v2, rfl, rfl, hp2, ht2⟩ := hR
 have hf2 := ht2 _ hf1
 refine FA 1 Y85 sz3 ?_
 refine S0 1 sz3 ?_
 refine nx J4 (TC.seq fun _ J5 => sr fun _ J6 => PS ?_)
 refine nx J6 (TC.block (TC.unroll 5 (sr fun _ J7 => PS ?_)))
 refine nx J7 (TC.seq fun _ J8 => CY (CX J8 (TC.seq fun _ J9 => TC.block (sr fun _ J10 => PS ?_))))
 refine PS ?_
 refine nx J10 (TC.region (PS ?_))
 refine PS ?_
 refine TL.callP (Want.plain rfl) rfl rfl rfl nm134 rfl (small_does rb v2 r2 (6)) (fun _ s => s) (fun _ d _ => (hf2).more d) (fun cP HP hP => ?_) (fun vR HR hR => ?_)
 obtain ⟨vP, rfl, rfl, hpP⟩ := hP
 refine TE.blockPanic (TE.passPanic (TE.passPanic (TE.blockPanic (TE.passPanic (WK [0] (TE.panicked ?_))))))
 exact ⟨_, rfl, rfl, by simp [viewP, pr, pb_some hp1, pb_some hp2, pb_none hpP]⟩
 obtain ⟨a3, r3, v3, rfl, rfl, hp3, ht3⟩ := hR
 have hf3 := ht3 _ hf2
 refine FA 2 Y85 sz68 ?_
 refine tp (PV.indexArr (r := 2) rfl Y68 sz3 rfl rfl (lz rfl) (lz rfl) rfl) ?_
 refine S0 1 sz3 ?_
 refine TL.nil (TE.blockEnd (TE.next J9 (TC.region (tp (PV.add (r := 1) rfl rfl rfl (by decide)) ?_))))
 refine PS ?_
 refine TL.nil (TE.again (sr fun _ J11 => PS ?_))
 refine nx J11 (TC.seq fun _ J12 => CY (CX J12 (TC.seq fun _ J13 => TC.block (sr fun _ J14 => PS ?_))))
 refine PS ?_
 refine nx J14 (TC.region (PS ?_))
 refine PS ?_
 refine TL.callP (Want.plain rfl) rfl rfl rfl nm134 rfl (small_does rb v3 r3 (6)) (fun _ s => s) (fun _ d _ => (hf3).more d) (fun cP HP hP => ?_) (fun vR HR hR => ?_)
 obtain ⟨vP, rfl, rfl, hpP⟩ := hP
 refine TE.blockPanic (TE.passPanic (TE.passPanic (TE.blockPanic (TE.passPanic (WK [0] (TE.panicked ?_))))))
 exact ⟨_, rfl, rfl, by simp [viewP, pr, pb_some hp1, pb_some hp2, pb_some hp3, pb_none hpP]⟩
 obtain ⟨a4, r4, v4, rfl, rfl, hp4, ht4⟩ := hR
 have hf4 := ht4 _ hf3
 refine FA 2 Y85 sz68 ?_
 refine tp (PV.indexArr (r := 3) rfl Y68 sz3 rfl rfl (lz rfl) (lz rfl) rfl) ?_
 refine S0 1 sz3 ?_
 refine TL.nil (TE.blockEnd (TE.next J13 (TC.region (tp (PV.add (r := 2) rfl rfl rfl (by decide)) ?_))))
 refine PS ?_
 refine TL.nil (TE.again (sr fun _ J15 => PS ?_))
 refine nx J15 (TC.seq fun _ J16 => CY (CX J16 (TC.seq fun _ J17 => TC.block (sr fun _ J18 => PS ?_))))
 refine PS ?_
 refine nx J18 (TC.region (PS ?_))
 refine PS ?_
 refine TL.callP (Want.plain rfl) rfl rfl rfl nm134 rfl (small_does rb v4 r4 (6)) (fun _ s => s) (fun _ d _ => (hf4).more d) (fun cP HP hP => ?_) (fun vR HR hR => ?_)
 obtain ⟨vP, rfl, rfl, hpP⟩ := hP
 refine TE.blockPanic (TE.passPanic (TE.passPanic (TE.blockPanic (TE.passPanic (WK [0] (TE.panicked ?_))))))
 exact ⟨_, rfl, rfl, by simp [viewP, pr, pb_some hp1, pb_some hp2, pb_some hp3, pb_some hp4, pb_none hpP]⟩
 obtain ⟨a5, r5, v5, rfl, rfl, hp5, ht5⟩ := hR
 have hf5 := ht5 _ hf4
 refine FA 2 Y85 sz68 ?_
 refine tp (PV.indexArr (r := 4) rfl Y68 sz3 rfl rfl (lz rfl) (lz rfl) rfl) ?_
 refine S0 1 sz3 ?_
 refine TL.nil (TE.blockEnd (TE.next J17 (TC.region (tp (PV.add (r := 3) rfl rfl rfl (by decide)) ?_))))
 refine PS ?_
 refine TL.nil (TE.again (sr fun _ J19 => PS ?_))
 refine nx J19 (TC.seq fun _ J20 => CY (CX J20 (TC.seq fun _ J21 => TC.block (sr fun _ J22 => PS ?_))))
 refine PS ?_
 refine nx J22 (TC.region (PS ?_))
 refine PS ?_
 refine TL.callP (Want.plain rfl) rfl rfl rfl nm134 rfl (small_does rb v5 r5 (6)) (fun _ s => s) (fun _ d _ => (hf5).more d) (fun cP HP hP => ?_) (fun vR HR hR => ?_)
 obtain ⟨vP, rfl, rfl, hpP⟩ := hP
 refine TE.blockPanic (TE.passPanic (TE.passPanic (TE.blockPanic (TE.passPanic (WK [0] (TE.panicked ?_))))))
 exact ⟨_, rfl, rfl, by simp [viewP, pr, pb_some hp1, pb_some hp2, pb_some hp3, pb_some hp4, pb_some hp5, pb_none hpP]⟩
 obtain ⟨a6, r6, v6, rfl, rfl, hp6, ht6⟩ := hR
 have hf6 := ht6 _ hf5
 refine FA 2 Y85 sz68 ?_
 refine tp (PV.indexArr (r := 5) rfl Y68 sz3 rfl rfl (lz rfl) (lz rfl) rfl) ?_
 refine S0 1 sz3 ?_
 refine TL.nil (TE.blockEnd (TE.next J21 (TC.region (tp (PV.add (r := 4) rfl rfl rfl (by decide)) ?_))))
 refine PS ?_
 refine TL.nil (TE.again (sr fun _ J23 => PS ?_))
 refine nx J23 (TC.seq fun _ J24 => CY (CX J24 (TC.seq fun _ J25 => TC.block (sr fun _ J26 => PS ?_))))
 refine PS ?_
 refine nx J26 (TC.region (PS ?_))
 refine PS ?_
 refine TL.callP (Want.plain rfl) rfl rfl rfl nm134 rfl (small_does rb v6 r6 (6)) (fun _ s => s) (fun _ d _ => (hf6).more d) (fun cP HP hP => ?_) (fun vR HR hR => ?_)
 obtain ⟨vP, rfl, rfl, hpP⟩ := hP
 refine TE.blockPanic (TE.passPanic (TE.passPanic (TE.blockPanic (TE.passPanic (WK [0] (TE.panicked ?_))))))
 exact ⟨_, rfl, rfl, by simp [viewP, pr, pb_some hp1, pb_some hp2, pb_some hp3, pb_some hp4, pb_some hp5, pb_some hp6, pb_none hpP]⟩
 obtain ⟨a7, r7, v7, rfl, rfl, hp7, ht7⟩ := hR
 have hf7 := ht7 _ hf6
 refine FA 2 Y85 sz68 ?_
 refine tp (PV.indexArr (r := 6) rfl Y68 sz3 rfl rfl (lz rfl) (lz rfl) rfl) ?_
 refine S0 1 sz3 ?_
 refine TL.nil (TE.blockEnd (TE.next J25 (TC.region (tp (PV.add (r := 5) rfl rfl rfl (by decide)) ?_))))
 refine PS ?_
 refine TL.nil (TE.again (sr fun _ J27 => PS ?_))
 refine nx J27 (TC.seq fun _ J28 => CN (TC.exit (TE.pass (TE.pass (TE.hit (TE.next J5 (sr fun _ J29 => tp (PV.loadN (vs := [(.int .i64 (a1)), (.int .i64 (a2)), (.int .i64 (a3)), (.int .i64 (a4)), (.int .i64 (a5)), (.int .i64 (a6)), (.int .i64 (a7))]) rfl Y85 rfl sz85 rfl (RO 1) rfl rfl) ?_)))))))
 refine TL.store (vs := [(.int .i64 (a1)), (.int .i64 (a2)), (.int .i64 (a3)), (.int .i64 (a4)), (.int .i64 (a5)), (.int .i64 (a6)), (.int .i64 (a7))]) (i := 2) (Want.plain rfl) rfl rfl rfl rfl rfl sz85 (by simp [Value.oneCell']) rfl rfl (lbe rfl) rfl rfl (nx J29 (TC.ret (TE.retC (H' := [blkA rb [v7] 216]) rfl rfl Y85 rfl sz85 (RO 2) rfl (fun _ s => sep_keep [0] rfl s) ?_)))
 exact ⟨⟨a1, a2, #v[a3, a4, a5, a6, a7]⟩, _, _, rfl, rfl, by simp [viewP, pr, pb_some hp1, pb_some hp2, pb_some hp3, pb_some hp4, pb_some hp5, pb_some hp6, pb_some hp7], (ht1.trans (ht2.trans (ht3.trans (ht4.trans (ht5.trans (ht6.trans ht7))))))⟩
theorem rchange_does (rb : Nat) (v : Value) (bs : List UInt8) :
 Leg.Does Tryz.prog 138 #[(.pointer (some ⟨rb, 0, none⟩))] (IsB v bs) [blkA rb [v] 216] (RdPost 216 giveUp ChangeT.val changeP v bs rb) := by
 refine Leg.Does.body (n := 14) Tryz.func138 rfl rfl rfl (fun w0 F hF => sr fun _ J1 => XA z28 fun b2 => ?_)
 refine nx J1 (sr fun _ J2 => XA z28 fun b3 => ?_)
 refine nx J2 (sr fun _ J3 => PS ?_)
 refine TL.callP (Want.plain rfl) rfl rfl rfl nm134 rfl (small_does rb v bs (2)) (fun _ s => sep_selR [2] rfl s) (fun _ d _ => (hF).more d) (fun cP HP hP => ?_) (fun vR HR hR => ?_)
 obtain ⟨vP, rfl, rfl, hpP⟩ := hP
 refine TE.passPanic (WK [0] (TE.panicked ?_))
 exact ⟨_, rfl, rfl, by simp [changeP, pr, pb_none hpP]⟩
 obtain ⟨a1, r1, v1, rfl, rfl, hp1, ht1⟩ := hR
 have hf1 := ht1 _ hF
 refine FA 0 Y28 sz3 ?_
 refine S0 1 sz3 ?_
 refine nx J3 (sr fun _ J4 => PS ?_)
 refine TL.callP (Want.plain rfl) rfl rfl rfl nm134 rfl (small_does rb v1 r1 (5)) (fun _ s => s) (fun _ d _ => (hf1).more d) (fun cP HP hP => ?_) (fun vR HR hR => ?_)
 obtain ⟨vP, rfl, rfl, hpP⟩ := hP
 refine TE.passPanic (WK [0] (TE.panicked ?_))
 exact ⟨_, rfl, rfl, by simp [changeP, pr, pb_some hp1, pb_none hpP]⟩
 obtain ⟨a2, r2, v2, rfl, rfl, hp2, ht2⟩ := hR
 have hf2 := ht2 _ hf1
 refine FA 1 Y28 sz3 ?_
 refine S0 1 sz3 ?_
 refine nx J4 (sr fun _ J5 => PS ?_)
 refine TL.callP (Want.plain rfl) rfl rfl rfl nm134 rfl (small_does rb v2 r2 (5)) (fun _ s => s) (fun _ d _ => (hf2).more d) (fun cP HP hP => ?_) (fun vR HR hR => ?_)
 obtain ⟨vP, rfl, rfl, hpP⟩ := hP
 refine TE.passPanic (WK [0] (TE.panicked ?_))
 exact ⟨_, rfl, rfl, by simp [changeP, pr, pb_some hp1, pb_some hp2, pb_none hpP]⟩
 obtain ⟨a3, r3, v3, rfl, rfl, hp3, ht3⟩ := hR
 have hf3 := ht3 _ hf2
 refine FA 2 Y28 sz3 ?_
 refine S0 1 sz3 ?_
 refine nx J5 (sr fun _ J6 => tp (PV.loadN (vs := [(.int .i64 (a1)), (.int .i64 (a2)), (.int .i64 (a3))]) rfl Y28 rfl sz28 rfl (RO 1) rfl rfl) ?_)
 refine TL.store (vs := [(.int .i64 (a1)), (.int .i64 (a2)), (.int .i64 (a3))]) (i := 2) (Want.plain rfl) rfl rfl rfl rfl rfl sz28 (by simp [Value.oneCell']) rfl rfl (lbe rfl) rfl rfl (nx J6 (TC.ret (TE.retC (H' := [blkA rb [v3] 216]) rfl rfl Y28 rfl sz28 (RO 2) rfl (fun _ s => sep_keep [0] rfl s) ?_)))
 exact ⟨⟨a1, a2, a3⟩, _, _, rfl, rfl, by simp [changeP, pr, pb_some hp1, pb_some hp2, pb_some hp3], (ht1.trans (ht2.trans ht3))⟩
theorem rballot_does (rb : Nat) (v : Value) (bs : List UInt8) :
 Leg.Does Tryz.prog 137 #[(.pointer (some ⟨rb, 0, none⟩))] (IsB v bs) [blkA rb [v] 216] (RdPost 216 giveUp BallotT.val ballotP v bs rb) := by
 refine Leg.Does.body (n := 11) Tryz.func137 rfl rfl rfl (fun w0 F hF => sr fun _ J1 => XA z90 fun b2 => ?_)
 refine nx J1 (sr fun _ J2 => XA z90 fun b3 => ?_)
 refine nx J2 (sr fun _ J3 => PS ?_)
 refine TL.callP (Want.plain rfl) rfl rfl rfl nm136 rfl (num_does rb v bs ) (fun _ s => sep_selR [2] rfl s) (fun _ d _ => (hF).more d) (fun cP HP hP => ?_) (fun vR HR hR => ?_)
 obtain ⟨vP, rfl, rfl, hpP⟩ := hP
 refine TE.passPanic (WK [0] (TE.panicked ?_))
 exact ⟨_, rfl, rfl, by simp [ballotP, pr, pb_none hpP]⟩
 obtain ⟨a1, r1, v1, rfl, rfl, hp1, ht1⟩ := hR
 have hf1 := ht1 _ hF
 refine FA 0 Y90 sz3 ?_
 refine S0 1 sz3 ?_
 refine nx J3 (sr fun _ J4 => PS ?_)
 refine TL.callP (Want.plain rfl) rfl rfl rfl nm134 rfl (small_does rb v1 r1 (5)) (fun _ s => s) (fun _ d _ => (hf1).more d) (fun cP HP hP => ?_) (fun vR HR hR => ?_)
 obtain ⟨vP, rfl, rfl, hpP⟩ := hP
 refine TE.passPanic (WK [0] (TE.panicked ?_))
 exact ⟨_, rfl, rfl, by simp [ballotP, pr, pb_some hp1, pb_none hpP]⟩
 obtain ⟨a2, r2, v2, rfl, rfl, hp2, ht2⟩ := hR
 have hf2 := ht2 _ hf1
 refine FA 1 Y90 sz3 ?_
 refine S0 1 sz3 ?_
 refine nx J4 (sr fun _ J5 => tp (PV.loadN (vs := [(.int .i64 (a1)), (.int .i64 (a2))]) rfl Y90 rfl sz90 rfl (RO 1) rfl rfl) ?_)
 refine TL.store (vs := [(.int .i64 (a1)), (.int .i64 (a2))]) (i := 2) (Want.plain rfl) rfl rfl rfl rfl rfl sz90 (by simp [Value.oneCell']) rfl rfl (lbe rfl) rfl rfl (nx J5 (TC.ret (TE.retC (H' := [blkA rb [v2] 216]) rfl rfl Y90 rfl sz90 (RO 2) rfl (fun _ s => sep_keep [0] rfl s) ?_)))
 exact ⟨⟨a1, a2⟩, _, _, rfl, rfl, by simp [ballotP, pr, pb_some hp1, pb_some hp2], (ht1.trans ht2)⟩
theorem rrow_does (rb : Nat) (v : Value) (bs : List UInt8) :
 Leg.Does Tryz.prog 135 #[(.pointer (some ⟨rb, 0, none⟩))] (IsB v bs) [blkA rb [v] 216] (RdPost 216 giveUp RowT.val rowP v bs rb) := by
 refine Leg.Does.body (n := 45) Tryz.func135 rfl rfl rfl (fun w0 F hF => sr fun _ J1 => XA z74 fun b2 => ?_)
 change TL _ _ _ _ _ _ _ _ _ [blkA b2 (Api.ints Api.RowT.zero.flat) 74, blkA rb [v] 216]
 refine nx J1 (sr fun _ J2 => XA z74 fun b3 => ?_)
 change TL _ _ _ _ _ _ _ _ _ [blkA b3 (Api.ints Api.RowT.zero.flat) 74, blkA b2 (Api.ints Api.RowT.zero.flat) 74, blkA rb [v] 216]
 refine nx J2 (sr fun _ J3 => PS ?_)
 refine TL.callP (Want.plain rfl) rfl rfl rfl nm136 rfl (num_does rb v bs ) (fun _ s => sep_selR [2] rfl s) (fun _ d _ => (hF).more d) (fun cP HP hP => ?_) (fun vR HR hR => ?_)
 obtain ⟨vP, rfl, rfl, hpP⟩ := hP
 refine TE.passPanic (WK [0] (TE.panicked ?_))
 exact ⟨_, rfl, rfl, by rw [rowP, pb_none hpP]⟩
 obtain ⟨a1, r1, v1, rfl, rfl, hp1, ht1⟩ := hR
 have hf1 := ht1 _ hF
 refine FA 0 Y74 sz3 ?_
 refine TL.store (vs := [.int .i64 a1]) (i := 1) (Want.plain rfl) rfl rfl rfl rfl rfl sz3 (ints_one [a1]) rfl rfl (by rw [RowT.len]; show _ + 1 ≤ 174; omega) (RowT.wr_version _ _) rfl (nx J3 (TC.seq fun _ J4 => sr fun _ J5 => PS ?_))
 refine nx J5 (TC.block ?_)
 refine TC.loop (α := (Nat) × (RowT) × (Value) × (List UInt8)) (fun ⟨k, x, u, r⟩ => k ≤ 4 ∧ IsB u r F ∧ Tail v bs u r ∧ rowP bs = pb (cellsP (4 - k) k x) (heirsP 5 0) r) (fun ⟨k, x, u, r⟩ => [(0, (.pointer (some ⟨rb, 0, none⟩))), (2, (.pointer (some ⟨b2, 0, none⟩))), (3, (.pointer (some ⟨b3, 0, none⟩))), (10, (.int .i64 ((k : Nat))))]) (fun ⟨k, x, u, r⟩ => [blkA b3 (ints (x).flat) 74, blkA b2 (Api.ints Api.RowT.zero.flat) 74, blkA rb [u] 216]) (fun ⟨k, x, u, r⟩ => 4 - k) (0, ({ Api.RowT.zero with version := a1 } : RowT), v1, r1)
  ⟨by omega, hf1, ht1, by rw [rowP, pb_some hp1]⟩ SB
  (fun _ s => sep_keep [1, 1, 0] rfl s) (fun ⟨k, x, u, r⟩ hinv => ?_)
 obtain ⟨hk, hf, htl, hp⟩ := hinv
 refine sr fun _ J6 => PS ?_
 refine TL.dec (fun h11 => ?_) (fun h11 => ?_)
 refine nx J6 (TC.seq fun _ J7 => CY (CX J7 (TC.seq fun _ J8 => TC.block (sr fun _ J9 => PS ?_))))
 refine PS ?_
 refine nx J9 (TC.region (PS ?_))
 refine PS ?_
 refine TL.callP (Want.plain rfl) rfl rfl rfl nm162 rfl (rcell_does rb u r ) (fun _ s => sep_selR [2] rfl s) (fun _ d _ => (hf).more d) (fun cP HP hP => ?_) (fun vR HR hR => ?_)
 obtain ⟨vP, rfl, rfl, hpP⟩ := hP
 refine TE.blockPanic (TE.passPanic (TE.passPanic (TE.blockPanic (TE.passPanic (WK [0] (TE.panicked ?_))))))
 exact ⟨_, rfl, rfl, by rw [hp, cellsP_stop (by omega) hpP]⟩
 obtain ⟨a2, r2, v2, rfl, rfl, hp2, ht2⟩ := hR
 have hf2 := ht2 _ hf
 refine FA 1 Y74 sz71 ?_
 refine tp (PV.indexArr (r := 1 + k * 7) rfl Y71 sz70 rfl rfl (by omega) (by omega) (by omega)) ?_
 refine TL.store (vs := ints a2.flat) (i := 1) (Want.plain rfl) rfl rfl rfl rfl rfl (by rw [CellT.len]; exact sz70) (ints_one _) rfl rfl (by rw [RowT.len, CellT.len]; omega) (RowT.wr_cell _ k (by omega) _) rfl (TL.nil (TE.blockEnd (TE.next J8 (TC.region (AD ?_)))))
 refine PS ?_
 refine TL.nil ?_
 exact TE.round ((k + 1, ({ x with cells := (x).cells.set k a2 (by omega) } : RowT), v2, r2) : (Nat) × (RowT) × (Value) × (List UInt8)) ⟨by omega, hf2, (htl.trans ht2), by rw [hp, cellsP_step (by omega) hp2]⟩ (by show _ - _ < _ - _; omega)
  SB
  (fun _ s => sep_keep [1, 1, 0] rfl s)
 refine nx J6 (TC.seq fun _ J10 => CN (TC.exit (TE.pass (TE.pass (TE.hit (TE.next J4 (TC.seq fun _ J11 => sr fun _ J12 => PS ?_)))))))
 refine nx J12 (TC.block ?_)
 refine TC.loop (α := (Nat) × (RowT) × (Value) × (List UInt8)) (fun ⟨i, x, u, r⟩ => i ≤ 5 ∧ IsB u r F ∧ Tail v bs u r ∧ rowP bs = heirsP (5 - i) i x r) (fun ⟨i, x, u, r⟩ => [(0, (.pointer (some ⟨rb, 0, none⟩))), (2, (.pointer (some ⟨b2, 0, none⟩))), (3, (.pointer (some ⟨b3, 0, none⟩))), (19, (.int .i64 ((i : Nat))))]) (fun ⟨i, x, u, r⟩ => [blkA b3 (ints (x).flat) 74, blkA b2 (Api.ints Api.RowT.zero.flat) 74, blkA rb [u] 216]) (fun ⟨i, x, u, r⟩ => 5 - i) (0, x, u, r)
  ⟨by omega, hf, htl, by rw [hp, cellsP_end (by omega)]⟩ SB
  (fun _ s => sep_keep [0, 0, 0] rfl s) (fun ⟨i, x, u, r⟩ hinv => ?_)
 obtain ⟨hi, hf, htl, hp⟩ := hinv
 refine sr fun _ J13 => PS ?_
 refine TL.dec (fun h20 => ?_) (fun h20 => ?_)
 refine nx J13 (TC.seq fun _ J14 => CY (CX J14 (TC.seq fun _ J15 => TC.block (sr fun _ J16 => PS ?_))))
 refine PS ?_
 refine nx J16 (sr fun _ J17 => PS ?_)
 refine PS ?_
 refine TL.callP (Want.plain rfl) rfl rfl rfl nm136 rfl (num_does rb u r ) (fun _ s => sep_selR [2] rfl s) (fun _ d _ => (hf).more d) (fun cP HP hP => ?_) (fun vR HR hR => ?_)
 obtain ⟨vP, rfl, rfl, hpP⟩ := hP
 refine TE.passPanic (TE.blockPanic (TE.passPanic (TE.passPanic (TE.blockPanic (TE.passPanic (WK [0] (TE.panicked ?_)))))))
 exact ⟨_, rfl, rfl, by rw [hp, heirsP_stop (by omega) hpP]⟩
 obtain ⟨a2, r2, v2, rfl, rfl, hp2, ht2⟩ := hR
 have hf2 := ht2 _ hf
 refine FA 29 Y74 sz68 ?_
 refine tp (PV.indexArr (r := 29 + i) rfl Y68 sz3 rfl rfl (by omega) (by omega) (by omega)) ?_
 refine TL.store (vs := [.int .i64 a2]) (i := 1) (Want.plain rfl) rfl rfl rfl rfl rfl sz3 (ints_one [a2]) rfl rfl (by rw [RowT.len]; show _ + 1 ≤ 174; omega) (RowT.wr_heir _ i (by omega) _) rfl (nx J17 (sr fun _ J18 => PS ?_))
 refine FA 29 Y74 sz68 ?_
 refine tp (PV.indexArr (r := 29 + i) rfl Y68 sz3 rfl rfl (by omega) (by omega) (by omega)) ?_
 refine tp (PV.load1 (v := (.int .i64 (a2))) rfl Y3 rfl rfl (RO 1) (by rw [RowT.get_heir _ i (by omega)]; simp)) ?_
 refine PS ?_
 refine TL.dec (fun h31 => ?_) (fun h31 => ?_)
 refine nx J18 (CY (sr fun _ J19 => PS ?_))
 refine nx J19 (TC.block ?_)
 refine TC.loop (α := (Nat) × (RowT) × (Value) × (List UInt8)) (fun ⟨k, y, uL, rL⟩ => k ≤ 4 ∧ IsB uL rL F ∧ Tail v bs uL rL ∧ rowP bs = pb (leftP (4 - k) i k y) (heirsP (5 - (i + 1)) (i + 1)) rL) (fun ⟨k, y, uL, rL⟩ => [(0, (.pointer (some ⟨rb, 0, none⟩))), (2, (.pointer (some ⟨b2, 0, none⟩))), (3, (.pointer (some ⟨b3, 0, none⟩))), (5, (.int .i64 ((i : Nat)))), (19, (.int .i64 ((i : Nat)))), (32, (.int .i64 ((k : Nat))))]) (fun ⟨k, y, uL, rL⟩ => [blkA b3 (ints (y).flat) 74, blkA b2 (Api.ints Api.RowT.zero.flat) 74, blkA rb [uL] 216]) (fun ⟨k, y, uL, rL⟩ => 4 - k) (0, ({ x with heir := (x).heir.set i a2 } : RowT), v2, r2)
  ⟨by omega, hf2, (htl.trans ht2), by rw [hp, heirsP_yes (by omega) hp2 h31]⟩ SB
  (fun _ s => sep_keep [1, 1, 0] rfl s) (fun ⟨k, y, uL, rL⟩ hinv => ?_)
 obtain ⟨hk, hfL, htlL, hpL⟩ := hinv
 refine sr fun _ J20 => PS ?_
 refine TL.dec (fun h33 => ?_) (fun h33 => ?_)
 refine nx J20 (TC.seq fun _ J21 => CY (CX J21 (TC.seq fun _ J22 => TC.block (sr fun _ J23 => PS ?_))))
 refine PS ?_
 refine nx J23 (D0 mixed ?_)
 refine PD 0 ?_
 refine PD 1 ?_
 refine PD 2 ?_
 refine FD 4 34 Y74 sz72 ?_
 refine ta 5 rfl (PV.indexArr (r := 34 + i * 28) rfl Y72 sz71 rfl rfl (by omega) (by omega) (by omega)) ?_
 refine AL 3 ?_
 refine TL.callP (Want.plain rfl) rfl rfl rfl nm162 rfl (rcell_does rb uL rL ) (fun _ s => sep_selR [2] rfl s) (fun _ d _ => (hfL).more d) (fun cP HP hP => ?_) (fun vR HR hR => ?_)
 obtain ⟨vP, rfl, rfl, hpP⟩ := hP
 refine TE.passPanic (TE.blockPanic (TE.passPanic (TE.passPanic (TE.blockPanic (TE.blockPanic (TE.passPanic (TE.passPanic (TE.blockPanic (TE.passPanic (WK [0] (TE.panicked ?_)))))))))))
 exact ⟨_, rfl, rfl, by rw [hpL, leftP_stop (by omega) hpP]⟩
 obtain ⟨a3, r3, v3, rfl, rfl, hp3, ht3⟩ := hR
 have hf3 := ht3 _ hfL
 refine TL.nil (E0 (ta 6 rfl (PV.indexArr (r := 34 + i * 28 + k * 7) rfl Y71 sz70 rfl rfl (by omega) (by omega) (by omega)) ?_))
 refine AL 7 ?_
 refine TL.store (vs := ints a3.flat) (i := 1) (Want.plain rfl) rfl rfl rfl rfl rfl (by rw [CellT.len]; exact sz70) (ints_one _) rfl rfl (by rw [RowT.len, CellT.len]; omega) (RowT.wr_left _ i k (by omega) (by omega) _) rfl (TL.nil (E0 (DN (TE.blockEnd (TE.next J22 (TC.region (AD ?_)))))))
 refine PS ?_
 refine TL.nil ?_
 exact TE.round ((k + 1, ({ y with left := (y).left.set i (((y).left[i]'(by omega)).set k a3 (by omega)) (by omega) } : RowT), v3, r3) : (Nat) × (RowT) × (Value) × (List UInt8)) ⟨by omega, hf3, (htlL.trans ht3), by rw [hpL, leftP_step (by omega) (by omega) hp3]⟩ (by show _ - _ < _ - _; omega)
  SB
  (fun _ s => sep_keep [1, 1, 0] rfl s)
 refine nx J20 (TC.seq fun _ J24 => CN (TC.exit (TE.pass (TE.pass (TE.hit (TE.blockEnd (TE.next J15 (TC.region (AD ?_)))))))))
 refine PS ?_
 refine TL.nil ?_
 exact TE.round ((i + 1, y, uL, rL) : (Nat) × (RowT) × (Value) × (List UInt8)) ⟨by omega, hfL, htlL, by rw [hpL, leftP_end (by omega)]⟩ (by show _ - _ < _ - _; omega)
  SB
  (fun _ s => sep_keep [0, 0, 0] rfl s)
 refine nx J18 (CN (TC.skip (TE.blockEnd (TE.next J15 (TC.region (AD ?_))))))
 refine PS ?_
 refine TL.nil ?_
 exact TE.round ((i + 1, ({ x with heir := (x).heir.set i a2 } : RowT), v2, r2) : (Nat) × (RowT) × (Value) × (List UInt8)) ⟨by omega, hf2, (htl.trans ht2), by rw [hp, heirsP_no (by omega) hp2 h31]⟩ (by show _ - _ < _ - _; omega)
  SB
  (fun _ s => sep_keep [1, 1, 0] rfl s)
 refine nx J13 (TC.seq fun _ J25 => CN (TC.exit (TE.pass (TE.pass (TE.hit (TE.next J11 (sr fun _ J26 => tp (PV.loadN (vs := ints (x).flat) rfl Y74 rfl sz74 rfl (RO 0) (RowT.len _) (by rw [List.drop_zero, List.take_of_length_le (by rw [RowT.len]; decide)])) ?_)))))))
 refine TL.store (vs := ints (x).flat) (i := 1) (Want.plain rfl) rfl rfl rfl rfl rfl (by rw [RowT.len]; exact sz74) (ints_one _) rfl rfl (by rw [RowT.len, Nat.zero_add, RowT.len]; decide) (wr_whole (by rw [RowT.len, RowT.len])) rfl (nx J26 (TC.ret (TE.retC (H' := [blkA rb [u] 216]) rfl rfl Y74 rfl sz74 (RO 1) (RowT.len _) (fun _ s => sep_keep [2] rfl s) ?_)))
 exact ⟨x, _, _, rfl, rfl, by rw [hp, heirsP_end (by omega)], htl⟩
end Go.Proofs.YtohmkchalilodaaGreatDoor
end

section
namespace Go.Proofs.YtohmkchalilodaaGreatDoor
open Go Leg Codec Api
theorem numRight_does (n : Int) :
 Leg.Does Tryz.prog 158 #[(.int .i64 (n))] (fun _ => True) [] (Ret (fun r' H => r' = .bool (okN n) ∧ H = [])) := by
 refine Leg.Does.body (n := 9) Tryz.func158 rfl rfl rfl (fun w0 F hF => sr fun _ J1 => PS ?_)
 refine nx J1 (sr fun _ J2 => PS ?_)
 refine PS ?_
 refine TL.dec (fun h4 => ?_) (fun h4 => ?_)
 iterate 5 refine PS ?_
 refine nx J2 (TC.ret (TE.ret1 rfl rfl ?_))
 exact ⟨congrArg Value.bool (by unfold okN; first | (rw [decide_eq_decide]; omega) | (symm; rw [decide_eq_false_iff_not]; omega) | (symm; rw [decide_eq_true_iff]; omega)), rfl⟩
 refine PS ?_
 refine UF ?_
 refine UF ?_
 refine PS ?_
 refine PS ?_
 refine nx J2 (TC.ret (TE.ret1 rfl rfl ?_))
 exact ⟨congrArg Value.bool (by unfold okN; first | (rw [decide_eq_decide]; omega) | (symm; rw [decide_eq_false_iff_not]; omega) | (symm; rw [decide_eq_true_iff]; omega)), rfl⟩
theorem vmachine_does (w : Int) :
 Leg.Does Tryz.prog 94 #[(.int .i64 (w))] (fun _ => True) [] (Ret (fun r' H => r' = .bool (machB w) ∧ H = [])) := by
 refine Leg.Does.body (n := 9) Tryz.func94 rfl rfl rfl (fun w0 F hF => sr fun _ J1 => PS ?_)
 refine nx J1 (sr fun _ J2 => PS ?_)
 refine PS ?_
 refine TL.dec (fun h4 => ?_) (fun h4 => ?_)
 iterate 5 refine PS ?_
 refine nx J2 (TC.ret (TE.ret1 rfl rfl ?_))
 exact ⟨congrArg Value.bool (by unfold machB; first | (rw [decide_eq_decide]; omega) | (symm; rw [decide_eq_false_iff_not]; omega) | (symm; rw [decide_eq_true_iff]; omega)), rfl⟩
 refine PS ?_
 refine UF ?_
 refine UF ?_
 refine PS ?_
 refine PS ?_
 refine nx J2 (TC.ret (TE.ret1 rfl rfl ?_))
 exact ⟨congrArg Value.bool (by unfold machB; first | (rw [decide_eq_decide]; omega) | (symm; rw [decide_eq_false_iff_not]; omega) | (symm; rw [decide_eq_true_iff]; omega)), rfl⟩
theorem member_does (v : ViewT) (w : Int) :
 Leg.Does Tryz.prog 50 #[(.agg (ints v.flat).toArray), (.int .i64 (w))] (fun _ => True) [] (Ret (fun r' H => r' = .bool (memb v w) ∧ H = [])) := by
 refine Leg.Does.body (n := 15) Tryz.func50 rfl rfl rfl (fun w0 F hF => sr fun _ J1 => XB fun b2 => ?_)
 change TL _ _ _ _ _ _ _ _ _ [blkA b2 (ints v.flat) 85]
 refine PS ?_
 refine nx J1 (sr fun _ J2 => PS ?_)
 refine CE nm94 (vmachine_does w) (fun _ s => s) ?_
 refine TL.decB (fun h6 => ?_) (fun h6 => ?_)
 have hm : 0 ≤ w ∧ w < 5 := of_decide_eq_true h6
 refine PS ?_
 refine FA 1 Y85 sz3 ?_
 refine tq (PV.load1 (v := (.int .i64 (v.members))) rfl Y3 rfl rfl (RO 0) (ViewT.at_members v rfl)) ?_
 refine PS ?_
 refine tq (PV.shr (r := (v.members.fdiv (2 ^ min w.toNat IntKind.i64.bits))) rfl rfl rfl (by omega) rfl) ?_
 refine tq (PV.and (r := ((v.members.fdiv (2 ^ min w.toNat IntKind.i64.bits)) % 2)) rfl rfl rfl (bit_one _)) ?_
 iterate 3 refine PS ?_
 refine nx J2 (TC.ret (WK [] (TE.ret1 rfl rfl ?_)))
 exact ⟨congrArg Value.bool (by rw [memb, h6]; rfl), rfl⟩
 refine PS ?_
 iterate 6 refine UF ?_
 refine PS ?_
 refine PS ?_
 refine nx J2 (TC.ret (WK [] (TE.ret1 rfl rfl ?_)))
 exact ⟨congrArg Value.bool (by rw [memb, h6]; rfl), rfl⟩
theorem numAdd_cells (b off cap : Nat) (l : List Int) (hl : l.length ≤ 1000) (cs : List Value) (T : TypeId) (z : Nat × Nat) (hb : ∀ j, j < l.length → cs[off + j]? = some (.int .i64 (l.getD j 0))) :
 Leg.Does Tryz.prog 159 #[(.slice (some ⟨b, off, none⟩) (l.length) (cap))] (fun F => F b = some (.cells cs.toArray T z)) [] (Ret (fun r' H => r' = .tuple #[.int .i64 (addE l 0).1, .int .i64 (addE l 0).2] ∧ H = [])) := by
 refine Leg.Does.body (n := 25) Tryz.func159 rfl rfl rfl (fun w0 F hF => sr fun _ J1 => PS ?_)
 refine PS ?_
 refine nx J1 (sr fun _ J2 => PS ?_)
 refine nx J2 (TC.seq fun _ J3 => sr fun _ J4 => PS ?_)
 refine tp (PV.lenSl rfl Y155 rfl) ?_
 refine PS ?_
 refine nx J4 (TC.block ?_)
 refine TC.loop (α := (Nat) × (Int)) (fun ⟨k, s⟩ => k ≤ l.length ∧ 0 ≤ s ∧ s ≤ 1099511627776 ∧ addE l 0 = addE (l.drop k) s) (fun ⟨k, s⟩ => [(4, (.int .i64 (s))), (7, (.slice (some ⟨b, off, none⟩) (l.length) (cap))), (8, (.int .i64 (((l.length : Nat) : Int)))), (9, (.int .i64 (((k : Nat) : Int))))]) (fun ⟨k, s⟩ => []) (fun ⟨k, s⟩ => l.length - k) (0, 0)
  ⟨Nat.zero_le _, by omega, by omega, rfl⟩ SB
  (fun _ s => s) (fun ⟨k, s⟩ hinv => ?_)
 obtain ⟨hk, hs0, hs1, he⟩ := hinv
 refine sr fun _ J5 => PS ?_
 refine TL.dec (fun h10 => ?_) (fun h10 => ?_)
 refine nx J5 (TC.seq fun _ J6 => CY (CX J6 (TC.seq fun _ J7 => TC.block (sr fun _ J8 => tp (PV.indexSl (r := off + k) rfl Y155 sz3 rfl rfl (by first | omega | decide) (by first | omega | decide) (by omega)) ?_))))
 refine tp (PV.load1 (v := (.int .i64 ((l.getD k 0)))) rfl Y3 rfl rfl (Rd.ro hF) (hb k (by omega))) ?_
 refine PS ?_
 refine nx J8 (TC.seq fun _ J9 => sr fun _ J10 => PS ?_)
 refine CE nm158 (numRight_does (l.getD k 0)) (fun _ s => s) ?_
 refine TL.decB (fun h14 => ?_) (fun h14 => ?_)
 have hn : 0 ≤ l.getD k 0 ∧ l.getD k 0 ≤ 1099511627776 := of_decide_eq_true h14
 refine tp (PV.not (r := false) rfl rfl rfl) ?_
 refine nx J10 (CN (CX J9 (TC.seq fun _ J11 => sr fun _ J12 => PS ?_)))
 refine PS ?_
 refine tp (PV.sub rfl rfl rfl (wrap_i64 (by omega) (by omega))) ?_
 refine PS ?_
 refine TL.dec (fun h19 => ?_) (fun h19 => ?_)
 refine nx J12 (CY (sr fun _ J13 => PS ?_))
 refine PS ?_
 refine nx J13 (TC.ret (TE.passRet (TE.blockRet (TE.passRet (TE.passRet (TE.blockRet (TE.passRet (WK [] (TE.ret2 rfl rfl rfl ?_)))))))))
 exact ⟨by rw [he, add_step (show k < l.length by omega), if_pos h14, if_pos (by omega)], rfl⟩
 refine nx J12 (CN (CX J11 (TC.region (PS ?_))))
 refine PS ?_
 refine AD ?_
 refine PS ?_
 refine TL.nil (TE.blockEnd (TE.next J7 (TC.region (AD ?_))))
 refine PS ?_
 refine TL.nil ?_
 exact TE.round ((k + 1, s + l.getD k 0) : (Nat) × (Int)) ⟨by omega, by omega, by omega, by rw [he, add_step (show k < l.length by omega), if_pos h14, if_neg (by omega)]⟩ (by show l.length - (k + 1) < l.length - k; omega)
  SB
  (fun _ s => s)
 refine tp (PV.not (r := true) rfl rfl rfl) ?_
 refine nx J10 (CY (sr fun _ J14 => PS ?_))
 refine PS ?_
 refine nx J14 (TC.ret (TE.passRet (TE.blockRet (TE.passRet (TE.passRet (TE.blockRet (TE.passRet (WK [] (TE.ret2 rfl rfl rfl ?_)))))))))
 exact ⟨by rw [he, add_step (show k < l.length by omega), if_neg (by rw [h14]; decide)], rfl⟩
 refine nx J5 (TC.seq fun _ J15 => CN (TC.exit (TE.pass (TE.pass (TE.hit (TE.next J3 (sr fun _ J16 => ?_)))))))
 iterate 3 refine PS ?_
 refine nx J16 (TC.ret (WK [] (TE.ret2 rfl rfl rfl ?_)))
 exact ⟨by rw [he, List.drop_eq_nil_of_le (by omega)]; rfl, rfl⟩
theorem numAdd_nil  :
 Leg.Does Tryz.prog 159 #[(.slice none 0 0)] (fun _ => True) [] (Ret (fun r' H => r' = .tuple #[.int .i64 (addE [] 0).1, .int .i64 (addE [] 0).2] ∧ H = [])) := by
 refine Leg.Does.body (n := 25) Tryz.func159 rfl rfl rfl (fun w0 F hF => sr fun _ J1 => PS ?_)
 refine PS ?_
 refine nx J1 (sr fun _ J2 => PS ?_)
 refine nx J2 (TC.seq fun _ J3 => sr fun _ J4 => PS ?_)
 refine tp (PV.lenSl rfl Y155 rfl) ?_
 refine PS ?_
 refine nx J4 (TC.block ?_)
 refine TC.loop (α := Unit) (fun _u => True) (fun _u => [(4, (.int .i64 0)), (7, (.slice none 0 0)), (8, (.int .i64 0)), (9, (.int .i64 0))]) (fun _u => []) (fun _u => 0) ()
  trivial SB
  (fun _ s => s) (fun _u hinv => ?_)
 obtain _ := hinv
 refine sr fun _ J5 => PS ?_
 refine nx J5 (TC.seq fun _ J6 => CN (TC.exit (TE.pass (TE.pass (TE.hit (TE.next J3 (sr fun _ J7 => ?_)))))))
 iterate 3 refine PS ?_
 exact nx J7 (TC.ret (WK [] (TE.ret2 rfl rfl rfl ⟨rfl, rfl⟩)))
theorem numAdd_does (x : Value) (l : List Int) (hl : l.length ≤ 1000) : Leg.Does Tryz.prog 159 #[x] (IsN x l) [] (Ret (fun r' H => r' = .tuple #[.int .i64 (addE l 0).1, .int .i64 (addE l 0).2] ∧ H = [])) := by
 refine Leg.Does.of fun F hF => ?_
 rcases id hF with ⟨rfl, rfl⟩ | ⟨b, off, cap, cs, T, z, rfl, h3, h4⟩
 · exact ⟨_, trivial, numAdd_nil⟩
 · exact ⟨_, h3, numAdd_cells b off cap l hl cs T z h4⟩
theorem rightCells_does (x : Vector CellT 4) :
    Leg.Does Tryz.prog 123 #[(.agg (ints (flats x.toList)).toArray)] (fun _ => True) [] (Ret (fun r' H => r' = .bool (okCs x) ∧ H = [])) := by
 refine Leg.Does.body (n := 30) Tryz.func123 rfl rfl rfl (fun w0 F hF => sr fun _ J1 => XB fun b1 => ?_)
 change TL _ _ _ _ _ _ _ _ _ [blkA b1 (ints (flats x.toList)) 71]
 refine PS ?_
 refine nx J1 ?_
 clear J1
 refine TC.seq fun _ J2 => sr fun _ J3 => tp (PV.loadN (vs := ints (flats x.toList)) rfl Y71 rfl sz71 rfl (RO 0) (vs4_len x) (whole (vs4_len x))) ?_
 refine PS ?_
 refine nx J3 ?_
 clear J3
 refine TC.block ?_
 refine TC.loop (α := (Nat)) (fun k => k ≤ 4 ∧ ∀ (j : Nat) (h : j < 4), j < k → okC x[j] = true) (fun k => [(7, (.agg (ints (flats x.toList)).toArray)), (8, (.int .i64 (((k : Nat) : Int))))]) (fun k => [blkA b1 (ints (flats x.toList)) 71]) (fun k => 4 - k) 0
     ⟨Nat.zero_le _, fun j h hj => absurd hj (by omega)⟩ SB
     (fun _ s => s) (fun k hinv => ?_)
 obtain ⟨hk, ho⟩ := hinv
 refine sr fun _ J4 => PS ?_
 refine TL.dec (fun h9 => ?_) (fun h9 => ?_)
 refine nx J4 ?_
 clear J4
 refine TC.seq fun _ J5 => CY (CX J5 ?_)
 clear J5
 refine TC.seq fun _ J6 => TC.block (sr fun _ J7 => tp (PV.indexN (cs := ints (flats x.toList)) (vs := ints (x[k]'(by omega)).flat) (r := k * 7) rfl Y71 Y70 rfl sz70 rfl rfl (by omega) (by omega) (by omega) (vs_sub CellT.flat_length x (i := k) 0 (by omega) (by omega) (by decide) (whole (CellT.len (x[k]'(by omega)))))) ?_)
 refine XA z70 fun b4 => ?_
 change TL _ _ _ _ _ _ _ _ _ [blkA b4 (ints CellT.zero.flat) 70, blkA b1 (ints (flats x.toList)) 71]
 refine TL.store (vs := ints (x[k]'(by omega)).flat) (i := 0) (Want.plain rfl) rfl rfl rfl rfl rfl (by rw [(CellT.len (x[k]'(by omega)))]; exact sz70) (ints_one _) rfl rfl (LC (CellT.len _) (CellT.len _)) (wwhole ((CellT.len CellT.zero).trans (CellT.len (x[k]'(by omega))).symm)) rfl (nx J7 ?_)
 clear J7
 refine TC.seq fun _ J8 => sr fun _ J9 => FA 0 Y70 sz3 ?_
 refine tp (PV.load1 (v := (.int .i64 ((x[k]'(by omega)).inn))) rfl Y3 rfl rfl (RO 0) (CellT.at_inn _ rfl)) ?_
 refine CE nm158 (numRight_does ((x[k]'(by omega)).inn)) (fun _ s => s) ?_
 refine TL.decB (fun h13 => ?_) (fun h13 => ?_)
 refine tp (PV.not (r := false) rfl rfl rfl) ?_
 refine PS ?_
 refine FA 1 Y70 sz3 ?_
 refine tq (PV.load1 (v := (.int .i64 ((x[k]'(by omega)).out))) rfl Y3 rfl rfl (RO 0) (CellT.at_out _ rfl)) ?_
 refine CE nm158 (numRight_does ((x[k]'(by omega)).out)) (fun _ s => s) ?_
 refine TL.decB (fun h18 => ?_) (fun h18 => ?_)
 refine tq (PV.not (r := false) rfl rfl rfl) ?_
 refine PS ?_
 refine nx J9 ?_
 clear J9
 refine CN (CX J8 ?_)
 clear J8
 refine sr fun _ J10 => FA 2 Y70 sz68 ?_
 refine tp (PV.sliceArr rfl Y68 sz3 rfl) ?_
 refine CF nm159 (numAdd_does (.slice (some ⟨b4, 2, none⟩) (5) (5)) ((x[k]'(by omega)).given).toList (by simp)) (fun _ s => s) (isN_piece 0 rfl rfl (by simp) (by rw [Vector.length_toList]; exact (CellT.sub_given (x[k]'(by omega)) 0 rfl (by decide) (whole (vi5_len ((x[k]'(by omega)).given)))))) ?_
 refine PS ?_
 refine tp (PV.extract (vs := [(.int .i64 ((addE ((x[k]'(by omega)).given).toList 0).1)), (.int .i64 ((addE ((x[k]'(by omega)).given).toList 0).2))]) rfl rfl rfl) ?_
 refine tp (PV.extract (vs := [(.int .i64 ((addE ((x[k]'(by omega)).given).toList 0).1)), (.int .i64 ((addE ((x[k]'(by omega)).given).toList 0).2))]) rfl rfl rfl) ?_
 refine PS ?_
 refine PS ?_
 refine nx J10 ?_
 clear J10
 refine sr fun _ J11 => PS ?_
 refine PS ?_
 refine TL.dec (fun h28 => ?_) (fun h28 => ?_)
 refine nx J11 ?_
 clear J11
 refine CY (sr fun _ J12 => PS ?_)
 refine nx J12 ?_
 clear J12
 refine TC.ret (TE.blockRet (TE.passRet ?_))
 clear J6
 refine TE.passRet (TE.blockRet (TE.passRet ?_))
 clear J2
 refine WK [] (TE.ret1 rfl rfl ⟨congrArg Value.bool ?_, rfl⟩)
 symm
 rw [okCs, decide_eq_false_iff_not]
 intro h
 have h := h k (by omega)
 unfold okC at h
 simp at h; exact absurd h.2 h28
 refine nx J11 ?_
 clear J11
 refine CN (TC.skip (TE.blockEnd (TE.next J6 ?_)))
 clear J6
 refine TC.region (AD ?_)
 refine PS ?_
 refine TL.nil ?_
 exact TE.round ((k + 1) : (Nat)) ⟨by omega, fun j h hj => by
        by_cases q : j = k
        · subst q; unfold okC; simp_all
        · exact ho j h (by omega)⟩ (by show 4 - (k + 1) < 4 - k; omega)
   SB
   (fun _ s => sep_keep [1] rfl s)
 refine tq (PV.not (r := true) rfl rfl rfl) ?_
 refine PS ?_
 refine nx J9 ?_
 clear J9
 refine CY (sr fun _ J13 => PS ?_)
 refine nx J13 ?_
 clear J13
 refine TC.ret (TE.passRet ?_)
 clear J8
 refine TE.blockRet (TE.passRet ?_)
 clear J6
 refine TE.passRet (TE.blockRet (TE.passRet ?_))
 clear J2
 refine WK [] (TE.ret1 rfl rfl ⟨congrArg Value.bool ?_, rfl⟩)
 symm
 rw [okCs, decide_eq_false_iff_not]
 intro h
 have h := h k (by omega)
 unfold okC at h
 simp [h18] at h
 refine tp (PV.not (r := true) rfl rfl rfl) ?_
 refine PS ?_
 iterate 4 refine UT ?_
 refine PS ?_
 refine nx J9 ?_
 clear J9
 refine CY (sr fun _ J14 => PS ?_)
 refine nx J14 ?_
 clear J14
 refine TC.ret (TE.passRet ?_)
 clear J8
 refine TE.blockRet (TE.passRet ?_)
 clear J6
 refine TE.passRet (TE.blockRet (TE.passRet ?_))
 clear J2
 refine WK [] (TE.ret1 rfl rfl ⟨congrArg Value.bool ?_, rfl⟩)
 symm
 rw [okCs, decide_eq_false_iff_not]
 intro h
 have h := h k (by omega)
 unfold okC at h
 simp [h13] at h
 refine nx J4 ?_
 clear J4
 refine TC.seq fun _ J15 => CN (TC.exit (TE.pass ?_))
 clear J15
 refine TE.pass (TE.hit (TE.next J2 ?_))
 clear J2
 refine sr fun _ J16 => PS ?_
 refine nx J16 ?_
 clear J16
 refine TC.ret (WK [] (TE.ret1 rfl rfl ?_))
 exact ⟨congrArg Value.bool (by symm; rw [okCs, decide_eq_true_iff]; exact fun j h => ho j h (by omega)), rfl⟩
theorem sg71 : Tryz.prog.eqGuardType Tryz.prog.depth 71 = false := by kernel_rfl
theorem sk71 : Tryz.prog.keyTypeAt 6 71 = true := by kernel_rfl
theorem fI71 : flatI Tryz.prog 6 71 = some 28 := by kernel_rfl
theorem fC71 : (match Tryz.prog.underlying 71 with | some (.struct _) | some (.array _ _) => true | _ => false) = true := by kernel_rfl
theorem cC71 : Tryz.prog.cellsOf 71 = 28 := by kernel_rfl
theorem wf_left {x : RowT} (h : WF x.flat) (i : Nat) (hi : i < 5) : WF (flats x.left[i].toList) := fun n hn => h n (by
 simp only [RowT.flat, List.mem_cons, List.mem_append, List.mem_flatMap]
 exact .inr (.inr (.inr ⟨x.left[i], by simp [Vector.getElem_mem], hn⟩)))
theorem wf_zl : WF (flats RowT.zero.left[0].toList) := fun n hn => by
 have : n ∈ List.replicate 28 (0 : Int) := hn
 obtain rfl := List.eq_of_mem_replicate this
 decide
theorem rowRight_does (x : RowT) (hw : WF x.flat) :
    Leg.Does Tryz.prog 78 #[(.agg (ints x.flat).toArray)] (fun _ => True) [] (Ret (fun r' H => r' = .bool (rightR x) ∧ H = [])) := by
 refine Leg.Does.body (n := 41) Tryz.func78 rfl rfl rfl (fun w0 F hF => sr fun _ J1 => XB fun b1 => ?_)
 change TL _ _ _ _ _ _ _ _ _ [blkA b1 (ints x.flat) 74]
 refine PS ?_
 refine nx J1 (TC.seq fun _ J2 => sr fun _ J3 => FA 0 Y74 sz3 ?_)
 refine tp (PV.load1 (v := (.int .i64 (x.version))) rfl Y3 rfl rfl (RO 0) (RowT.at_version x rfl)) ?_
 refine PS ?_
 refine TL.dec (fun h7 => ?_) (fun h7 => ?_)
 refine PS ?_
 iterate 4 refine UT ?_
 refine PS ?_
 refine nx J3 (CY (sr fun _ J4 => PS ?_))
 refine nx J4 (TC.ret (TE.passRet (WK [] (TE.ret1 rfl rfl ⟨congrArg Value.bool ?_, rfl⟩))))
 symm
 rw [rightR, Bool.eq_false_iff]
 intro h
 rw [Bool.and_eq_true, Bool.and_eq_true, decide_eq_true_iff, decide_eq_true_iff] at h
 omega
 refine PS ?_
 refine FA 1 Y74 sz71 ?_
 refine tq (PV.loadN (vs := ints (flats x.cells.toList)) rfl Y71 rfl sz71 rfl (RO 0) (vs4_len x.cells) (RowT.sub_cells x 0 rfl (by decide) (whole (vs4_len x.cells)))) ?_
 refine CE nm123 (rightCells_does x.cells) (fun _ s => s) ?_
 refine TL.decB (fun h11 => ?_) (fun h11 => ?_)
 refine tq (PV.not (r := false) rfl rfl rfl) ?_
 refine PS ?_
 refine nx J3 (CN (CX J2 (TC.seq fun _ J5 => sr fun _ J6 => FA 29 Y74 sz68 ?_)))
 refine tp (PV.loadN (vs := ints x.heir.toList) rfl Y68 rfl sz68 rfl (RO 0) (vi5_len x.heir) (RowT.sub_heir x 0 rfl (by decide) (whole (vi5_len x.heir)))) ?_
 refine PS ?_
 refine nx J6 (TC.block ?_)
 refine TC.loop (α := (Nat)) (fun i => i ≤ 5 ∧ ∀ (j : Nat) (h : j < 5), j < i → hokR x.heir[j] x.left[j] = true) (fun i => [(1, (.pointer (some ⟨b1, 0, none⟩))), (15, (.agg (ints x.heir.toList).toArray)), (16, (.int .i64 (((i : Nat) : Int))))]) (fun i => [blkA b1 (ints x.flat) 74]) (fun i => 5 - i) 0
     ⟨Nat.zero_le _, fun j h hj => absurd hj (by omega)⟩ SB
     (fun _ s => s) (fun i hinv => ?_)
 obtain ⟨hi, ho⟩ := hinv
 refine sr fun _ J7 => PS ?_
 refine TL.dec (fun h17 => ?_) (fun h17 => ?_)
 refine nx J7 (TC.seq fun _ J8 => CY (CX J8 (TC.seq fun _ J9 => TC.block (sr fun _ J10 => PS ?_))))
 refine tp (PV.index1 (cs := ints x.heir.toList) (v := Value.int .i64 (x.heir[i]'(by omega))) (r := i) rfl Y68 Y3 rfl sz3 rfl rfl (by omega) (by omega) (by omega) (vi_at x.heir (by omega))) ?_
 refine PS ?_
 refine PS ?_
 refine nx J10 (TC.seq fun _ J11 => sr fun _ J12 => PS ?_)
 refine PS ?_
 refine TL.dec (fun h21 => ?_) (fun h21 => ?_)
 refine PS ?_
 iterate 6 refine UT ?_
 refine PS ?_
 refine nx J12 (CY (sr fun _ J13 => PS ?_))
 refine nx J13 (TC.ret (TE.passRet (TE.blockRet (TE.passRet (TE.passRet (TE.blockRet (TE.passRet (WK [] (TE.ret1 rfl rfl ⟨congrArg Value.bool ?_, rfl⟩)))))))))
 symm
 rw [rightR, Bool.eq_false_iff]
 intro h
 rw [Bool.and_eq_true, Bool.and_eq_true, decide_eq_true_iff, decide_eq_true_iff] at h
 have h := h.2 i (by omega)
 unfold hokR at h
 rw [Bool.and_eq_true, Bool.and_eq_true, decide_eq_true_iff, decide_eq_true_iff] at h
 omega
 refine PS ?_
 refine PS ?_
 refine FA 34 Y74 sz72 ?_
 refine tq (PV.indexArr (r := 34 + i * 28) rfl Y72 sz71 rfl rfl (by omega) (by omega) (by omega)) ?_
 refine tq (PV.loadN (vs := ints (flats (x.left[i]'(by omega)).toList)) rfl Y71 rfl sz71 rfl (RO 0) (vs4_len (x.left[i]'(by omega))) (RowT.sub_left x (i * 28) (by omega) (by omega) (vs_sub vl_len x.left (i := i) 0 (by omega) (by omega) (by decide) (whole (vs4_len (x.left[i]'(by omega))))))) ?_
 refine CE nm123 (rightCells_does (x.left[i]'(by omega))) (fun _ s => s) ?_
 refine TL.decB (fun h27 => ?_) (fun h27 => ?_)
 refine tq (PV.not (r := false) rfl rfl rfl) ?_
 refine PS ?_
 refine nx J12 (CN (CX J11 (sr fun _ J14 => PS ?_)))
 refine PS ?_
 refine TL.dec (fun h31 => ?_) (fun h31 => ?_)
 refine PS ?_
 refine PS ?_
 refine FA 34 Y74 sz72 ?_
 refine tq (PV.indexArr (r := 34 + i * 28) rfl Y72 sz71 rfl rfl (by omega) (by omega) (by omega)) ?_
 refine tq (PV.loadN (vs := ints (flats (x.left[i]'(by omega)).toList)) rfl Y71 rfl sz71 rfl (RO 0) (vs4_len (x.left[i]'(by omega))) (RowT.sub_left x (i * 28) (by omega) (by omega) (vs_sub vl_len x.left (i := i) 0 (by omega) (by omega) (by decide) (whole (vs4_len (x.left[i]'(by omega))))))) ?_
 refine tq (PV.build (cells := (ints (flats RowT.zero.cells.toList)).toArray) rfl rfl (by as_aux_lemma => kernel_rfl)) ?_
 refine tq (PV.neqAgg (a := flats (x.left[i]'(by omega)).toList) (b := flats RowT.zero.cells.toList) (m := 6) (c := 28) sg71 sk71 rfl fI71 (ints_len (vs4_len (x.left[i]'(by omega)))) (ints_len (vs4_len RowT.zero.cells)) ⟨formed_ag fC71 cC71 (ints_len (vs4_len (x.left[i]'(by omega)))), formed_ag fC71 cC71 (ints_len (vs4_len RowT.zero.cells))⟩ (wf_left hw i (by omega)) wf_zl rfl rfl rfl) ?_
 refine TL.dec (fun h38 => ?_) (fun h38 => ?_)
 refine PS ?_
 refine nx J14 (CY (sr fun _ J15 => PS ?_))
 refine nx J15 (TC.ret (TE.blockRet (TE.passRet (TE.passRet (TE.blockRet (TE.passRet (WK [] (TE.ret1 rfl rfl ⟨congrArg Value.bool ?_, rfl⟩))))))))
 symm
 rw [rightR, Bool.eq_false_iff]
 intro h
 rw [Bool.and_eq_true, Bool.and_eq_true, decide_eq_true_iff, decide_eq_true_iff] at h
 have h := h.2 i (by omega)
 unfold hokR at h
 rw [Bool.and_eq_true, Bool.and_eq_true, decide_eq_true_iff, decide_eq_true_iff] at h
 exact h38 (h.2 h31)
 refine PS ?_
 refine nx J14 (CN (TC.skip (TE.blockEnd (TE.next J9 (TC.region (AD ?_))))))
 refine PS ?_
 refine TL.nil ?_
 exact TE.round ((i + 1) : (Nat)) ⟨by omega, fun j h hj => by
        by_cases q : j = i
        · subst q; unfold hokR; rw [Bool.and_eq_true, Bool.and_eq_true, decide_eq_true_iff, decide_eq_true_iff]; exact ⟨⟨by omega, h27⟩, fun e => by first | exact absurd e h31 | exact Classical.not_not.1 h38⟩
        · exact ho j h (by omega)⟩ (by show 5 - (i + 1) < 5 - i; omega)
   SB
   (fun _ s => s)
 refine PS ?_
 iterate 6 refine UF ?_
 refine PS ?_
 refine nx J14 (CN (TC.skip (TE.blockEnd (TE.next J9 (TC.region (AD ?_))))))
 refine PS ?_
 refine TL.nil ?_
 exact TE.round ((i + 1) : (Nat)) ⟨by omega, fun j h hj => by
        by_cases q : j = i
        · subst q; unfold hokR; rw [Bool.and_eq_true, Bool.and_eq_true, decide_eq_true_iff, decide_eq_true_iff]; exact ⟨⟨by omega, h27⟩, fun e => by first | exact absurd e h31 | exact Classical.not_not.1 h38⟩
        · exact ho j h (by omega)⟩ (by show 5 - (i + 1) < 5 - i; omega)
   SB
   (fun _ s => s)
 refine tq (PV.not (r := true) rfl rfl rfl) ?_
 refine PS ?_
 refine nx J12 (CY (sr fun _ J16 => PS ?_))
 refine nx J16 (TC.ret (TE.passRet (TE.blockRet (TE.passRet (TE.passRet (TE.blockRet (TE.passRet (WK [] (TE.ret1 rfl rfl ⟨congrArg Value.bool ?_, rfl⟩)))))))))
 symm
 rw [rightR, Bool.eq_false_iff]
 intro h
 rw [Bool.and_eq_true, Bool.and_eq_true, decide_eq_true_iff, decide_eq_true_iff] at h
 have h := h.2 i (by omega)
 unfold hokR at h
 rw [Bool.and_eq_true, Bool.and_eq_true, decide_eq_true_iff, decide_eq_true_iff] at h
 rw [h27] at h; exact absurd h.1.2 (by decide)
 refine nx J7 (TC.seq fun _ J17 => CN (TC.exit (TE.pass (TE.pass (TE.hit (TE.next J5 (sr fun _ J18 => PS ?_)))))))
 refine nx J18 (TC.ret (WK [] (TE.ret1 rfl rfl ?_)))
 exact ⟨congrArg Value.bool (by symm; rw [rightR, Bool.and_eq_true, Bool.and_eq_true, decide_eq_true_iff, decide_eq_true_iff]; exact ⟨⟨by omega, h11⟩, fun j h => ho j h (by omega)⟩), rfl⟩
 refine tq (PV.not (r := true) rfl rfl rfl) ?_
 refine PS ?_
 refine nx J3 (CY (sr fun _ J19 => PS ?_))
 refine nx J19 (TC.ret (TE.passRet (WK [] (TE.ret1 rfl rfl ⟨congrArg Value.bool ?_, rfl⟩))))
 symm
 rw [rightR, Bool.eq_false_iff]
 intro h
 rw [Bool.and_eq_true, Bool.and_eq_true, decide_eq_true_iff, decide_eq_true_iff] at h
 rw [h11] at h; exact absurd h.1.2 (by decide)
theorem first_does  :
 Leg.Does Tryz.prog 46 #[] (fun _ => True) [] (Ret (fun r' H => r' = .agg (ints firstV.flat).toArray ∧ H = [])) := by
 refine Leg.Does.body (n := 2) Tryz.func46 rfl rfl rfl (fun w0 F hF => sr fun _ J1 => XA z85 fun b0 => ?_)
 change TL _ _ _ _ _ _ _ _ _ [blkA b0 (ints ViewT.zero.flat) 85]
 refine nx J1 (sr fun _ J2 => tp (PV.buildSegs (cs := ints (ViewT.mk 1 7 (#v[0, 0, 0, 0, 0])).flat) (segs := [[Value.int .i64 0], [Value.int .i64 0], ints (#v[0, 0, 0, 0, 0]).toList]) (res := [[Value.int .i64 1], [Value.int .i64 7], ints (#v[0, 0, 0, 0, 0]).toList]) (parts := [(0, [Value.int .i64 1]), (1, [Value.int .i64 7])]) rfl rfl Y85 (by kernel_rfl) (by kernel_rfl) rfl (putSegs_step rfl rfl (putSegs_step rfl rfl putSegs_nil)) (ViewT.eq (ViewT.mk 1 7 (#v[0, 0, 0, 0, 0]))).symm) ?_)
 exact TL.store (vs := ints (ViewT.mk 1 7 (#v[0, 0, 0, 0, 0])).flat) (i := 0) (Want.plain rfl) rfl rfl rfl rfl rfl (by rw [(ViewT.len (ViewT.mk 1 7 (#v[0, 0, 0, 0, 0])))]; exact sz85) (ints_one _) rfl rfl (LC (ViewT.len _) (ViewT.len _)) (wwhole ((ViewT.len ViewT.zero).trans (ViewT.len (ViewT.mk 1 7 (#v[0, 0, 0, 0, 0]))).symm)) rfl (nx J2 (TC.ret (TE.retC (H' := []) rfl rfl Y85 rfl sz85 (RO 0) (ViewT.len (ViewT.mk 1 7 (#v[0, 0, 0, 0, 0]))) (fun _ s => sep_keep [] rfl s) ⟨rfl, rfl⟩)))
theorem viewRight_does (v : ViewT) (hh : Rng v) :
    Leg.Does Tryz.prog 140 #[(.agg (ints v.flat).toArray)] (fun _ => True) [] (Ret (fun r' H => r' = .bool (rightV v) ∧ H = [])) := by
 refine Leg.Does.body (n := 39) Tryz.func140 rfl rfl rfl (fun w0 F hF => sr fun _ J1 => XB fun b1 => ?_)
 change TL _ _ _ _ _ _ _ _ _ [blkA b1 (ints v.flat) 85]
 refine PS ?_
 refine nx J1 ?_
 clear J1
 refine TC.seq fun _ J2 => sr fun _ J3 => FA 0 Y85 sz3 ?_
 refine tp (PV.load1 (v := (.int .i64 (v.epoch))) rfl Y3 rfl rfl (RO 0) (ViewT.at_epoch v rfl)) ?_
 refine PS ?_
 refine TL.dec (fun h7 => ?_) (fun h7 => ?_)
 refine PS ?_
 iterate 3 refine UT ?_
 refine PS ?_
 refine PS ?_
 iterate 3 refine UT ?_
 refine PS ?_
 refine nx J3 ?_
 clear J3
 refine CY (sr fun _ J4 => PS ?_)
 refine nx J4 ?_
 clear J4
 refine TC.ret (TE.passRet ?_)
 clear J2
 refine WK [] (TE.ret1 rfl rfl ⟨congrArg Value.bool ?_, rfl⟩)
 symm
 rw [rightV, Bool.eq_false_iff]
 intro h
 rw [Bool.and_eq_true, decide_eq_true_iff, decide_eq_true_iff] at h
 omega
 refine PS ?_
 refine FA 1 Y85 sz3 ?_
 refine tq (PV.load1 (v := (.int .i64 (v.members))) rfl Y3 rfl rfl (RO 0) (ViewT.at_members v rfl)) ?_
 refine PS ?_
 refine TL.dec (fun h11 => ?_) (fun h11 => ?_)
 refine PS ?_
 refine PS ?_
 iterate 3 refine UT ?_
 refine PS ?_
 refine nx J3 ?_
 clear J3
 refine CY (sr fun _ J5 => PS ?_)
 refine nx J5 ?_
 clear J5
 refine TC.ret (TE.passRet ?_)
 clear J2
 refine WK [] (TE.ret1 rfl rfl ⟨congrArg Value.bool ?_, rfl⟩)
 symm
 rw [rightV, Bool.eq_false_iff]
 intro h
 rw [Bool.and_eq_true, decide_eq_true_iff, decide_eq_true_iff] at h
 omega
 refine PS ?_
 refine PS ?_
 refine FA 1 Y85 sz3 ?_
 refine tq (PV.load1 (v := (.int .i64 (v.members))) rfl Y3 rfl rfl (RO 0) (ViewT.at_members v rfl)) ?_
 refine PS ?_
 refine TL.dec (fun h16 => ?_) (fun h16 => ?_)
 refine PS ?_
 refine nx J3 ?_
 clear J3
 refine CY (sr fun _ J6 => PS ?_)
 refine nx J6 ?_
 clear J6
 refine TC.ret (TE.passRet ?_)
 clear J2
 refine WK [] (TE.ret1 rfl rfl ⟨congrArg Value.bool ?_, rfl⟩)
 symm
 rw [rightV, Bool.eq_false_iff]
 intro h
 rw [Bool.and_eq_true, decide_eq_true_iff, decide_eq_true_iff] at h
 omega
 refine PS ?_
 refine nx J3 ?_
 clear J3
 refine CN (CX J2 ?_)
 clear J2
 refine TC.seq fun _ J7 => sr fun _ J8 => FA 2 Y85 sz68 ?_
 refine tp (PV.loadN (vs := ints v.heirs.toList) rfl Y68 rfl sz68 rfl (RO 0) (vi5_len v.heirs) (ViewT.sub_heirs v 0 rfl (by decide) (whole (vi5_len v.heirs)))) ?_
 refine PS ?_
 refine nx J8 ?_
 clear J8
 refine TC.block ?_
 refine TC.loop (α := (Nat)) (fun i => i ≤ 5 ∧ ∀ (j : Nat) (h : j < 5), j < i → okH v v.heirs[j] j = true) (fun i => [(1, (.pointer (some ⟨b1, 0, none⟩))), (19, (.agg (ints v.heirs.toList).toArray)), (20, (.int .i64 (((i : Nat) : Int))))]) (fun i => [blkA b1 (ints v.flat) 85]) (fun i => 5 - i) 0
     ⟨Nat.zero_le _, fun j h hj => absurd hj (by omega)⟩ SB
     (fun _ s => s) (fun i hinv => ?_)
 obtain ⟨hi, ho⟩ := hinv
 have hhi := fun h : i < 5 => hh i h
 refine sr fun _ J9 => PS ?_
 refine TL.dec (fun h21 => ?_) (fun h21 => ?_)
 replace hhi := hhi (by omega)
 refine nx J9 ?_
 clear J9
 refine TC.seq fun _ J10 => CY (CX J10 ?_)
 clear J10
 refine TC.seq fun _ J11 => TC.block (sr fun _ J12 => PS ?_)
 refine tp (PV.index1 (cs := ints v.heirs.toList) (v := Value.int .i64 (v.heirs[i]'(by omega))) (r := i) rfl Y68 Y3 rfl sz3 rfl rfl (by omega) (by omega) (by omega) (vi_at v.heirs (by omega))) ?_
 refine PS ?_
 refine PS ?_
 refine nx J12 ?_
 clear J12
 refine sr fun _ J13 => PS ?_
 refine PS ?_
 refine TL.dec (fun h25 => ?_) (fun h25 => ?_)
 refine PS ?_
 refine tq (PV.loadN (vs := ints v.flat) rfl Y85 rfl sz85 rfl (RO 0) (ViewT.len v) (whole (ViewT.len v))) ?_
 refine PS ?_
 refine tq (PV.sub rfl rfl rfl (wrap_i64 (by omega) (by omega))) ?_
 refine CE nm50 (member_does v ((v.heirs[i]'(by omega)) - 1)) (fun _ s => s) ?_
 refine TL.decB (fun h30 => ?_) (fun h30 => ?_)
 refine tq (PV.not (r := false) rfl rfl rfl) ?_
 refine PS ?_
 refine tq (PV.loadN (vs := ints v.flat) rfl Y85 rfl sz85 rfl (RO 0) (ViewT.len v) (whole (ViewT.len v))) ?_
 refine PS ?_
 refine CE nm50 (member_does v ((i : Nat) : Int)) (fun _ s => s) ?_
 refine TL.decB (fun h35 => ?_) (fun h35 => ?_)
 refine PS ?_
 refine PS ?_
 refine nx J13 ?_
 clear J13
 refine CY (sr fun _ J14 => PS ?_)
 refine nx J14 ?_
 clear J14
 refine TC.ret (TE.blockRet (TE.passRet ?_))
 clear J11
 refine TE.passRet (TE.blockRet (TE.passRet ?_))
 clear J7
 refine WK [] (TE.ret1 rfl rfl ⟨congrArg Value.bool ?_, rfl⟩)
 symm
 rw [rightV, Bool.eq_false_iff]
 intro h
 rw [Bool.and_eq_true, decide_eq_true_iff, decide_eq_true_iff] at h
 have h := h.2 i (by omega)
 unfold okH at h
 rw [Bool.or_eq_true, decide_eq_true_iff, Bool.and_eq_true] at h
 rw [h35] at h; exact h.elim h25 fun q => absurd q.2 (by decide)
 refine PS ?_
 refine PS ?_
 refine nx J13 ?_
 clear J13
 refine CN (TC.skip (TE.blockEnd (TE.next J11 ?_)))
 clear J11
 refine TC.region (AD ?_)
 refine PS ?_
 refine TL.nil ?_
 exact TE.round ((i + 1) : (Nat)) ⟨by omega, fun j h hj => by
        by_cases q : j = i
        · subst q; unfold okH; simp_all
        · exact ho j h (by omega)⟩ (by show 5 - (i + 1) < 5 - i; omega)
   SB
   (fun _ s => s)
 refine tq (PV.not (r := true) rfl rfl rfl) ?_
 refine PS ?_
 iterate 3 refine UT ?_
 refine PS ?_
 refine PS ?_
 refine nx J13 ?_
 clear J13
 refine CY (sr fun _ J15 => PS ?_)
 refine nx J15 ?_
 clear J15
 refine TC.ret (TE.blockRet (TE.passRet ?_))
 clear J11
 refine TE.passRet (TE.blockRet (TE.passRet ?_))
 clear J7
 refine WK [] (TE.ret1 rfl rfl ⟨congrArg Value.bool ?_, rfl⟩)
 symm
 rw [rightV, Bool.eq_false_iff]
 intro h
 rw [Bool.and_eq_true, decide_eq_true_iff, decide_eq_true_iff] at h
 have h := h.2 i (by omega)
 unfold okH at h
 rw [Bool.or_eq_true, decide_eq_true_iff, Bool.and_eq_true] at h
 rw [h30] at h; exact h.elim h25 fun q => absurd q.1 (by decide)
 refine PS ?_
 iterate 6 refine UF ?_
 refine TL.unmetU rfl rfl rfl rfl (lb rfl) (TL.unmetU rfl rfl rfl rfl (lb rfl) (TL.unmetU rfl rfl rfl rfl (lb rfl) (UF ?_)))
 refine PS ?_
 refine nx J13 ?_
 clear J13
 refine CN (TC.skip (TE.blockEnd (TE.next J11 ?_)))
 clear J11
 refine TC.region (AD ?_)
 refine PS ?_
 refine TL.nil ?_
 exact TE.round ((i + 1) : (Nat)) ⟨by omega, fun j h hj => by
        by_cases q : j = i
        · subst q; unfold okH; simp_all
        · exact ho j h (by omega)⟩ (by show 5 - (i + 1) < 5 - i; omega)
   SB
   (fun _ s => s)
 refine nx J9 ?_
 clear J9
 refine TC.seq fun _ J16 => CN (TC.exit (TE.pass ?_))
 clear J16
 refine TE.pass (TE.hit (TE.next J7 ?_))
 clear J7
 refine sr fun _ J17 => PS ?_
 refine nx J17 ?_
 clear J17
 refine TC.ret (WK [] (TE.ret1 rfl rfl ?_))
 exact ⟨congrArg Value.bool (by symm; rw [rightV, Bool.and_eq_true, decide_eq_true_iff, decide_eq_true_iff]; exact ⟨by omega, fun j h => ho j h (by omega)⟩), rfl⟩
theorem heir_does (v : ViewT) (w : Int) (hh : Rng v) :
 Leg.Does Tryz.prog 116 #[(.agg (ints v.flat).toArray), (.int .i64 (w))] (fun _ => True) [] (Ret (fun r' H => r' = .tuple #[.int .i64 ((heirV v w).getD 0), .bool (heirV v w).isSome] ∧ H = [])) := by
 refine Leg.Does.body (n := 21) Tryz.func116 rfl rfl rfl (fun w0 F hF => sr fun _ J1 => XB fun b2 => ?_)
 change TL _ _ _ _ _ _ _ _ _ [blkA b2 (ints v.flat) 85]
 refine PS ?_
 refine PS ?_
 refine nx J1 (TC.seq fun _ J2 => sr fun _ J3 => PS ?_)
 refine CE nm94 (vmachine_does w) (fun _ s => s) ?_
 refine TL.decB (fun h7 => ?_) (fun h7 => ?_)
 have hm : 0 ≤ w ∧ w < 5 := of_decide_eq_true h7
 have hb := hh w.toNat (by omega)
 refine tp (PV.not (r := false) rfl rfl rfl) ?_
 refine PS ?_
 refine PS ?_
 refine FA 2 Y85 sz68 ?_
 refine tq (PV.indexArr (r := 2 + w.toNat) rfl Y68 sz3 rfl rfl (by omega) (by omega) (by omega)) ?_
 refine tq (PV.load1 (v := (.int .i64 ((v.heirs[w.toNat]'(by omega))))) rfl Y3 rfl rfl (RO 0) (ViewT.pt_heirs v (w.toNat) (by omega) (by omega) (vi_at v.heirs (by omega)))) ?_
 refine PS ?_
 refine TL.dec (fun h14 => ?_) (fun h14 => ?_)
 refine PS ?_
 refine nx J3 (CY (sr fun _ J4 => PS ?_))
 refine PS ?_
 refine nx J4 (TC.ret (TE.passRet (WK [] (TE.ret2 rfl rfl rfl ?_))))
 exact ⟨by rw [heirV, dif_pos hm, if_pos h14]; rfl, rfl⟩
 refine PS ?_
 refine nx J3 (CN (CX J2 (sr fun _ J5 => PS ?_)))
 refine FA 2 Y85 sz68 ?_
 refine tp (PV.indexArr (r := 2 + w.toNat) rfl Y68 sz3 rfl rfl (by omega) (by omega) (by omega)) ?_
 refine tp (PV.load1 (v := (.int .i64 ((v.heirs[w.toNat]'(by omega))))) rfl Y3 rfl rfl (RO 0) (ViewT.pt_heirs v (w.toNat) (by omega) (by omega) (vi_at v.heirs (by omega)))) ?_
 refine tp (PV.sub rfl rfl rfl (wrap_i64 (by omega) (by omega))) ?_
 refine PS ?_
 refine PS ?_
 refine nx J5 (TC.ret (WK [] (TE.ret2 rfl rfl rfl ?_)))
 exact ⟨by rw [heirV, dif_pos hm, if_neg h14]; rfl, rfl⟩
 refine tp (PV.not (r := true) rfl rfl rfl) ?_
 refine PS ?_
 iterate 5 refine UT ?_
 refine PS ?_
 refine nx J3 (CY (sr fun _ J6 => PS ?_))
 refine PS ?_
 refine nx J6 (TC.ret (TE.passRet (WK [] (TE.ret2 rfl rfl rfl ?_))))
 exact ⟨by rw [heirV, dif_neg (of_decide_eq_false h7)]; rfl, rfl⟩
end Go.Proofs.YtohmkchalilodaaGreatDoor
end

section
namespace Leg
open Go Codec Api
section
variable {P : Program} {w0 : World} {F : Hl} {n : Nat} {ops : Array Oper} {Q : QQ} {D : List Deferred} {L : List (Nat × Value)} {H : List HP} {o : Oper} {l : List Oper} {d : Nat}
def chanP (c cap : Nat) (vs : List Value) (s r : Nat) : HP := obj c (.chan cap vs.toArray false s r false)
theorem TL.makeChan {t e : TypeId} {dir : ChanDir} {x : Operand} {k bytes : Nat} (hw : Want n D ops o L) (ho : o.op = .makeChan t x) (hd : o.dst = some d) (hn : Nat.blt d n = true) (ht : P.underlying t = some (.chan dir e)) (hi : (P.info? e).map (·.bytes) = some bytes)
 (hx : evL L x = some (.int .i64 ((k : Nat) : Int))) (hb : bytes * k ≤ 281474976710544) (hk : k ≤ 9223372036854775807)
 (h : ∀ c, TL P w0 F n ops Q l D ((d, .chan (some c)) :: L) (chanP c k [] 0 0 :: H)) : TL P w0 F n ops Q (o :: l) D L H :=
 TL.step hw fun a w f s m => by
  unfold Oper.wp
  cases hi' : P.info? e with
  | none => rw [hi'] at hi; cases hi
  | some i =>
   rw [hi'] at hi
   have hbb : i.bytes = bytes := by simpa using hi
   have a1 : ¬ (((k : Nat) : Int) < 0) := by omega
   have a2 : ¬ (9223372036854775807 < ((k : Nat) : Int)) := by omega
   have a3 : ¬ (281474976710544 < (i.bytes : Int) * ((k : Nat) : Int)) := by
    have : (i.bytes : Int) * ((k : Nat) : Int) ≤ 281474976710544 := by rw [hbb, ← Int.natCast_mul]; exact Int.ofNat_le.2 hb
    omega
   have hc : (Instr.makeChan t (.int .i64 ((k : Nat) : Int))).run P w = .ok (.chan (some w.heap.size)) (w.alloc (.chan k #[] false 0 0 false)) := by
    simp [Instr.makeChan, run_underlying ht, typeInfo, hi', asInt, asIntOf, IntKind.max, IntKind.signed, IntKind.bits, a1, a2, a3]
   have r : (execOp a.eval o).run P w = .ok (.value (.chan (some w.heap.size))) (w.alloc (.chan k #[] false 0 0 false)) := by
    simp [execOp, ho, f.eval hx, Sem.run_bind, hc]
   rw [r, Oper.upon_value, hd]
   exact h _ _ _ (f.put (lb hn) _) (s.trans ⟨rfl, rfl, rfl, by simp⟩) ((m.alloc _).mono fun h s => star_mono s (fun _ x => x) fun _ x => x)
end
end Leg
end

section
namespace Leg
open Go Codec Api
def EF {α : Type} (f : α → List Int) (us : List Value) (x : α) (_ : Hl) : Prop := us = ints (f x)
section
variable {α : Type} {f : α → List Int} {m : Nat}
theorem flat_sub (hf : ∀ x, (f x).length = m) (l : List α) {i : Nat} (hi : i < l.length) : ((ints (l.flatMap f)).drop (i * m)).take m = ints (f l[i]) := by
 rw [vs_eq]
 have hl := vs_sl hf l
 have := hl.sub (s := ints (f l[i])) i 0 m (by simp [hi]) (by simp [hi]) (sum_rep m l.length i (by omega)) (Nat.le_of_eq (Nat.zero_add m))
 rw [Nat.add_zero] at this
 rw [this, List.drop_zero, List.take_of_length_le (by rw [ints_length, hf]; exact Nat.le_refl _)]
theorem flat_len (hf : ∀ x, (f x).length = m) (l : List α) : (ints (l.flatMap f)).length = l.length * m := by
 rw [ints_length]
 induction l with
 | nil => simp
 | cons x l ih => rw [List.flatMap_cons, List.length_append, ih, hf, List.length_cons, Nat.add_mul]; omega
theorem isF_own (hf : ∀ x, (f x).length = m) (i : Nat) {v : Value} {l : List α} {e : Nat} {B : List HP} {F : Hl} (hi : Nat.blt i B.length = true) (hH : B.getD i (fun _ => True) = own v l.length (ints (l.flatMap f)) e m) : ∀ g, Dj g F → sep B g → IsL m (EF f) v l (jn g F) := fun g _ s => by
 obtain ⟨h1, h2, d', rfl, a, _⟩ := sep_get i (lb hi) s
 rw [hH] at a
 rcases a with ⟨_, ⟨h0, hn, _⟩ | ⟨g, cap, cur, hv, hh, h3, h4, h5, h6⟩⟩
 · exact .inl ⟨h0, List.eq_nil_of_length_eq_zero hn⟩
 · refine .inr (.inr ⟨g, 0, cap, cur.toList, e, (0, 0), hv, h3, by simp only [maxLen] at h4; omega, jn_some (jn_some (by rw [hh]; simp [sg])), fun j hj => ⟨ints (f l[j]), by rw [ints_length, hf], ?_, rfl⟩⟩)
   have hj2 : j * m + m ≤ l.length * m := by rw [← Nat.succ_mul]; exact Nat.mul_le_mul_right m hj
   rw [Nat.zero_add, ← flat_sub hf l hj, ← h6, List.drop_take, List.take_take, Nat.min_eq_left (by omega)]
end
section
variable {P : Program} {w0 : World} {F : Hl} {n : Nat} {ops : Array Oper} {Q : QQ} {D : List Deferred} {L : List (Nat × Value)} {H : List HP} {o : Oper} {l : List Oper} {S : World → Prop}
end
end Leg
end

section
namespace Leg
open Go Api
def Arnd {α : Type} (cs c : α → List Value) (off : Nat) : Prop := ∃ A B, A.length = off ∧ ∀ x, cs x = A ++ (c x ++ B)
section
variable {α : Type} {cs c : α → List Value} {off o j k : Nat} {x x' : α}
theorem Arnd.le (h : Arnd cs c off) (x : α) : off + (c x).length ≤ (cs x).length := by
 obtain ⟨A, B, h1, h2⟩ := h
 rw [h2, List.length_append, List.length_append]; omega
theorem Arnd.at (h : Arnd cs c off) (ho : o = off + j) (hj : j < (c x).length) {r : Option Value} (hr : (c x)[j]? = r) : (cs x)[o]? = r := by
 obtain ⟨A, B, h1, h2⟩ := h
 subst ho; subst h1
 rw [h2, List.getElem?_append_right (by omega), Nat.add_sub_cancel_left, List.getElem?_append_left hj, hr]
theorem Arnd.sub (h : Arnd cs c off) (ho : o = off + j) (hj : j + k ≤ (c x).length) {r : List Value} (hr : ((c x).drop j).take k = r) : ((cs x).drop o).take k = r := by
 obtain ⟨A, B, h1, h2⟩ := h
 subst ho; subst h1
 rw [h2, ← List.drop_drop, List.drop_left, List.drop_append_of_le_length (by omega), List.take_append_of_le_length (by rw [List.length_drop]; omega), hr]
theorem Arnd.wr (h : Arnd cs c off) {vs : List Value} (ho : o = off + j) (hj : j + vs.length ≤ (c x).length) (hw : Leg.wr (c x) j vs = c x') : Leg.wr (cs x) o vs = cs x' := by
 obtain ⟨A, B, h1, h2⟩ := h
 subst ho; subst h1
 rw [h2, h2, wr_append_right (by omega), Nat.add_sub_cancel_left, wr_append_left hj, hw]
theorem Arnd.whole : Arnd c c 0 := ⟨[], [], rfl, fun x => by simp⟩
end
end Leg
namespace Api
open Go Leg Codec
def bools (l : List Bool) : List Value := l.map .bool
theorem vb_at {n : Nat} (v : Vector Bool n) {i : Nat} (h : i < n) : (bools v.toList)[i]? = some (.bool v[i]) := by simp [bools, h]
theorem vsr_len (v : Vector RowT 5) : (ints (v.toList.flatMap RowT.flat)).length = 870 := by rw [flat_len RowT.flat_length]; simp
theorem vsc_len (v : Vector CellT 5) : (ints (v.toList.flatMap CellT.flat)).length = 35 := by rw [flat_len CellT.flat_length]; simp
structure AccT where
 epoch : Int
 vow : BallotT
 had : BallotT
 change : ChangeT
def AccT.zero : AccT := ⟨0, .zero, .zero, .zero⟩
def AccT.flat (m : AccT) : List Int := ([m.epoch]) ++ (m.vow.flat) ++ (m.had.flat) ++ (m.change.flat)
structure SaidT where
 to' : Int
 msg : MsgT
structure BookT where
 rows : Vector RowT 5
def BookT.zero : BookT := ⟨#v[RowT.zero, RowT.zero, RowT.zero, RowT.zero, RowT.zero]⟩
def BookT.flat (m : BookT) : List Int := (m.rows.toList.flatMap RowT.flat)
structure MirT where
 rows : Vector RowT 5
 sealed : Vector Bool 5
def MirT.zero : MirT := ⟨#v[RowT.zero, RowT.zero, RowT.zero, RowT.zero, RowT.zero], #v[false, false, false, false, false]⟩
def MirT.cells (m : MirT) : List Value := [ints (m.rows.toList.flatMap RowT.flat), bools m.sealed.toList].flatten
structure VoteT where
 view : ViewT
 ballot : BallotT
 change : ChangeT
 best : BallotT
 vowed : Int
 took : Int
 putting : Bool
structure RepT where
 id : Int
 log : Value
 view : ViewT
 own : RowT
 mirror : MirT
 acc : AccT
 round : Int
 vote : Value
 book : BookT
 busy : Bool
 kept : Int
 waits : Int
 ops : Int
 replies : Value
 told : Vector Int 5
 last : Vector RowT 5
def RepT.zero : RepT := ⟨0, .pointer none, .zero, .zero, .zero, .zero, 0, .pointer none, .zero, false, 0, 0, 0, .slice none 0 0, #v[0, 0, 0, 0, 0], #v[RowT.zero, RowT.zero, RowT.zero, RowT.zero, RowT.zero]⟩
def RepT.cells (m : RepT) : List Value := [[Value.int .i64 m.id], [m.log], ints m.view.flat, ints m.own.flat, MirT.cells m.mirror, ints m.acc.flat, [Value.int .i64 m.round], [m.vote], ints m.book.flat, [Value.bool m.busy], [Value.int .i64 m.kept], [Value.int .i64 m.waits], [Value.int .i64 m.ops], [m.replies], ints m.told.toList, ints (m.last.toList.flatMap RowT.flat)].flatten
theorem AccT.sl (m : AccT) : SL [[Value.int .i64 m.epoch], ints m.vow.flat, ints m.had.flat, ints m.change.flat] [1, 2, 2, 3] := (.cons rfl (.cons (BallotT.len _) (.cons (BallotT.len _) (.cons (ChangeT.len _) .nil))))
theorem AccT.eq (m : AccT) : ints m.flat = [[Value.int .i64 m.epoch], ints m.vow.flat, ints m.had.flat, ints m.change.flat].flatten := by simp [AccT.flat, ints]
theorem AccT.len (m : AccT) : (ints m.flat).length = 8 := by rw [AccT.eq, (AccT.sl m).len]; rfl
theorem BookT.sl (m : BookT) : SL [ints (m.rows.toList.flatMap RowT.flat)] [870] := (.cons (vsr_len _) .nil)
theorem BookT.eq (m : BookT) : ints m.flat = [ints (m.rows.toList.flatMap RowT.flat)].flatten := by simp [BookT.flat, ints]
theorem BookT.len (m : BookT) : (ints m.flat).length = 870 := by rw [BookT.eq, (BookT.sl m).len]; rfl
theorem BookT.pt_rows (m : BookT) {o : Nat} (j : Nat) (ho : o = 0 + j) (h : j < 870) {r : Option Value} (hr : (ints (m.rows.toList.flatMap RowT.flat))[j]? = r) : (ints m.flat)[o]? = r := by subst ho; rw [← hr, BookT.eq]; exact (BookT.sl m).at (off := 0) 0 j rfl rfl (by simp) h
theorem BookT.sub_rows (m : BookT) {o k : Nat} (j : Nat) (ho : o = 0 + j) (h : j + k ≤ 870) {r : List Value} (hr : ((ints (m.rows.toList.flatMap RowT.flat)).drop j).take k = r) : ((ints m.flat).drop o).take k = r := by subst ho; rw [← hr, BookT.eq]; exact (BookT.sl m).sub (off := 0) 0 j k rfl rfl (by simp) h
theorem BookT.wr_rows_ (m : BookT) {o : Nat} (j : Nat) {vs : List Value} {u' : Vector RowT 5} (ho : o = 0 + j) (h : j + vs.length ≤ 870) (hw : wr (ints (m.rows.toList.flatMap RowT.flat)) j vs = ints (u'.toList.flatMap RowT.flat)) : wr (ints m.flat) o vs = ints ({ m with rows := u' } : BookT).flat := by subst ho; rw [BookT.eq, BookT.eq]; exact (BookT.sl m).putIn (off := 0) 0 j vs rfl rfl (by simp) h hw
theorem MirT.sl (m : MirT) : SL [ints (m.rows.toList.flatMap RowT.flat), bools m.sealed.toList] [870, 5] := (.cons (vsr_len _) (.cons (by simp [bools]) .nil))
theorem MirT.eq (m : MirT) : MirT.cells m = [ints (m.rows.toList.flatMap RowT.flat), bools m.sealed.toList].flatten := rfl
theorem MirT.len (m : MirT) : (MirT.cells m).length = 875 := by rw [MirT.eq, (MirT.sl m).len]; rfl
theorem MirT.pt_rows (m : MirT) {o : Nat} (j : Nat) (ho : o = 0 + j) (h : j < 870) {r : Option Value} (hr : (ints (m.rows.toList.flatMap RowT.flat))[j]? = r) : (MirT.cells m)[o]? = r := by subst ho; rw [← hr, MirT.eq]; exact (MirT.sl m).at (off := 0) 0 j rfl rfl (by simp) h
theorem MirT.sub_rows (m : MirT) {o k : Nat} (j : Nat) (ho : o = 0 + j) (h : j + k ≤ 870) {r : List Value} (hr : ((ints (m.rows.toList.flatMap RowT.flat)).drop j).take k = r) : ((MirT.cells m).drop o).take k = r := by subst ho; rw [← hr, MirT.eq]; exact (MirT.sl m).sub (off := 0) 0 j k rfl rfl (by simp) h
theorem MirT.wr_rows_ (m : MirT) {o : Nat} (j : Nat) {vs : List Value} {u' : Vector RowT 5} (ho : o = 0 + j) (h : j + vs.length ≤ 870) (hw : wr (ints (m.rows.toList.flatMap RowT.flat)) j vs = ints (u'.toList.flatMap RowT.flat)) : wr (MirT.cells m) o vs = MirT.cells ({ m with rows := u' } : MirT) := by subst ho; rw [MirT.eq, MirT.eq]; exact (MirT.sl m).putIn (off := 0) 0 j vs rfl rfl (by simp) h hw
theorem MirT.pt_sealed (m : MirT) {o : Nat} (j : Nat) (ho : o = 870 + j) (h : j < 5) {r : Option Value} (hr : (bools m.sealed.toList)[j]? = r) : (MirT.cells m)[o]? = r := by subst ho; rw [← hr, MirT.eq]; exact (MirT.sl m).at (off := 870) 1 j rfl rfl (by simp) h
theorem RepT.sl (m : RepT) : SL [[Value.int .i64 m.id], [m.log], ints m.view.flat, ints m.own.flat, MirT.cells m.mirror, ints m.acc.flat, [Value.int .i64 m.round], [m.vote], ints m.book.flat, [Value.bool m.busy], [Value.int .i64 m.kept], [Value.int .i64 m.waits], [Value.int .i64 m.ops], [m.replies], ints m.told.toList, ints (m.last.toList.flatMap RowT.flat)] [1, 1, 7, 174, 875, 8, 1, 1, 870, 1, 1, 1, 1, 1, 5, 870] := (.cons rfl (.cons rfl (.cons (ViewT.len _) (.cons (RowT.len _) (.cons (MirT.len _) (.cons (AccT.len _) (.cons rfl (.cons rfl (.cons (BookT.len _) (.cons rfl (.cons rfl (.cons rfl (.cons rfl (.cons rfl (.cons (by simp [ints]) (.cons (vsr_len _) .nil))))))))))))))))
theorem RepT.eq (m : RepT) : RepT.cells m = [[Value.int .i64 m.id], [m.log], ints m.view.flat, ints m.own.flat, MirT.cells m.mirror, ints m.acc.flat, [Value.int .i64 m.round], [m.vote], ints m.book.flat, [Value.bool m.busy], [Value.int .i64 m.kept], [Value.int .i64 m.waits], [Value.int .i64 m.ops], [m.replies], ints m.told.toList, ints (m.last.toList.flatMap RowT.flat)].flatten := rfl
theorem RepT.len (m : RepT) : (RepT.cells m).length = 2818 := by rw [RepT.eq, (RepT.sl m).len]; rfl
theorem RepT.at_id (m : RepT) {o : Nat} (ho : o = 0) : (RepT.cells m)[o]? = some (Value.int .i64 m.id) := by subst ho; rw [RepT.eq]; exact (RepT.sl m).at (off := 0) 0 0 rfl rfl (by simp) (by decide)
theorem RepT.at_log (m : RepT) {o : Nat} (ho : o = 1) : (RepT.cells m)[o]? = some (m.log) := by subst ho; rw [RepT.eq]; exact (RepT.sl m).at (off := 1) 1 0 rfl rfl (by simp) (by decide)
theorem RepT.pt_view (m : RepT) {o : Nat} (j : Nat) (ho : o = 2 + j) (h : j < 7) {r : Option Value} (hr : (ints m.view.flat)[j]? = r) : (RepT.cells m)[o]? = r := by subst ho; rw [← hr, RepT.eq]; exact (RepT.sl m).at (off := 2) 2 j rfl rfl (by simp) h
theorem RepT.sub_view (m : RepT) {o k : Nat} (j : Nat) (ho : o = 2 + j) (h : j + k ≤ 7) {r : List Value} (hr : ((ints m.view.flat).drop j).take k = r) : ((RepT.cells m).drop o).take k = r := by subst ho; rw [← hr, RepT.eq]; exact (RepT.sl m).sub (off := 2) 2 j k rfl rfl (by simp) h
theorem RepT.wr_view_ (m : RepT) {o : Nat} (j : Nat) {vs : List Value} {u' : ViewT} (ho : o = 2 + j) (h : j + vs.length ≤ 7) (hw : wr (ints m.view.flat) j vs = ints u'.flat) : wr (RepT.cells m) o vs = RepT.cells ({ m with view := u' } : RepT) := by subst ho; rw [RepT.eq]; refine ((RepT.sl m).putIn (off := 2) 2 j vs rfl rfl (by simp) h hw).trans ?_; simp only [RepT.cells, List.set_cons_succ, List.set_cons_zero]
theorem RepT.pt_own (m : RepT) {o : Nat} (j : Nat) (ho : o = 9 + j) (h : j < 174) {r : Option Value} (hr : (ints m.own.flat)[j]? = r) : (RepT.cells m)[o]? = r := by subst ho; rw [← hr, RepT.eq]; exact (RepT.sl m).at (off := 9) 3 j rfl rfl (by simp) h
theorem RepT.sub_own (m : RepT) {o k : Nat} (j : Nat) (ho : o = 9 + j) (h : j + k ≤ 174) {r : List Value} (hr : ((ints m.own.flat).drop j).take k = r) : ((RepT.cells m).drop o).take k = r := by subst ho; rw [← hr, RepT.eq]; exact (RepT.sl m).sub (off := 9) 3 j k rfl rfl (by simp) h
theorem RepT.wr_own_ (m : RepT) {o : Nat} (j : Nat) {vs : List Value} {u' : RowT} (ho : o = 9 + j) (h : j + vs.length ≤ 174) (hw : wr (ints m.own.flat) j vs = ints u'.flat) : wr (RepT.cells m) o vs = RepT.cells ({ m with own := u' } : RepT) := by subst ho; rw [RepT.eq]; refine ((RepT.sl m).putIn (off := 9) 3 j vs rfl rfl (by simp) h hw).trans ?_; simp only [RepT.cells, List.set_cons_succ, List.set_cons_zero]
theorem RepT.around_mirror (m : RepT) : ∃ A B, RepT.cells m = A ++ (MirT.cells m.mirror ++ B) ∧ A.length = 183 ∧ ∀ u' : MirT, RepT.cells ({ m with mirror := u' } : RepT) = A ++ (MirT.cells u' ++ B) := by
 obtain ⟨A, B, h1, h2, h3⟩ := (RepT.sl m).around (off := 183) 4 rfl rfl (by simp)
 exact ⟨A, B, by rw [RepT.eq]; exact h1, h2, fun u' => by rw [← h3]; simp only [RepT.cells, List.set_cons_succ, List.set_cons_zero]⟩
theorem RepT.arnd_mirror (m : RepT) : Arnd (fun u : MirT => RepT.cells ({ m with mirror := u } : RepT)) (fun u => MirT.cells u) 183 := by
 obtain ⟨A, B, _, h2, h3⟩ := RepT.around_mirror m
 exact ⟨A, B, h2, h3⟩
theorem RepT.wr_acc_ (m : RepT) {o : Nat} (j : Nat) {vs : List Value} {u' : AccT} (ho : o = 1058 + j) (h : j + vs.length ≤ 8) (hw : wr (ints m.acc.flat) j vs = ints u'.flat) : wr (RepT.cells m) o vs = RepT.cells ({ m with acc := u' } : RepT) := by subst ho; rw [RepT.eq]; refine ((RepT.sl m).putIn (off := 1058) 5 j vs rfl rfl (by simp) h hw).trans ?_; simp only [RepT.cells, List.set_cons_succ, List.set_cons_zero]
theorem RepT.set_round (m : RepT) {o : Nat} (ho : o = 1066) (x : Int) : (RepT.cells m).set o (Value.int .i64 x) = RepT.cells ({ m with round := x } : RepT) := by subst ho; rw [RepT.eq]; refine ((RepT.sl m).set (off := 1066) 6 0 _ rfl rfl (by simp) (by decide)).trans ?_; simp only [RepT.cells, List.set_cons_succ, List.set_cons_zero]
theorem RepT.at_vote (m : RepT) {o : Nat} (ho : o = 1067) : (RepT.cells m)[o]? = some (m.vote) := by subst ho; rw [RepT.eq]; exact (RepT.sl m).at (off := 1067) 7 0 rfl rfl (by simp) (by decide)
theorem RepT.set_vote (m : RepT) {o : Nat} (ho : o = 1067) (x : Value) : (RepT.cells m).set o (x) = RepT.cells ({ m with vote := x } : RepT) := by subst ho; rw [RepT.eq]; refine ((RepT.sl m).set (off := 1067) 7 0 _ rfl rfl (by simp) (by decide)).trans ?_; simp only [RepT.cells, List.set_cons_succ, List.set_cons_zero]
theorem RepT.around_book (m : RepT) : ∃ A B, RepT.cells m = A ++ (ints m.book.flat ++ B) ∧ A.length = 1068 ∧ ∀ u' : BookT, RepT.cells ({ m with book := u' } : RepT) = A ++ (ints u'.flat ++ B) := by
 obtain ⟨A, B, h1, h2, h3⟩ := (RepT.sl m).around (off := 1068) 8 rfl rfl (by simp)
 exact ⟨A, B, by rw [RepT.eq]; exact h1, h2, fun u' => by rw [← h3]; simp only [RepT.cells, List.set_cons_succ, List.set_cons_zero]⟩
theorem RepT.arnd_book (m : RepT) : Arnd (fun u : BookT => RepT.cells ({ m with book := u } : RepT)) (fun u => ints u.flat) 1068 := by
 obtain ⟨A, B, _, h2, h3⟩ := RepT.around_book m
 exact ⟨A, B, h2, h3⟩
theorem RepT.at_busy (m : RepT) {o : Nat} (ho : o = 1938) : (RepT.cells m)[o]? = some (Value.bool m.busy) := by subst ho; rw [RepT.eq]; exact (RepT.sl m).at (off := 1938) 9 0 rfl rfl (by simp) (by decide)
theorem RepT.set_busy (m : RepT) {o : Nat} (ho : o = 1938) (x : Bool) : (RepT.cells m).set o (Value.bool x) = RepT.cells ({ m with busy := x } : RepT) := by subst ho; rw [RepT.eq]; refine ((RepT.sl m).set (off := 1938) 9 0 _ rfl rfl (by simp) (by decide)).trans ?_; simp only [RepT.cells, List.set_cons_succ, List.set_cons_zero]
theorem RepT.at_kept (m : RepT) {o : Nat} (ho : o = 1939) : (RepT.cells m)[o]? = some (Value.int .i64 m.kept) := by subst ho; rw [RepT.eq]; exact (RepT.sl m).at (off := 1939) 10 0 rfl rfl (by simp) (by decide)
theorem RepT.set_kept (m : RepT) {o : Nat} (ho : o = 1939) (x : Int) : (RepT.cells m).set o (Value.int .i64 x) = RepT.cells ({ m with kept := x } : RepT) := by subst ho; rw [RepT.eq]; refine ((RepT.sl m).set (off := 1939) 10 0 _ rfl rfl (by simp) (by decide)).trans ?_; simp only [RepT.cells, List.set_cons_succ, List.set_cons_zero]
theorem RepT.at_waits (m : RepT) {o : Nat} (ho : o = 1940) : (RepT.cells m)[o]? = some (Value.int .i64 m.waits) := by subst ho; rw [RepT.eq]; exact (RepT.sl m).at (off := 1940) 11 0 rfl rfl (by simp) (by decide)
theorem RepT.set_waits (m : RepT) {o : Nat} (ho : o = 1940) (x : Int) : (RepT.cells m).set o (Value.int .i64 x) = RepT.cells ({ m with waits := x } : RepT) := by subst ho; rw [RepT.eq]; refine ((RepT.sl m).set (off := 1940) 11 0 _ rfl rfl (by simp) (by decide)).trans ?_; simp only [RepT.cells, List.set_cons_succ, List.set_cons_zero]
theorem RepT.at_ops (m : RepT) {o : Nat} (ho : o = 1941) : (RepT.cells m)[o]? = some (Value.int .i64 m.ops) := by subst ho; rw [RepT.eq]; exact (RepT.sl m).at (off := 1941) 12 0 rfl rfl (by simp) (by decide)
theorem RepT.set_ops (m : RepT) {o : Nat} (ho : o = 1941) (x : Int) : (RepT.cells m).set o (Value.int .i64 x) = RepT.cells ({ m with ops := x } : RepT) := by subst ho; rw [RepT.eq]; refine ((RepT.sl m).set (off := 1941) 12 0 _ rfl rfl (by simp) (by decide)).trans ?_; simp only [RepT.cells, List.set_cons_succ, List.set_cons_zero]
theorem RepT.at_replies (m : RepT) {o : Nat} (ho : o = 1942) : (RepT.cells m)[o]? = some (m.replies) := by subst ho; rw [RepT.eq]; exact (RepT.sl m).at (off := 1942) 13 0 rfl rfl (by simp) (by decide)
theorem RepT.set_replies (m : RepT) {o : Nat} (ho : o = 1942) (x : Value) : (RepT.cells m).set o (x) = RepT.cells ({ m with replies := x } : RepT) := by subst ho; rw [RepT.eq]; refine ((RepT.sl m).set (off := 1942) 13 0 _ rfl rfl (by simp) (by decide)).trans ?_; simp only [RepT.cells, List.set_cons_succ, List.set_cons_zero]
end Api
end

section
namespace Api
open Go Leg Codec
def w64 (n : Int) : Int := IntKind.i64.wrap n
def keyB (key : Int) : Bool := decide (0 ≤ key ∧ key < 4)
theorem mach_lt {w : Int} (h : machB w = true) : w.toNat < 5 := by have : 0 ≤ w ∧ w < 5 := of_decide_eq_true h; omega
theorem key_lt {k : Int} (h : keyB k = true) : k.toNat < 4 := by have : 0 ≤ k ∧ k < 4 := of_decide_eq_true h; omega
def askB (key n : Int) : Bool := keyB key && decide (1 ≤ n) && okN n
def cellAt (x : RowT) (key : Int) : CellT := if h : keyB key = true then x.cells[key.toNat]'(key_lt h) else .zero
def putCell (x : RowT) (key : Int) (c : CellT) : RowT := if h : keyB key = true then { x with cells := x.cells.set key.toNat c (key_lt h) } else x
def moreR (x : RowT) (key n counts : Int) (c : CellT) : RowT × Int :=
 if counts > 1099511627776 - n then (.zero, 6) else ({ putCell x key c with version := w64 (x.version + 1) }, 0)
def rowInc (x : RowT) (key n : Int) : RowT × Int :=
 if askB key n then moreR x key n (cellAt x key).inn { cellAt x key with inn := w64 ((cellAt x key).inn + n) } else (.zero, 5)
def rowDec (x : RowT) (key n : Int) : RowT × Int :=
 if askB key n then moreR x key n (cellAt x key).out { cellAt x key with out := w64 ((cellAt x key).out + n) } else (.zero, 5)
def givenOf (c : CellT) (to : Int) : Int := if h : machB to = true then c.given[to.toNat]'(mach_lt h) else 0
def giveTo (c : CellT) (to v : Int) : CellT := if h : machB to = true then { c with given := c.given.set to.toNat v (mach_lt h) } else c
def sumG (c : CellT) : Int := c.given.toList.foldl (fun s g => w64 (s + g)) 0
def rowGive (x : RowT) (key n to : Int) : RowT × Int :=
 if machB to && askB key n then moreR x key n (sumG (cellAt x key)) (giveTo (cellAt x key) to (w64 (givenOf (cellAt x key) to + n))) else (.zero, 5)
def ownAt (x : RowT) (who : Int) (i : Nat) : Bool := decide ((i : Int) = who) || decide (0 < x.heir.toList.getD i 0)
def ownTo (x : RowT) (who : Int) (k : Nat) : List Int := ((List.range k).filter (ownAt x who)).map fun i => ((i : Nat) : Int)
def rowOwn (x : RowT) (who : Int) : List Int := ownTo x who 5
theorem ownTo_succ (x : RowT) (who : Int) (k : Nat) : ownTo x who (k + 1) = ownTo x who k ++ (if ownAt x who k then [((k : Nat) : Int)] else []) := by
 unfold ownTo
 rw [List.range_succ, List.filter_append, List.map_append]
 by_cases h : ownAt x who k = true <;> simp [h]
theorem ownAt_eq (x : RowT) (who : Int) {i : Nat} (h : i < 5) : ownAt x who i = (decide ((i : Int) = who) || decide (0 < x.heir[i])) := by simp [ownAt, h]
theorem ownTo_len (x : RowT) (who : Int) (k : Nat) : (ownTo x who k).length ≤ k := by
 unfold ownTo
 rw [List.length_map]
 exact Nat.le_trans (List.length_filter_le _ _) (by simp)
def heirAt (x : RowT) (of' : Int) : Int := if h : machB of' = true then x.heir[of'.toNat]'(mach_lt h) else 0
def leftAt (x : RowT) (of' key : Int) : CellT := if h : machB of' = true ∧ keyB key = true then (x.left[of'.toNat]'(mach_lt h.1))[key.toNat]'(key_lt h.2) else .zero
def rowCell (x : RowT) (who of' key : Int) : CellT × Int :=
 if machB who && machB of' && keyB key then (if of' = who then (cellAt x key, x.version) else if heirAt x of' > 0 then (leftAt x of' key, w64 (heirAt x of' - 1)) else (.zero, -1)) else (.zero, -1)
def witL (who : Int) : List Int := if machB who then [(who + 1) % 5, (who + 2) % 5] else []
def bookRow (b : BookT) (who : Int) : RowT := if h : machB who = true then b.rows[who.toNat]'(mach_lt h) else .zero
theorem bookRow_at (b : BookT) {k : Nat} (h : k < 5) : bookRow b ((k : Nat) : Int) = b.rows[k] := by rw [bookRow, dif_pos (show machB ((k : Nat) : Int) = true from decide_eq_true ⟨by omega, by omega⟩)]; rfl
def putRow (b : BookT) (who : Int) (x : RowT) : BookT := if h : machB who = true then { b with rows := b.rows.set who.toNat x (mach_lt h) } else b
def bookMerge (b : BookT) (who : Int) (x : RowT) : BookT × Bool :=
 if machB who && rightR x && decide (x.version > (bookRow b who).version) then (putRow b who x, true) else (b, false)
def bookStep (b : BookT) (of' key : Int) (s : CellT × Int) (i : Nat) : CellT × Int :=
 let c := rowCell (bookRow b i) i of' key
 if c.2 > s.2 then c else s
def bookTo (b : BookT) (of' key : Int) (k : Nat) : CellT × Int := (List.range k).foldl (bookStep b of' key) (.zero, -1)
def bookCell (b : BookT) (of' key : Int) : CellT := (bookTo b of' key 5).1
theorem bookTo_succ (b : BookT) (of' key : Int) (k : Nat) : bookTo b of' key (k + 1) = bookStep b of' key (bookTo b of' key k) k := by
 unfold bookTo; rw [List.range_succ, List.foldl_append]; rfl
def valueTo (b : BookT) (key : Int) (k : Nat) : Int := (List.range k).foldl (fun v (i : Nat) => w64 (v + w64 ((bookCell b i key).inn - (bookCell b i key).out))) 0
def bookValue (b : BookT) (key : Int) : Int := valueTo b key 5
theorem valueTo_succ (b : BookT) (key : Int) (k : Nat) : valueTo b key (k + 1) = w64 (valueTo b key k + w64 ((bookCell b k key).inn - (bookCell b k key).out)) := by
 unfold valueTo; rw [List.range_succ, List.foldl_append]; rfl
def rightsIn (b : BookT) (key of' : Int) (r : Int) (k : Nat) : Int := (List.range k).foldl (fun r (i : Nat) => w64 (r + w64 (givenOf (bookCell b i key) of' - givenOf (bookCell b of' key) i))) r
theorem rightsIn_succ (b : BookT) (key of' r : Int) (k : Nat) : rightsIn b key of' r (k + 1) = w64 (rightsIn b key of' r k + w64 (givenOf (bookCell b k key) of' - givenOf (bookCell b of' key) k)) := by
 unfold rightsIn; rw [List.range_succ, List.foldl_append]; rfl
def rightsStep (b : BookT) (key r of' : Int) : Int := rightsIn b key of' (w64 (r + w64 ((bookCell b of' key).inn - (bookCell b of' key).out))) 5
def bookRights (b : BookT) (who key : Int) : Int := if machB who then (rowOwn (bookRow b who) who).foldl (rightsStep b key) 0 else 0
theorem rowOwn_mem (x : RowT) (who : Int) : ∀ n ∈ rowOwn x who, 0 ≤ n ∧ n < 5 := by
 intro n hn
 simp only [rowOwn, ownTo, List.mem_map, List.mem_filter, List.mem_range] at hn
 obtain ⟨i, ⟨hi, _⟩, rfl⟩ := hn
 omega
theorem givenOf_at (c : CellT) {k : Nat} (h : k < 5) : givenOf c ((k : Nat) : Int) = c.given[k] := by rw [givenOf, dif_pos (show machB ((k : Nat) : Int) = true from decide_eq_true ⟨by omega, by omega⟩)]; rfl
def mirRow (m : MirT) (who : Int) : RowT := if h : machB who = true then m.rows[who.toNat]'(mach_lt h) else .zero
def mirSealed (m : MirT) (who : Int) : Bool := if h : machB who = true then m.sealed[who.toNat]'(mach_lt h) else false
def mirTakes (m : MirT) (who : Int) (x : RowT) : Bool := machB who && !mirSealed m who && rightR x && decide (x.version > (mirRow m who).version)
def mirPut (m : MirT) (who : Int) (x : RowT) : MirT := if h : machB who = true then { m with rows := m.rows.set who.toNat x (mach_lt h) } else m
def mirKeep (m : MirT) (who : Int) (x : RowT) : MirT × Bool := if mirTakes m who x then (mirPut m who x, true) else (m, false)
end Api
end

section
namespace Go.Proofs.YtohmkchalilodaaGreatDoor
open Go Leg Codec Api
theorem sz75 : (Tryz.prog.info? 75).map (·.size) = some 870 := by kernel_rfl
theorem sz77 : (Tryz.prog.info? 77).map (·.size) = some 870 := by kernel_rfl
theorem sz88 : (Tryz.prog.info? 88).map (·.size) = some 875 := by kernel_rfl
theorem nm150 : Named Tryz.prog 150 := ⟨Tryz.f150, Tryz.func150, by kernel_rfl, by kernel_rfl⟩
theorem nm173 : Named Tryz.prog 173 := ⟨Tryz.f173, Tryz.func173, by kernel_rfl, by kernel_rfl⟩
theorem rowMachine_does (w : Int) :
 Leg.Does Tryz.prog 124 #[(.int .i64 (w))] (fun _ => True) [] (Ret (fun r' H => r' = .bool (machB w) ∧ H = [])) := by
 refine Leg.Does.body (n := 9) Tryz.func124 rfl rfl rfl (fun w0 F hF => sr fun _ J1 => PS ?_)
 refine nx J1 (sr fun _ J2 => PS ?_)
 refine PS ?_
 refine TL.dec (fun h4 => ?_) (fun h4 => ?_)
 iterate 5 refine PS ?_
 refine nx J2 (TC.ret (TE.ret1 rfl rfl ?_))
 exact ⟨congrArg Value.bool (by unfold machB; first | (rw [decide_eq_decide]; omega) | (symm; rw [decide_eq_false_iff_not]; omega) | (symm; rw [decide_eq_true_iff]; omega)), rfl⟩
 refine PS ?_
 refine UF ?_
 refine UF ?_
 refine PS ?_
 refine PS ?_
 refine nx J2 (TC.ret (TE.ret1 rfl rfl ?_))
 exact ⟨congrArg Value.bool (by unfold machB; first | (rw [decide_eq_decide]; omega) | (symm; rw [decide_eq_false_iff_not]; omega) | (symm; rw [decide_eq_true_iff]; omega)), rfl⟩
theorem bookMachine_does (w : Int) :
 Leg.Does Tryz.prog 77 #[(.int .i64 (w))] (fun _ => True) [] (Ret (fun r' H => r' = .bool (machB w) ∧ H = [])) := by
 refine Leg.Does.body (n := 9) Tryz.func77 rfl rfl rfl (fun w0 F hF => sr fun _ J1 => PS ?_)
 refine nx J1 (sr fun _ J2 => PS ?_)
 refine PS ?_
 refine TL.dec (fun h4 => ?_) (fun h4 => ?_)
 iterate 5 refine PS ?_
 refine nx J2 (TC.ret (TE.ret1 rfl rfl ?_))
 exact ⟨congrArg Value.bool (by unfold machB; first | (rw [decide_eq_decide]; omega) | (symm; rw [decide_eq_false_iff_not]; omega) | (symm; rw [decide_eq_true_iff]; omega)), rfl⟩
 refine PS ?_
 refine UF ?_
 refine UF ?_
 refine PS ?_
 refine PS ?_
 refine nx J2 (TC.ret (TE.ret1 rfl rfl ?_))
 exact ⟨congrArg Value.bool (by unfold machB; first | (rw [decide_eq_decide]; omega) | (symm; rw [decide_eq_false_iff_not]; omega) | (symm; rw [decide_eq_true_iff]; omega)), rfl⟩
theorem mirrorMachine_does (w : Int) :
 Leg.Does Tryz.prog 122 #[(.int .i64 (w))] (fun _ => True) [] (Ret (fun r' H => r' = .bool (machB w) ∧ H = [])) := by
 refine Leg.Does.body (n := 9) Tryz.func122 rfl rfl rfl (fun w0 F hF => sr fun _ J1 => PS ?_)
 refine nx J1 (sr fun _ J2 => PS ?_)
 refine PS ?_
 refine TL.dec (fun h4 => ?_) (fun h4 => ?_)
 iterate 5 refine PS ?_
 refine nx J2 (TC.ret (TE.ret1 rfl rfl ?_))
 exact ⟨congrArg Value.bool (by unfold machB; first | (rw [decide_eq_decide]; omega) | (symm; rw [decide_eq_false_iff_not]; omega) | (symm; rw [decide_eq_true_iff]; omega)), rfl⟩
 refine PS ?_
 refine UF ?_
 refine UF ?_
 refine PS ?_
 refine PS ?_
 refine nx J2 (TC.ret (TE.ret1 rfl rfl ?_))
 exact ⟨congrArg Value.bool (by unfold machB; first | (rw [decide_eq_decide]; omega) | (symm; rw [decide_eq_false_iff_not]; omega) | (symm; rw [decide_eq_true_iff]; omega)), rfl⟩
theorem asked_does (key n : Int) :
 Leg.Does Tryz.prog 142 #[(.int .i64 (key)), (.int .i64 (n))] (fun _ => True) [] (Ret (fun r' H => r' = .bool (askB key n) ∧ H = [])) := by
 refine Leg.Does.body (n := 19) Tryz.func142 rfl rfl rfl (fun w0 F hF => sr fun _ J1 => PS ?_)
 refine nx J1 ?_
 clear J1
 refine sr fun _ J2 => PS ?_
 refine PS ?_
 refine TL.dec (fun h6 => ?_) (fun h6 => ?_)
 iterate 3 refine PS ?_
 refine TL.dec (fun h9 => ?_) (fun h9 => ?_)
 iterate 4 refine PS ?_
 refine TL.dec (fun h13 => ?_) (fun h13 => ?_)
 iterate 3 refine PS ?_
 refine CE nm158 (numRight_does n) (fun _ s => s) ?_
 refine PS ?_
 refine PS ?_
 refine nx J2 ?_
 clear J2
 refine TC.ret (WK [] (TE.ret1 rfl rfl ?_))
 exact ⟨congrArg Value.bool (by simp [askB, keyB, *]), rfl⟩
 refine PS ?_
 refine PS ?_
 refine UF ?_
 refine UF ?_
 refine PS ?_
 refine PS ?_
 refine nx J2 ?_
 clear J2
 refine TC.ret (WK [] (TE.ret1 rfl rfl ?_))
 exact ⟨congrArg Value.bool (by simp [askB, keyB, *]), rfl⟩
 refine PS ?_
 refine PS ?_
 refine UF ?_
 refine UF ?_
 refine PS ?_
 refine PS ?_
 refine UF ?_
 refine UF ?_
 refine PS ?_
 refine PS ?_
 refine nx J2 ?_
 clear J2
 refine TC.ret (WK [] (TE.ret1 rfl rfl ?_))
 exact ⟨congrArg Value.bool (by simp [askB, keyB, *]), rfl⟩
 refine PS ?_
 refine UF ?_
 refine UF ?_
 refine PS ?_
 refine PS ?_
 refine UF ?_
 refine UF ?_
 refine PS ?_
 refine PS ?_
 refine UF ?_
 refine UF ?_
 refine PS ?_
 refine PS ?_
 refine nx J2 ?_
 clear J2
 refine TC.ret (WK [] (TE.ret1 rfl rfl ?_))
 exact ⟨congrArg Value.bool (by simp [askB, keyB, *]), rfl⟩
theorem inc1_does (b off T : Nat) (cs : List Value) (n : Int) (h : cs[off]? = some (.int .i64 n)) :
 Leg.Does Tryz.prog 144 #[(.pointer (some ⟨b, off, none⟩))] (fun _ => True) [blkA b (cs) T] (Ret (fun r' H => r' = .tuple #[.int .i64 n, .pointer (some ⟨b, off, none⟩)] ∧ H = [blkA b cs T])) := by
 refine Leg.Does.body (n := 11) Tryz.func144 rfl rfl rfl (fun w0 F hF => sr fun _ J1 => PS ?_)
 refine PS ?_
 refine nx J1 (TC.seq fun _ J2 => D1 0 mixed ?_)
 refine PD 0 ?_
 refine PD 1 ?_
 refine ta 2 rfl (PV.fieldAddr (r := off) rfl Y70 rfl sz3 rfl rfl) ?_
 refine ta 3 rfl (PV.load1 (v := (.int .i64 (n))) rfl Y3 rfl rfl (fun _ h => h.2.1) h) ?_
 refine PD 4 ?_
 refine PD 5 ?_
 refine ta 6 rfl (PV.fieldAddr (r := off) rfl Y70 rfl sz3 rfl rfl) ?_
 refine PD 7 ?_
 refine PD 8 ?_
 exact DN (TE.next J2 (TC.ret (WK [0] (TE.ret2 rfl rfl rfl ⟨rfl, rfl⟩))))
theorem dec1_does (b off T : Nat) (cs : List Value) (n : Int) (h : cs[off + 1]? = some (.int .i64 n)) :
 Leg.Does Tryz.prog 145 #[(.pointer (some ⟨b, off, none⟩))] (fun _ => True) [blkA b (cs) T] (Ret (fun r' H => r' = .tuple #[.int .i64 n, .pointer (some ⟨b, off + 1, none⟩)] ∧ H = [blkA b cs T])) := by
 refine Leg.Does.body (n := 11) Tryz.func145 rfl rfl rfl (fun w0 F hF => sr fun _ J1 => PS ?_)
 refine PS ?_
 refine nx J1 (TC.seq fun _ J2 => D1 0 mixed ?_)
 refine PD 0 ?_
 refine PD 1 ?_
 refine ta 2 rfl (PV.fieldAddr (r := off + 1) rfl Y70 rfl sz3 rfl rfl) ?_
 refine ta 3 rfl (PV.load1 (v := (.int .i64 (n))) rfl Y3 rfl rfl (fun _ h => h.2.1) h) ?_
 refine PD 4 ?_
 refine PD 5 ?_
 refine ta 6 rfl (PV.fieldAddr (r := off + 1) rfl Y70 rfl sz3 rfl rfl) ?_
 refine PD 7 ?_
 refine PD 8 ?_
 exact DN (TE.next J2 (TC.ret (WK [0] (TE.ret2 rfl rfl rfl ⟨rfl, rfl⟩))))
theorem give1_does (b off T tb : Nat) (cs : List Value) (g : Vector Int 5) (to' : Int) (ht : 0 ≤ to' ∧ to' < 5) (h : (cs.drop (off + 2)).take 5 = ints g.toList) :
 Leg.Does Tryz.prog 146 #[(.pointer (some ⟨b, off, none⟩)), (.pointer (some ⟨tb, 0, none⟩))] (fun _ => True) [blkA b (cs) T, blkA tb [(.int .i64 (to'))] 3] (Ret (fun r' H => r' = .tuple #[.int .i64 (g.toList.foldl (fun s g => w64 (s + g)) 0), .pointer (some ⟨b, off + 2 + to'.toNat, none⟩)] ∧ H = [blkA b cs T, blkA tb [.int .i64 to'] 3])) := by
 refine Leg.Does.body (n := 25) Tryz.func146 rfl rfl rfl (fun w0 F hF => sr fun _ J1 => PS ?_)
 refine PS ?_
 refine nx J1 (sr fun _ J2 => PS ?_)
 refine nx J2 (TC.seq fun _ J3 => sr fun _ J4 => PS ?_)
 refine PS ?_
 refine tp (PV.fieldAddr (r := off + 2) rfl Y70 rfl sz68 rfl rfl) ?_
 refine tp (PV.loadN (vs := ints g.toList) rfl Y68 rfl sz68 rfl (RO 0) (vi5_len g) h) ?_
 refine PS ?_
 refine nx J4 (TC.block ?_)
 refine TC.loop (α := (Nat) × (Int)) (fun ⟨k, s⟩ => k ≤ 5 ∧ s = (g.toList.take k).foldl (fun s g => w64 (s + g)) 0) (fun ⟨k, s⟩ => [(0, (.pointer (some ⟨b, off, none⟩))), (1, (.pointer (some ⟨tb, 0, none⟩))), (3, (.int .i64 0)), (4, (.pointer none)), (5, (.int .i64 (s))), (11, (.agg (ints g.toList).toArray)), (12, (.int .i64 (((k : Nat) : Int))))]) (fun ⟨k, s⟩ => [blkA b (cs) T, blkA tb [(.int .i64 (to'))] 3]) (fun ⟨k, s⟩ => 5 - k) (0, 0)
  ⟨Nat.zero_le _, rfl⟩ SB
  (fun _ s => s) (fun ⟨k, s⟩ hinv => ?_)
 obtain ⟨hk, hs⟩ := hinv
 refine sr fun _ J5 => PS ?_
 refine TL.dec (fun h13 => ?_) (fun h13 => ?_)
 refine nx J5 (TC.seq fun _ J6 => CY (CX J6 (TC.seq fun _ J7 => TC.block (sr fun _ J8 => tp (PV.index1 (cs := ints g.toList) (v := Value.int .i64 (g[k]'(by omega))) (r := k) rfl Y68 Y3 rfl sz3 rfl rfl (by omega) (by omega) (by omega) (vi_at g (by omega))) ?_))))
 refine PS ?_
 refine nx J8 (TC.region (PS ?_))
 refine PS ?_
 refine tp (PV.add (r := (w64 (s + (g[k]'(by omega))))) rfl rfl rfl rfl) ?_
 refine PS ?_
 refine TL.nil (TE.blockEnd (TE.next J7 (TC.region (AD ?_))))
 refine PS ?_
 refine TL.nil ?_
 exact TE.round ((k + 1, (w64 (s + (g[k]'(by omega))))) : (Nat) × (Int)) ⟨by omega, by rw [List.take_succ_eq_append_getElem (by simp; omega), List.foldl_append, ← hs]; simp⟩ (by show 5 - (k + 1) < 5 - k; omega)
  SB
  (fun _ s => s)
 refine nx J5 (TC.seq fun _ J9 => CN (TC.exit (TE.pass (TE.pass (TE.hit (TE.next J3 (TC.seq fun _ J10 => D1 1 mixed ?_)))))))
 refine PD 0 ?_
 refine PD 1 ?_
 refine ta 2 rfl (PV.load1 (v := (.int .i64 (to'))) rfl Y3 rfl rfl (fun _ h => h.2.1) rfl) ?_
 refine PD 3 ?_
 refine ta 4 rfl (PV.fieldAddr (r := off + 2) rfl Y70 rfl sz68 rfl rfl) ?_
 refine ta 5 rfl (PV.indexArr (r := off + 2 + (to').toNat) rfl Y68 sz3 rfl rfl (by omega) (by omega) (by omega)) ?_
 refine PD 6 ?_
 refine PD 7 ?_
 refine DN (TE.next J10 (TC.ret (WK [0, 0] (TE.ret2 rfl rfl rfl ?_))))
 exact ⟨by rw [hs, List.take_of_length_le (by simp; omega)], rfl⟩
theorem moreInc_does (x : RowT) (key n : Int) (hk : 0 ≤ key ∧ key < 4) (hn : 1 ≤ n ∧ n ≤ 1099511627776) :
 Leg.Does Tryz.prog 143 #[(.agg (ints x.flat).toArray), (.int .i64 (key)), (.int .i64 (n)), (.func (.func 144) #[] #[])] (fun _ => True) [] (Ret (fun r' H => r' = .tuple #[.agg (ints (moreR x key n (cellAt x key).inn { cellAt x key with inn := w64 ((cellAt x key).inn + n) }).1.flat).toArray, .int .i64 (moreR x key n (cellAt x key).inn { cellAt x key with inn := w64 ((cellAt x key).inn + n) }).2] ∧ H = [])) := by
 refine Leg.Does.body (vs := [(.agg (ints x.flat).toArray), (.int .i64 (key)), (.int .i64 (n)), (.func (.func 144) #[] #[])]) (n := 36) Tryz.func143 rfl rfl rfl (fun w0 F hF => ?_)
 have hkb : keyB key = true := decide_eq_true hk
 have hcell : cellAt x key = x.cells[key.toNat]'(by omega) := by rw [cellAt, dif_pos hkb]
 refine sr fun _ J1 => ?_
 refine TL.box (Want.plain rfl) rfl rfl rfl rfl (fun b4 => ?_)
 change TL _ _ _ _ _ _ _ _ _ [blkA b4 (ints x.flat) 74]
 refine TL.alloc (Want.plain rfl) rfl rfl rfl z74 (fun b8 => ?_)
 change TL _ _ _ _ _ _ _ _ _ [blkA b8 (ints RowT.zero.flat) 74, blkA b4 (ints x.flat) 74]
 refine sg' ?_
 refine nx J1 ?_
 refine sr fun _ J2 => ?_
 refine mv ?_
 refine mv ?_
 refine tp (PV.fieldAddr (r := 1) rfl Y74 rfl sz71 rfl rfl) ?_
 refine tp (PV.indexArr (r := 1 + key.toNat * 7) rfl Y71 sz70 rfl rfl (by omega) (by omega) (by omega)) ?_
 refine TL.callRv (Want.plain rfl) rfl rfl rfl rfl nm144 rfl (inc1_does b4 (1 + key.toNat * 7) 74 (ints x.flat) x.cells[key.toNat].inn (RowT.pt_cells x (key.toNat * 7) (by omega) (by omega) (vs_pt CellT.flat_length x.cells (i := key.toNat) 0 (by omega) (by omega) (by decide) (CellT.at_inn (x.cells[key.toNat]'(by omega)) rfl)))) (fun _ s => sep_selR [1] rfl s) (fun _ _ _ => trivial) (fun vR HR hR => ?_)
 obtain ⟨rfl, rfl⟩ := hR
 refine mv ?_
 refine tp (PV.extract (vs := [(.int .i64 ((x.cells[key.toNat]'(by omega)).inn)), (.pointer (some ⟨b4, 1 + key.toNat * 7, none⟩))]) rfl rfl rfl) ?_
 refine tp (PV.extract (vs := [(.int .i64 ((x.cells[key.toNat]'(by omega)).inn)), (.pointer (some ⟨b4, 1 + key.toNat * 7, none⟩))]) rfl rfl rfl) ?_
 refine sg' ?_
 refine sg' ?_
 refine nx J2 ?_
 refine TC.seq fun _ J3 => ?_
 refine sr fun _ J4 => ?_
 refine mv ?_
 refine mv ?_
 refine tp (PV.sub (r := (1099511627776 - n)) rfl rfl rfl (wrap_i64 (by omega) (by omega))) ?_
 refine tp (PV.gtr rfl rfl rfl) ?_
 refine TL.dec (fun h23 => ?_) (fun h23 => ?_)
 refine nx J4 ?_
 refine TC.yes rfl ?_
 refine sr fun _ J5 => ?_
 refine tp (PV.build (cells := (ints RowT.zero.flat).toArray) rfl rfl (by as_aux_lemma => kernel_rfl)) ?_
 refine TL.store (vs := ints RowT.zero.flat) (i := 1) (Want.plain rfl) rfl rfl rfl rfl rfl (by rw [(RowT.len RowT.zero)]; exact sz74) (ints_one _) rfl rfl (by have h0 := (RowT.len RowT.zero); have h1 := (RowT.len RowT.zero); omega) (wwhole ((RowT.len RowT.zero).trans (RowT.len RowT.zero).symm)) rfl ?_
 refine sg' ?_
 refine nx J5 ?_
 refine TC.ret ?_
 refine TE.passRet ?_
 refine TE.retCT (H' := []) rfl rfl rfl Y74 rfl sz74 (Rd.own 1 rfl rfl) (RowT.len RowT.zero) (fun _ s => sep_keep [] rfl s) ?_
 exact ⟨by rw [moreR, hcell, if_pos h23], rfl⟩
 refine nx J4 ?_
 refine TC.no rfl ?_
 refine TC.skip ?_
 refine TE.next J3 ?_
 refine sr fun _ J6 => ?_
 refine mv ?_
 refine tp (PV.nilCheck rfl rfl) ?_
 refine tp (PV.load1 (v := (.int .i64 ((x.cells[key.toNat]'(by omega)).inn))) rfl Y3 rfl rfl (Rd.own 0 rfl rfl) (RowT.pt_cells x (key.toNat * 7) (by omega) (by omega) (vs_pt CellT.flat_length x.cells (i := key.toNat) 0 (by omega) (by omega) (by decide) (CellT.at_inn (x.cells[key.toNat]'(by omega)) rfl)))) ?_
 refine mv ?_
 refine tp (PV.add (r := (w64 (((x.cells[key.toNat]'(by omega)).inn) + n))) rfl rfl rfl rfl) ?_
 refine tp (PV.nilCheck rfl rfl) ?_
 refine TL.store1 (i := 0) (Want.plain rfl) rfl rfl rfl rfl rfl sz3 rfl rfl (by have h0 := (RowT.len x); omega) (RowT.st_cells x (key.toNat * 7) (by omega) (by omega) (vs_st CellT.flat_length x.cells (i := key.toNat) 0 (by omega) (by omega) (by decide) (CellT.set_inn (x.cells[key.toNat]'(by omega)) rfl _))) rfl ?_
 refine nx J6 ?_
 refine sr fun _ J7 => ?_
 refine tp (PV.fieldAddr (r := 0) rfl Y74 rfl sz3 rfl rfl) ?_
 refine tp (PV.load1 (v := (.int .i64 (x.version))) rfl Y3 rfl rfl (Rd.own 0 rfl rfl) (RowT.at_version (RowT.mk x.version (x.cells.set key.toNat (CellT.mk (w64 (((x.cells[key.toNat]'(by omega)).inn) + n)) ((x.cells[key.toNat]'(by omega)).out) ((x.cells[key.toNat]'(by omega)).given)) (by omega)) x.heir x.left) rfl)) ?_
 refine tp (PV.add (r := (w64 (x.version + 1))) rfl rfl rfl rfl) ?_
 refine tp (PV.fieldAddr (r := 0) rfl Y74 rfl sz3 rfl rfl) ?_
 refine TL.store1 (i := 0) (Want.plain rfl) rfl rfl rfl rfl rfl sz3 rfl rfl (by have h0 := (RowT.len (RowT.mk x.version (x.cells.set key.toNat (CellT.mk (w64 (((x.cells[key.toNat]'(by omega)).inn) + n)) ((x.cells[key.toNat]'(by omega)).out) ((x.cells[key.toNat]'(by omega)).given)) (by omega)) x.heir x.left)); omega) (RowT.set_version (RowT.mk x.version (x.cells.set key.toNat (CellT.mk (w64 (((x.cells[key.toNat]'(by omega)).inn) + n)) ((x.cells[key.toNat]'(by omega)).out) ((x.cells[key.toNat]'(by omega)).given)) (by omega)) x.heir x.left) rfl _) rfl ?_
 refine nx J7 ?_
 refine sr fun _ J8 => ?_
 refine tp (PV.loadN (vs := ints (RowT.mk (w64 (x.version + 1)) (x.cells.set key.toNat (CellT.mk (w64 (((x.cells[key.toNat]'(by omega)).inn) + n)) ((x.cells[key.toNat]'(by omega)).out) ((x.cells[key.toNat]'(by omega)).given)) (by omega)) x.heir x.left).flat) rfl Y74 rfl sz74 rfl (Rd.own 0 rfl rfl) (RowT.len (RowT.mk (w64 (x.version + 1)) (x.cells.set key.toNat (CellT.mk (w64 (((x.cells[key.toNat]'(by omega)).inn) + n)) ((x.cells[key.toNat]'(by omega)).out) ((x.cells[key.toNat]'(by omega)).given)) (by omega)) x.heir x.left)) (whole (RowT.len (RowT.mk (w64 (x.version + 1)) (x.cells.set key.toNat (CellT.mk (w64 (((x.cells[key.toNat]'(by omega)).inn) + n)) ((x.cells[key.toNat]'(by omega)).out) ((x.cells[key.toNat]'(by omega)).given)) (by omega)) x.heir x.left)))) ?_
 refine TL.store (vs := ints (RowT.mk (w64 (x.version + 1)) (x.cells.set key.toNat (CellT.mk (w64 (((x.cells[key.toNat]'(by omega)).inn) + n)) ((x.cells[key.toNat]'(by omega)).out) ((x.cells[key.toNat]'(by omega)).given)) (by omega)) x.heir x.left).flat) (i := 1) (Want.plain rfl) rfl rfl rfl rfl rfl (by rw [(RowT.len (RowT.mk (w64 (x.version + 1)) (x.cells.set key.toNat (CellT.mk (w64 (((x.cells[key.toNat]'(by omega)).inn) + n)) ((x.cells[key.toNat]'(by omega)).out) ((x.cells[key.toNat]'(by omega)).given)) (by omega)) x.heir x.left))]; exact sz74) (ints_one _) rfl rfl (by have h0 := (RowT.len RowT.zero); have h1 := (RowT.len (RowT.mk (w64 (x.version + 1)) (x.cells.set key.toNat (CellT.mk (w64 (((x.cells[key.toNat]'(by omega)).inn) + n)) ((x.cells[key.toNat]'(by omega)).out) ((x.cells[key.toNat]'(by omega)).given)) (by omega)) x.heir x.left)); omega) (wwhole ((RowT.len RowT.zero).trans (RowT.len (RowT.mk (w64 (x.version + 1)) (x.cells.set key.toNat (CellT.mk (w64 (((x.cells[key.toNat]'(by omega)).inn) + n)) ((x.cells[key.toNat]'(by omega)).out) ((x.cells[key.toNat]'(by omega)).given)) (by omega)) x.heir x.left)).symm)) rfl ?_
 refine sg' ?_
 refine nx J8 ?_
 refine TC.ret ?_
 refine TE.retCT (H' := []) rfl rfl rfl Y74 rfl sz74 (Rd.own 1 rfl rfl) (RowT.len (RowT.mk (w64 (x.version + 1)) (x.cells.set key.toNat (CellT.mk (w64 (((x.cells[key.toNat]'(by omega)).inn) + n)) ((x.cells[key.toNat]'(by omega)).out) ((x.cells[key.toNat]'(by omega)).given)) (by omega)) x.heir x.left)) (fun _ s => sep_keep [] rfl s) ?_
 refine ⟨?_, rfl⟩
 rw [moreR, hcell, if_neg h23, putCell, dif_pos hkb]
theorem moreDec_does (x : RowT) (key n : Int) (hk : 0 ≤ key ∧ key < 4) (hn : 1 ≤ n ∧ n ≤ 1099511627776) :
 Leg.Does Tryz.prog 143 #[(.agg (ints x.flat).toArray), (.int .i64 (key)), (.int .i64 (n)), (.func (.func 145) #[] #[])] (fun _ => True) [] (Ret (fun r' H => r' = .tuple #[.agg (ints (moreR x key n (cellAt x key).out { cellAt x key with out := w64 ((cellAt x key).out + n) }).1.flat).toArray, .int .i64 (moreR x key n (cellAt x key).out { cellAt x key with out := w64 ((cellAt x key).out + n) }).2] ∧ H = [])) := by
 refine Leg.Does.body (vs := [(.agg (ints x.flat).toArray), (.int .i64 (key)), (.int .i64 (n)), (.func (.func 145) #[] #[])]) (n := 36) Tryz.func143 rfl rfl rfl (fun w0 F hF => ?_)
 have hkb : keyB key = true := decide_eq_true hk
 have hcell : cellAt x key = x.cells[key.toNat]'(by omega) := by rw [cellAt, dif_pos hkb]
 refine sr fun _ J1 => ?_
 refine TL.box (Want.plain rfl) rfl rfl rfl rfl (fun b4 => ?_)
 change TL _ _ _ _ _ _ _ _ _ [blkA b4 (ints x.flat) 74]
 refine TL.alloc (Want.plain rfl) rfl rfl rfl z74 (fun b8 => ?_)
 change TL _ _ _ _ _ _ _ _ _ [blkA b8 (ints RowT.zero.flat) 74, blkA b4 (ints x.flat) 74]
 refine sg' ?_
 refine nx J1 ?_
 refine sr fun _ J2 => ?_
 refine mv ?_
 refine mv ?_
 refine tp (PV.fieldAddr (r := 1) rfl Y74 rfl sz71 rfl rfl) ?_
 refine tp (PV.indexArr (r := 1 + key.toNat * 7) rfl Y71 sz70 rfl rfl (by omega) (by omega) (by omega)) ?_
 refine TL.callRv (Want.plain rfl) rfl rfl rfl rfl nm145 rfl (dec1_does b4 (1 + key.toNat * 7) 74 (ints x.flat) x.cells[key.toNat].out (RowT.pt_cells x (key.toNat * 7 + 1) (by omega) (by omega) (vs_pt CellT.flat_length x.cells (i := key.toNat) 1 (by omega) (by omega) (by decide) (CellT.at_out (x.cells[key.toNat]'(by omega)) rfl)))) (fun _ s => sep_selR [1] rfl s) (fun _ _ _ => trivial) (fun vR HR hR => ?_)
 obtain ⟨rfl, rfl⟩ := hR
 refine mv ?_
 refine tp (PV.extract (vs := [(.int .i64 ((x.cells[key.toNat]'(by omega)).out)), (.pointer (some ⟨b4, 1 + key.toNat * 7 + 1, none⟩))]) rfl rfl rfl) ?_
 refine tp (PV.extract (vs := [(.int .i64 ((x.cells[key.toNat]'(by omega)).out)), (.pointer (some ⟨b4, 1 + key.toNat * 7 + 1, none⟩))]) rfl rfl rfl) ?_
 refine sg' ?_
 refine sg' ?_
 refine nx J2 ?_
 refine TC.seq fun _ J3 => ?_
 refine sr fun _ J4 => ?_
 refine mv ?_
 refine mv ?_
 refine tp (PV.sub (r := (1099511627776 - n)) rfl rfl rfl (wrap_i64 (by omega) (by omega))) ?_
 refine tp (PV.gtr rfl rfl rfl) ?_
 refine TL.dec (fun h23 => ?_) (fun h23 => ?_)
 refine nx J4 ?_
 refine TC.yes rfl ?_
 refine sr fun _ J5 => ?_
 refine tp (PV.build (cells := (ints RowT.zero.flat).toArray) rfl rfl (by as_aux_lemma => kernel_rfl)) ?_
 refine TL.store (vs := ints RowT.zero.flat) (i := 1) (Want.plain rfl) rfl rfl rfl rfl rfl (by rw [(RowT.len RowT.zero)]; exact sz74) (ints_one _) rfl rfl (by have h0 := (RowT.len RowT.zero); have h1 := (RowT.len RowT.zero); omega) (wwhole ((RowT.len RowT.zero).trans (RowT.len RowT.zero).symm)) rfl ?_
 refine sg' ?_
 refine nx J5 ?_
 refine TC.ret ?_
 refine TE.passRet ?_
 refine TE.retCT (H' := []) rfl rfl rfl Y74 rfl sz74 (Rd.own 1 rfl rfl) (RowT.len RowT.zero) (fun _ s => sep_keep [] rfl s) ?_
 exact ⟨by rw [moreR, hcell, if_pos h23], rfl⟩
 refine nx J4 ?_
 refine TC.no rfl ?_
 refine TC.skip ?_
 refine TE.next J3 ?_
 refine sr fun _ J6 => ?_
 refine mv ?_
 refine tp (PV.nilCheck rfl rfl) ?_
 refine tp (PV.load1 (v := (.int .i64 ((x.cells[key.toNat]'(by omega)).out))) rfl Y3 rfl rfl (Rd.own 0 rfl rfl) (RowT.pt_cells x (key.toNat * 7 + 1) (by omega) (by omega) (vs_pt CellT.flat_length x.cells (i := key.toNat) 1 (by omega) (by omega) (by decide) (CellT.at_out (x.cells[key.toNat]'(by omega)) rfl)))) ?_
 refine mv ?_
 refine tp (PV.add (r := (w64 (((x.cells[key.toNat]'(by omega)).out) + n))) rfl rfl rfl rfl) ?_
 refine tp (PV.nilCheck rfl rfl) ?_
 refine TL.store1 (i := 0) (Want.plain rfl) rfl rfl rfl rfl rfl sz3 rfl rfl (by have h0 := (RowT.len x); omega) (RowT.st_cells x (key.toNat * 7 + 1) (by omega) (by omega) (vs_st CellT.flat_length x.cells (i := key.toNat) 1 (by omega) (by omega) (by decide) (CellT.set_out (x.cells[key.toNat]'(by omega)) rfl _))) rfl ?_
 refine nx J6 ?_
 refine sr fun _ J7 => ?_
 refine tp (PV.fieldAddr (r := 0) rfl Y74 rfl sz3 rfl rfl) ?_
 refine tp (PV.load1 (v := (.int .i64 (x.version))) rfl Y3 rfl rfl (Rd.own 0 rfl rfl) (RowT.at_version (RowT.mk x.version (x.cells.set key.toNat (CellT.mk ((x.cells[key.toNat]'(by omega)).inn) (w64 (((x.cells[key.toNat]'(by omega)).out) + n)) ((x.cells[key.toNat]'(by omega)).given)) (by omega)) x.heir x.left) rfl)) ?_
 refine tp (PV.add (r := (w64 (x.version + 1))) rfl rfl rfl rfl) ?_
 refine tp (PV.fieldAddr (r := 0) rfl Y74 rfl sz3 rfl rfl) ?_
 refine TL.store1 (i := 0) (Want.plain rfl) rfl rfl rfl rfl rfl sz3 rfl rfl (by have h0 := (RowT.len (RowT.mk x.version (x.cells.set key.toNat (CellT.mk ((x.cells[key.toNat]'(by omega)).inn) (w64 (((x.cells[key.toNat]'(by omega)).out) + n)) ((x.cells[key.toNat]'(by omega)).given)) (by omega)) x.heir x.left)); omega) (RowT.set_version (RowT.mk x.version (x.cells.set key.toNat (CellT.mk ((x.cells[key.toNat]'(by omega)).inn) (w64 (((x.cells[key.toNat]'(by omega)).out) + n)) ((x.cells[key.toNat]'(by omega)).given)) (by omega)) x.heir x.left) rfl _) rfl ?_
 refine nx J7 ?_
 refine sr fun _ J8 => ?_
 refine tp (PV.loadN (vs := ints (RowT.mk (w64 (x.version + 1)) (x.cells.set key.toNat (CellT.mk ((x.cells[key.toNat]'(by omega)).inn) (w64 (((x.cells[key.toNat]'(by omega)).out) + n)) ((x.cells[key.toNat]'(by omega)).given)) (by omega)) x.heir x.left).flat) rfl Y74 rfl sz74 rfl (Rd.own 0 rfl rfl) (RowT.len (RowT.mk (w64 (x.version + 1)) (x.cells.set key.toNat (CellT.mk ((x.cells[key.toNat]'(by omega)).inn) (w64 (((x.cells[key.toNat]'(by omega)).out) + n)) ((x.cells[key.toNat]'(by omega)).given)) (by omega)) x.heir x.left)) (whole (RowT.len (RowT.mk (w64 (x.version + 1)) (x.cells.set key.toNat (CellT.mk ((x.cells[key.toNat]'(by omega)).inn) (w64 (((x.cells[key.toNat]'(by omega)).out) + n)) ((x.cells[key.toNat]'(by omega)).given)) (by omega)) x.heir x.left)))) ?_
 refine TL.store (vs := ints (RowT.mk (w64 (x.version + 1)) (x.cells.set key.toNat (CellT.mk ((x.cells[key.toNat]'(by omega)).inn) (w64 (((x.cells[key.toNat]'(by omega)).out) + n)) ((x.cells[key.toNat]'(by omega)).given)) (by omega)) x.heir x.left).flat) (i := 1) (Want.plain rfl) rfl rfl rfl rfl rfl (by rw [(RowT.len (RowT.mk (w64 (x.version + 1)) (x.cells.set key.toNat (CellT.mk ((x.cells[key.toNat]'(by omega)).inn) (w64 (((x.cells[key.toNat]'(by omega)).out) + n)) ((x.cells[key.toNat]'(by omega)).given)) (by omega)) x.heir x.left))]; exact sz74) (ints_one _) rfl rfl (by have h0 := (RowT.len RowT.zero); have h1 := (RowT.len (RowT.mk (w64 (x.version + 1)) (x.cells.set key.toNat (CellT.mk ((x.cells[key.toNat]'(by omega)).inn) (w64 (((x.cells[key.toNat]'(by omega)).out) + n)) ((x.cells[key.toNat]'(by omega)).given)) (by omega)) x.heir x.left)); omega) (wwhole ((RowT.len RowT.zero).trans (RowT.len (RowT.mk (w64 (x.version + 1)) (x.cells.set key.toNat (CellT.mk ((x.cells[key.toNat]'(by omega)).inn) (w64 (((x.cells[key.toNat]'(by omega)).out) + n)) ((x.cells[key.toNat]'(by omega)).given)) (by omega)) x.heir x.left)).symm)) rfl ?_
 refine sg' ?_
 refine nx J8 ?_
 refine TC.ret ?_
 refine TE.retCT (H' := []) rfl rfl rfl Y74 rfl sz74 (Rd.own 1 rfl rfl) (RowT.len (RowT.mk (w64 (x.version + 1)) (x.cells.set key.toNat (CellT.mk ((x.cells[key.toNat]'(by omega)).inn) (w64 (((x.cells[key.toNat]'(by omega)).out) + n)) ((x.cells[key.toNat]'(by omega)).given)) (by omega)) x.heir x.left)) (fun _ s => sep_keep [] rfl s) ?_
 refine ⟨?_, rfl⟩
 rw [moreR, hcell, if_neg h23, putCell, dif_pos hkb]
theorem moreGive_does (x : RowT) (key n : Int) (hk : 0 ≤ key ∧ key < 4) (hn : 1 ≤ n ∧ n ≤ 1099511627776) (tb : Nat) (to' : Int) (ht : 0 ≤ to' ∧ to' < 5) :
 Leg.Does Tryz.prog 143 #[(.agg (ints x.flat).toArray), (.int .i64 (key)), (.int .i64 (n)), (.func (.func 146) #[] #[(.pointer (some ⟨tb, 0, none⟩))])] (fun _ => True) [blkA tb [(.int .i64 (to'))] 3] (Ret (fun r' H => r' = .tuple #[.agg (ints (moreR x key n (sumG (cellAt x key)) (giveTo (cellAt x key) to' (w64 (givenOf (cellAt x key) to' + n)))).1.flat).toArray, .int .i64 (moreR x key n (sumG (cellAt x key)) (giveTo (cellAt x key) to' (w64 (givenOf (cellAt x key) to' + n)))).2] ∧ H = [blkA tb [.int .i64 to'] 3])) := by
 refine Leg.Does.body (vs := [(.agg (ints x.flat).toArray), (.int .i64 (key)), (.int .i64 (n)), (.func (.func 146) #[] #[(.pointer (some ⟨tb, 0, none⟩))])]) (n := 36) Tryz.func143 rfl rfl rfl (fun w0 F hF => ?_)
 have hkb : keyB key = true := decide_eq_true hk
 have hcell : cellAt x key = x.cells[key.toNat]'(by omega) := by rw [cellAt, dif_pos hkb]
 have htb : machB to' = true := decide_eq_true ht
 refine sr fun _ J1 => ?_
 refine TL.box (Want.plain rfl) rfl rfl rfl rfl (fun b4 => ?_)
 change TL _ _ _ _ _ _ _ _ _ [blkA b4 (ints x.flat) 74, blkA tb [(.int .i64 (to'))] 3]
 refine TL.alloc (Want.plain rfl) rfl rfl rfl z74 (fun b8 => ?_)
 change TL _ _ _ _ _ _ _ _ _ [blkA b8 (ints RowT.zero.flat) 74, blkA b4 (ints x.flat) 74, blkA tb [(.int .i64 (to'))] 3]
 refine sg' ?_
 refine nx J1 ?_
 refine sr fun _ J2 => ?_
 refine mv ?_
 refine mv ?_
 refine tp (PV.fieldAddr (r := 1) rfl Y74 rfl sz71 rfl rfl) ?_
 refine tp (PV.indexArr (r := 1 + key.toNat * 7) rfl Y71 sz70 rfl rfl (by omega) (by omega) (by omega)) ?_
 refine TL.callRv (Want.plain rfl) rfl rfl rfl rfl nm146 rfl (give1_does b4 (1 + key.toNat * 7) 74 tb (ints x.flat) x.cells[key.toNat].given to' ht (RowT.sub_cells x (key.toNat * 7 + 2) (by omega) (by omega) (vs_sub CellT.flat_length x.cells (i := key.toNat) 2 (by omega) (by omega) (by decide) (CellT.sub_given (x.cells[key.toNat]'(by omega)) 0 rfl (by decide) (whole (vi5_len ((x.cells[key.toNat]'(by omega)).given))))))) (fun _ s => sep_selR [1, 1] rfl s) (fun _ _ _ => trivial) (fun vR HR hR => ?_)
 obtain ⟨rfl, rfl⟩ := hR
 refine mv ?_
 refine tp (PV.extract (vs := [(.int .i64 ((sumG (x.cells[key.toNat]'(by omega))))), (.pointer (some ⟨b4, 1 + key.toNat * 7 + 2 + to'.toNat, none⟩))]) rfl rfl rfl) ?_
 refine tp (PV.extract (vs := [(.int .i64 ((sumG (x.cells[key.toNat]'(by omega))))), (.pointer (some ⟨b4, 1 + key.toNat * 7 + 2 + to'.toNat, none⟩))]) rfl rfl rfl) ?_
 refine sg' ?_
 refine sg' ?_
 refine nx J2 ?_
 refine TC.seq fun _ J3 => ?_
 refine sr fun _ J4 => ?_
 refine mv ?_
 refine mv ?_
 refine tp (PV.sub (r := (1099511627776 - n)) rfl rfl rfl (wrap_i64 (by omega) (by omega))) ?_
 refine tp (PV.gtr rfl rfl rfl) ?_
 refine TL.dec (fun h23 => ?_) (fun h23 => ?_)
 refine nx J4 ?_
 refine TC.yes rfl ?_
 refine sr fun _ J5 => ?_
 refine tp (PV.build (cells := (ints RowT.zero.flat).toArray) rfl rfl (by as_aux_lemma => kernel_rfl)) ?_
 refine TL.store (vs := ints RowT.zero.flat) (i := 2) (Want.plain rfl) rfl rfl rfl rfl rfl (by rw [(RowT.len RowT.zero)]; exact sz74) (ints_one _) rfl rfl (by have h0 := (RowT.len RowT.zero); have h1 := (RowT.len RowT.zero); omega) (wwhole ((RowT.len RowT.zero).trans (RowT.len RowT.zero).symm)) rfl ?_
 refine sg' ?_
 refine nx J5 ?_
 refine TC.ret ?_
 refine TE.passRet ?_
 refine TE.retCT (H' := [blkA tb [(.int .i64 (to'))] 3]) rfl rfl rfl Y74 rfl sz74 (Rd.own 2 rfl rfl) (RowT.len RowT.zero) (fun _ s => sep_keep [1] rfl s) ?_
 exact ⟨by rw [moreR, hcell, if_pos h23], rfl⟩
 refine nx J4 ?_
 refine TC.no rfl ?_
 refine TC.skip ?_
 refine TE.next J3 ?_
 refine sr fun _ J6 => ?_
 refine mv ?_
 refine tp (PV.nilCheck rfl rfl) ?_
 refine tp (PV.load1 (v := (.int .i64 ((((x.cells[key.toNat]'(by omega)).given)[to'.toNat]'(by omega))))) rfl Y3 rfl rfl (Rd.own 0 rfl rfl) (RowT.pt_cells x (key.toNat * 7 + 2 + to'.toNat) (by omega) (by omega) (vs_pt CellT.flat_length x.cells (i := key.toNat) (2 + to'.toNat) (by omega) (by omega) (by omega) (CellT.pt_given (x.cells[key.toNat]'(by omega)) (to'.toNat) (by omega) (by omega) (vi_at ((x.cells[key.toNat]'(by omega)).given) (by omega)))))) ?_
 refine mv ?_
 refine tp (PV.add (r := (w64 ((((x.cells[key.toNat]'(by omega)).given)[to'.toNat]'(by omega)) + n))) rfl rfl rfl rfl) ?_
 refine tp (PV.nilCheck rfl rfl) ?_
 refine TL.store1 (i := 0) (Want.plain rfl) rfl rfl rfl rfl rfl sz3 rfl rfl (by have h0 := (RowT.len x); omega) (RowT.st_cells x (key.toNat * 7 + 2 + to'.toNat) (by omega) (by omega) (vs_st CellT.flat_length x.cells (i := key.toNat) (2 + to'.toNat) (by omega) (by omega) (by omega) (CellT.st_given (x.cells[key.toNat]'(by omega)) (to'.toNat) (by omega) (by omega) (vi_st ((x.cells[key.toNat]'(by omega)).given) (by omega) _)))) rfl ?_
 refine nx J6 ?_
 refine sr fun _ J7 => ?_
 refine tp (PV.fieldAddr (r := 0) rfl Y74 rfl sz3 rfl rfl) ?_
 refine tp (PV.load1 (v := (.int .i64 (x.version))) rfl Y3 rfl rfl (Rd.own 0 rfl rfl) (RowT.at_version (RowT.mk x.version (x.cells.set key.toNat (CellT.mk ((x.cells[key.toNat]'(by omega)).inn) ((x.cells[key.toNat]'(by omega)).out) (((x.cells[key.toNat]'(by omega)).given).set to'.toNat (w64 ((((x.cells[key.toNat]'(by omega)).given)[to'.toNat]'(by omega)) + n)) (by omega))) (by omega)) x.heir x.left) rfl)) ?_
 refine tp (PV.add (r := (w64 (x.version + 1))) rfl rfl rfl rfl) ?_
 refine tp (PV.fieldAddr (r := 0) rfl Y74 rfl sz3 rfl rfl) ?_
 refine TL.store1 (i := 0) (Want.plain rfl) rfl rfl rfl rfl rfl sz3 rfl rfl (by have h0 := (RowT.len (RowT.mk x.version (x.cells.set key.toNat (CellT.mk ((x.cells[key.toNat]'(by omega)).inn) ((x.cells[key.toNat]'(by omega)).out) (((x.cells[key.toNat]'(by omega)).given).set to'.toNat (w64 ((((x.cells[key.toNat]'(by omega)).given)[to'.toNat]'(by omega)) + n)) (by omega))) (by omega)) x.heir x.left)); omega) (RowT.set_version (RowT.mk x.version (x.cells.set key.toNat (CellT.mk ((x.cells[key.toNat]'(by omega)).inn) ((x.cells[key.toNat]'(by omega)).out) (((x.cells[key.toNat]'(by omega)).given).set to'.toNat (w64 ((((x.cells[key.toNat]'(by omega)).given)[to'.toNat]'(by omega)) + n)) (by omega))) (by omega)) x.heir x.left) rfl _) rfl ?_
 refine nx J7 ?_
 refine sr fun _ J8 => ?_
 refine tp (PV.loadN (vs := ints (RowT.mk (w64 (x.version + 1)) (x.cells.set key.toNat (CellT.mk ((x.cells[key.toNat]'(by omega)).inn) ((x.cells[key.toNat]'(by omega)).out) (((x.cells[key.toNat]'(by omega)).given).set to'.toNat (w64 ((((x.cells[key.toNat]'(by omega)).given)[to'.toNat]'(by omega)) + n)) (by omega))) (by omega)) x.heir x.left).flat) rfl Y74 rfl sz74 rfl (Rd.own 0 rfl rfl) (RowT.len (RowT.mk (w64 (x.version + 1)) (x.cells.set key.toNat (CellT.mk ((x.cells[key.toNat]'(by omega)).inn) ((x.cells[key.toNat]'(by omega)).out) (((x.cells[key.toNat]'(by omega)).given).set to'.toNat (w64 ((((x.cells[key.toNat]'(by omega)).given)[to'.toNat]'(by omega)) + n)) (by omega))) (by omega)) x.heir x.left)) (whole (RowT.len (RowT.mk (w64 (x.version + 1)) (x.cells.set key.toNat (CellT.mk ((x.cells[key.toNat]'(by omega)).inn) ((x.cells[key.toNat]'(by omega)).out) (((x.cells[key.toNat]'(by omega)).given).set to'.toNat (w64 ((((x.cells[key.toNat]'(by omega)).given)[to'.toNat]'(by omega)) + n)) (by omega))) (by omega)) x.heir x.left)))) ?_
 refine TL.store (vs := ints (RowT.mk (w64 (x.version + 1)) (x.cells.set key.toNat (CellT.mk ((x.cells[key.toNat]'(by omega)).inn) ((x.cells[key.toNat]'(by omega)).out) (((x.cells[key.toNat]'(by omega)).given).set to'.toNat (w64 ((((x.cells[key.toNat]'(by omega)).given)[to'.toNat]'(by omega)) + n)) (by omega))) (by omega)) x.heir x.left).flat) (i := 2) (Want.plain rfl) rfl rfl rfl rfl rfl (by rw [(RowT.len (RowT.mk (w64 (x.version + 1)) (x.cells.set key.toNat (CellT.mk ((x.cells[key.toNat]'(by omega)).inn) ((x.cells[key.toNat]'(by omega)).out) (((x.cells[key.toNat]'(by omega)).given).set to'.toNat (w64 ((((x.cells[key.toNat]'(by omega)).given)[to'.toNat]'(by omega)) + n)) (by omega))) (by omega)) x.heir x.left))]; exact sz74) (ints_one _) rfl rfl (by have h0 := (RowT.len RowT.zero); have h1 := (RowT.len (RowT.mk (w64 (x.version + 1)) (x.cells.set key.toNat (CellT.mk ((x.cells[key.toNat]'(by omega)).inn) ((x.cells[key.toNat]'(by omega)).out) (((x.cells[key.toNat]'(by omega)).given).set to'.toNat (w64 ((((x.cells[key.toNat]'(by omega)).given)[to'.toNat]'(by omega)) + n)) (by omega))) (by omega)) x.heir x.left)); omega) (wwhole ((RowT.len RowT.zero).trans (RowT.len (RowT.mk (w64 (x.version + 1)) (x.cells.set key.toNat (CellT.mk ((x.cells[key.toNat]'(by omega)).inn) ((x.cells[key.toNat]'(by omega)).out) (((x.cells[key.toNat]'(by omega)).given).set to'.toNat (w64 ((((x.cells[key.toNat]'(by omega)).given)[to'.toNat]'(by omega)) + n)) (by omega))) (by omega)) x.heir x.left)).symm)) rfl ?_
 refine sg' ?_
 refine nx J8 ?_
 refine TC.ret ?_
 refine TE.retCT (H' := [blkA tb [(.int .i64 (to'))] 3]) rfl rfl rfl Y74 rfl sz74 (Rd.own 2 rfl rfl) (RowT.len (RowT.mk (w64 (x.version + 1)) (x.cells.set key.toNat (CellT.mk ((x.cells[key.toNat]'(by omega)).inn) ((x.cells[key.toNat]'(by omega)).out) (((x.cells[key.toNat]'(by omega)).given).set to'.toNat (w64 ((((x.cells[key.toNat]'(by omega)).given)[to'.toNat]'(by omega)) + n)) (by omega))) (by omega)) x.heir x.left)) (fun _ s => sep_keep [1] rfl s) ?_
 refine ⟨?_, rfl⟩
 rw [moreR, hcell, if_neg h23, putCell, dif_pos hkb]
 simp [giveTo, givenOf, htb]
theorem rowInc_does (x : RowT) (key n : Int) :
 Leg.Does Tryz.prog 95 #[(.agg (ints x.flat).toArray), (.int .i64 (key)), (.int .i64 (n))] (fun _ => True) [] (Ret (fun r' H => r' = .tuple #[.agg (ints (rowInc x key n).1.flat).toArray, .int .i64 (rowInc x key n).2] ∧ H = [])) := by
 refine Leg.Does.body (n := 19) Tryz.func95 rfl rfl rfl (fun w0 F hF => sr fun _ J1 => XB fun b3 => ?_)
 change TL _ _ _ _ _ _ _ _ _ [blkA b3 (ints x.flat) 74]
 refine XA z74 fun b6 => ?_
 change TL _ _ _ _ _ _ _ _ _ [blkA b6 (ints RowT.zero.flat) 74, blkA b3 (ints x.flat) 74]
 refine PS ?_
 refine nx J1 ?_
 clear J1
 refine TC.seq fun _ J2 => sr fun _ J3 => PS ?_
 refine PS ?_
 refine CE nm142 (asked_does key n) (fun _ s => s) ?_
 refine TL.decB (fun h10 => ?_) (fun h10 => ?_)
 have hq := h10
 unfold askB keyB okN at hq
 simp only [Bool.and_eq_true, decide_eq_true_iff] at hq
 have hk : 0 ≤ key ∧ key < 4 := hq.1.1
 have hn : 1 ≤ n ∧ n ≤ 1099511627776 := ⟨hq.1.2, hq.2.2⟩
 refine tp (PV.not (r := false) rfl rfl rfl) ?_
 refine nx J3 ?_
 clear J3
 refine CN (CX J2 ?_)
 clear J2
 refine sr fun _ J4 => tp (PV.loadN (vs := ints x.flat) rfl Y74 rfl sz74 rfl (RO 1) (RowT.len x) (whole (RowT.len x))) ?_
 refine PS ?_
 refine PS ?_
 refine CE nm143 (moreInc_does x key n hk hn) (fun _ s => s) ?_
 refine tp (PV.extract (vs := [(.agg (ints ((moreR x key n (cellAt x key).inn { cellAt x key with inn := w64 ((cellAt x key).inn + n) }).1).flat).toArray), (.int .i64 ((moreR x key n (cellAt x key).inn { cellAt x key with inn := w64 ((cellAt x key).inn + n) }).2))]) rfl rfl rfl) ?_
 refine tp (PV.extract (vs := [(.agg (ints ((moreR x key n (cellAt x key).inn { cellAt x key with inn := w64 ((cellAt x key).inn + n) }).1).flat).toArray), (.int .i64 ((moreR x key n (cellAt x key).inn { cellAt x key with inn := w64 ((cellAt x key).inn + n) }).2))]) rfl rfl rfl) ?_
 refine TL.store (vs := ints ((moreR x key n (cellAt x key).inn { cellAt x key with inn := w64 ((cellAt x key).inn + n) }).1).flat) (i := 0) (Want.plain rfl) rfl rfl rfl rfl rfl (by rw [(RowT.len ((moreR x key n (cellAt x key).inn { cellAt x key with inn := w64 ((cellAt x key).inn + n) }).1))]; exact sz74) (ints_one _) rfl rfl (LC (RowT.len _) (RowT.len _)) (wwhole ((RowT.len RowT.zero).trans (RowT.len ((moreR x key n (cellAt x key).inn { cellAt x key with inn := w64 ((cellAt x key).inn + n) }).1)).symm)) rfl (PS ?_)
 refine nx J4 ?_
 clear J4
 refine TC.ret (TE.retCT (H' := []) rfl rfl rfl Y74 rfl sz74 (RO 0) (RowT.len ((moreR x key n (cellAt x key).inn { cellAt x key with inn := w64 ((cellAt x key).inn + n) }).1)) (fun _ s => sep_keep [] rfl s) ?_)
 exact ⟨by simp [rowInc, *], rfl⟩
 refine tp (PV.not (r := true) rfl rfl rfl) ?_
 refine nx J3 ?_
 clear J3
 refine CY (sr fun _ J5 => tp (PV.build (cells := (ints RowT.zero.flat).toArray) rfl rfl (by as_aux_lemma => kernel_rfl)) ?_)
 refine TL.store (vs := ints RowT.zero.flat) (i := 0) (Want.plain rfl) rfl rfl rfl rfl rfl (by rw [(RowT.len RowT.zero)]; exact sz74) (ints_one _) rfl rfl (LC (RowT.len _) (RowT.len _)) (wwhole ((RowT.len RowT.zero).trans (RowT.len RowT.zero).symm)) rfl (PS ?_)
 refine nx J5 ?_
 clear J5
 refine TC.ret (TE.passRet ?_)
 clear J2
 refine TE.retCT (H' := []) rfl rfl rfl Y74 rfl sz74 (RO 0) (RowT.len RowT.zero) (fun _ s => sep_keep [] rfl s) ?_
 exact ⟨by simp [rowInc, *], rfl⟩
theorem rowDec_does (x : RowT) (key n : Int) :
 Leg.Does Tryz.prog 96 #[(.agg (ints x.flat).toArray), (.int .i64 (key)), (.int .i64 (n))] (fun _ => True) [] (Ret (fun r' H => r' = .tuple #[.agg (ints (rowDec x key n).1.flat).toArray, .int .i64 (rowDec x key n).2] ∧ H = [])) := by
 refine Leg.Does.body (n := 19) Tryz.func96 rfl rfl rfl (fun w0 F hF => sr fun _ J1 => XB fun b3 => ?_)
 change TL _ _ _ _ _ _ _ _ _ [blkA b3 (ints x.flat) 74]
 refine XA z74 fun b6 => ?_
 change TL _ _ _ _ _ _ _ _ _ [blkA b6 (ints RowT.zero.flat) 74, blkA b3 (ints x.flat) 74]
 refine PS ?_
 refine nx J1 ?_
 clear J1
 refine TC.seq fun _ J2 => sr fun _ J3 => PS ?_
 refine PS ?_
 refine CE nm142 (asked_does key n) (fun _ s => s) ?_
 refine TL.decB (fun h10 => ?_) (fun h10 => ?_)
 have hq := h10
 unfold askB keyB okN at hq
 simp only [Bool.and_eq_true, decide_eq_true_iff] at hq
 have hk : 0 ≤ key ∧ key < 4 := hq.1.1
 have hn : 1 ≤ n ∧ n ≤ 1099511627776 := ⟨hq.1.2, hq.2.2⟩
 refine tp (PV.not (r := false) rfl rfl rfl) ?_
 refine nx J3 ?_
 clear J3
 refine CN (CX J2 ?_)
 clear J2
 refine sr fun _ J4 => tp (PV.loadN (vs := ints x.flat) rfl Y74 rfl sz74 rfl (RO 1) (RowT.len x) (whole (RowT.len x))) ?_
 refine PS ?_
 refine PS ?_
 refine CE nm143 (moreDec_does x key n hk hn) (fun _ s => s) ?_
 refine tp (PV.extract (vs := [(.agg (ints ((moreR x key n (cellAt x key).out { cellAt x key with out := w64 ((cellAt x key).out + n) }).1).flat).toArray), (.int .i64 ((moreR x key n (cellAt x key).out { cellAt x key with out := w64 ((cellAt x key).out + n) }).2))]) rfl rfl rfl) ?_
 refine tp (PV.extract (vs := [(.agg (ints ((moreR x key n (cellAt x key).out { cellAt x key with out := w64 ((cellAt x key).out + n) }).1).flat).toArray), (.int .i64 ((moreR x key n (cellAt x key).out { cellAt x key with out := w64 ((cellAt x key).out + n) }).2))]) rfl rfl rfl) ?_
 refine TL.store (vs := ints ((moreR x key n (cellAt x key).out { cellAt x key with out := w64 ((cellAt x key).out + n) }).1).flat) (i := 0) (Want.plain rfl) rfl rfl rfl rfl rfl (by rw [(RowT.len ((moreR x key n (cellAt x key).out { cellAt x key with out := w64 ((cellAt x key).out + n) }).1))]; exact sz74) (ints_one _) rfl rfl (LC (RowT.len _) (RowT.len _)) (wwhole ((RowT.len RowT.zero).trans (RowT.len ((moreR x key n (cellAt x key).out { cellAt x key with out := w64 ((cellAt x key).out + n) }).1)).symm)) rfl (PS ?_)
 refine nx J4 ?_
 clear J4
 refine TC.ret (TE.retCT (H' := []) rfl rfl rfl Y74 rfl sz74 (RO 0) (RowT.len ((moreR x key n (cellAt x key).out { cellAt x key with out := w64 ((cellAt x key).out + n) }).1)) (fun _ s => sep_keep [] rfl s) ?_)
 exact ⟨by simp [rowDec, *], rfl⟩
 refine tp (PV.not (r := true) rfl rfl rfl) ?_
 refine nx J3 ?_
 clear J3
 refine CY (sr fun _ J5 => tp (PV.build (cells := (ints RowT.zero.flat).toArray) rfl rfl (by as_aux_lemma => kernel_rfl)) ?_)
 refine TL.store (vs := ints RowT.zero.flat) (i := 0) (Want.plain rfl) rfl rfl rfl rfl rfl (by rw [(RowT.len RowT.zero)]; exact sz74) (ints_one _) rfl rfl (LC (RowT.len _) (RowT.len _)) (wwhole ((RowT.len RowT.zero).trans (RowT.len RowT.zero).symm)) rfl (PS ?_)
 refine nx J5 ?_
 clear J5
 refine TC.ret (TE.passRet ?_)
 clear J2
 refine TE.retCT (H' := []) rfl rfl rfl Y74 rfl sz74 (RO 0) (RowT.len RowT.zero) (fun _ s => sep_keep [] rfl s) ?_
 exact ⟨by simp [rowDec, *], rfl⟩
theorem rowGive_does (x : RowT) (key n to' : Int) :
 Leg.Does Tryz.prog 97 #[(.agg (ints x.flat).toArray), (.int .i64 (key)), (.int .i64 (n)), (.int .i64 (to'))] (fun _ => True) [] (Ret (fun r' H => r' = .tuple #[.agg (ints (rowGive x key n to').1.flat).toArray, .int .i64 (rowGive x key n to').2] ∧ H = [])) := by
 refine Leg.Does.body (n := 27) Tryz.func97 rfl rfl rfl (fun w0 F hF => sr fun _ J1 => XB fun b4 => ?_)
 change TL _ _ _ _ _ _ _ _ _ [blkA b4 (ints x.flat) 74]
 refine XB fun b7 => ?_
 refine XA z74 fun b8 => ?_
 change TL _ _ _ _ _ _ _ _ _ [blkA b8 (ints RowT.zero.flat) 74, blkA b7 [(.int .i64 (to'))] 3, blkA b4 (ints x.flat) 74]
 refine PS ?_
 refine nx J1 ?_
 clear J1
 refine TC.seq fun _ J2 => sr fun _ J3 => LA 1 Y3 ?_
 refine CE nm124 (rowMachine_does to') (fun _ s => s) ?_
 refine TL.decB (fun h11 => ?_) (fun h11 => ?_)
 refine tp (PV.not (r := false) rfl rfl rfl) ?_
 iterate 3 refine PS ?_
 refine CE nm142 (asked_does key n) (fun _ s => s) ?_
 refine TL.decB (fun h16 => ?_) (fun h16 => ?_)
 have hq := h16
 unfold askB keyB okN at hq
 simp only [Bool.and_eq_true, decide_eq_true_iff] at hq
 have hk : 0 ≤ key ∧ key < 4 := hq.1.1
 have hn : 1 ≤ n ∧ n ≤ 1099511627776 := ⟨hq.1.2, hq.2.2⟩
 have ht : 0 ≤ to' ∧ to' < 5 := of_decide_eq_true h11
 refine tq (PV.not (r := false) rfl rfl rfl) ?_
 refine PS ?_
 refine nx J3 ?_
 clear J3
 refine CN (CX J2 ?_)
 clear J2
 refine sr fun _ J4 => tp (PV.loadN (vs := ints x.flat) rfl Y74 rfl sz74 rfl (RO 2) (RowT.len x) (whole (RowT.len x))) ?_
 refine PS ?_
 refine PS ?_
 refine tp (PV.mkFunc rfl rfl) ?_
 refine CE nm143 (moreGive_does x key n hk hn b7 to' ht) (SM [1]) ?_
 refine tp (PV.extract (vs := [(.agg (ints ((moreR x key n (sumG (cellAt x key)) (giveTo (cellAt x key) to' (w64 (givenOf (cellAt x key) to' + n)))).1).flat).toArray), (.int .i64 ((moreR x key n (sumG (cellAt x key)) (giveTo (cellAt x key) to' (w64 (givenOf (cellAt x key) to' + n)))).2))]) rfl rfl rfl) ?_
 refine tp (PV.extract (vs := [(.agg (ints ((moreR x key n (sumG (cellAt x key)) (giveTo (cellAt x key) to' (w64 (givenOf (cellAt x key) to' + n)))).1).flat).toArray), (.int .i64 ((moreR x key n (sumG (cellAt x key)) (giveTo (cellAt x key) to' (w64 (givenOf (cellAt x key) to' + n)))).2))]) rfl rfl rfl) ?_
 refine TL.store (vs := ints ((moreR x key n (sumG (cellAt x key)) (giveTo (cellAt x key) to' (w64 (givenOf (cellAt x key) to' + n)))).1).flat) (i := 1) (Want.plain rfl) rfl rfl rfl rfl rfl (by rw [(RowT.len ((moreR x key n (sumG (cellAt x key)) (giveTo (cellAt x key) to' (w64 (givenOf (cellAt x key) to' + n)))).1))]; exact sz74) (ints_one _) rfl rfl (LC (RowT.len _) (RowT.len _)) (wwhole ((RowT.len RowT.zero).trans (RowT.len ((moreR x key n (sumG (cellAt x key)) (giveTo (cellAt x key) to' (w64 (givenOf (cellAt x key) to' + n)))).1)).symm)) rfl (PS ?_)
 refine nx J4 ?_
 clear J4
 refine TC.ret (TE.retCT (H' := []) rfl rfl rfl Y74 rfl sz74 (RO 1) (RowT.len ((moreR x key n (sumG (cellAt x key)) (giveTo (cellAt x key) to' (w64 (givenOf (cellAt x key) to' + n)))).1)) (fun _ s => sep_keep [] rfl s) ?_)
 exact ⟨by simp [rowGive, *], rfl⟩
 refine tq (PV.not (r := true) rfl rfl rfl) ?_
 refine PS ?_
 refine nx J3 ?_
 clear J3
 refine CY (sr fun _ J5 => tp (PV.build (cells := (ints RowT.zero.flat).toArray) rfl rfl (by as_aux_lemma => kernel_rfl)) ?_)
 refine TL.store (vs := ints RowT.zero.flat) (i := 0) (Want.plain rfl) rfl rfl rfl rfl rfl (by rw [(RowT.len RowT.zero)]; exact sz74) (ints_one _) rfl rfl (LC (RowT.len _) (RowT.len _)) (wwhole ((RowT.len RowT.zero).trans (RowT.len RowT.zero).symm)) rfl (PS ?_)
 refine nx J5 ?_
 clear J5
 refine TC.ret (TE.passRet ?_)
 clear J2
 refine TE.retCT (H' := []) rfl rfl rfl Y74 rfl sz74 (RO 0) (RowT.len RowT.zero) (fun _ s => sep_keep [] rfl s) ?_
 exact ⟨by simp [rowGive, *], rfl⟩
 refine tp (PV.not (r := true) rfl rfl rfl) ?_
 refine PS ?_
 iterate 4 refine UT ?_
 refine PS ?_
 refine nx J3 ?_
 clear J3
 refine CY (sr fun _ J6 => tp (PV.build (cells := (ints RowT.zero.flat).toArray) rfl rfl (by as_aux_lemma => kernel_rfl)) ?_)
 refine TL.store (vs := ints RowT.zero.flat) (i := 0) (Want.plain rfl) rfl rfl rfl rfl rfl (by rw [(RowT.len RowT.zero)]; exact sz74) (ints_one _) rfl rfl (LC (RowT.len _) (RowT.len _)) (wwhole ((RowT.len RowT.zero).trans (RowT.len RowT.zero).symm)) rfl (PS ?_)
 refine nx J6 ?_
 clear J6
 refine TC.ret (TE.passRet ?_)
 clear J2
 refine TE.retCT (H' := []) rfl rfl rfl Y74 rfl sz74 (RO 0) (RowT.len RowT.zero) (fun _ s => sep_keep [] rfl s) ?_
 exact ⟨by simp [rowGive, *], rfl⟩
theorem rowOwn_does (x : RowT) (who : Int) :
 Leg.Does Tryz.prog 80 #[(.agg (ints x.flat).toArray), (.int .i64 (who))] (fun _ => True) [] (Ret (fun r' H => ∃ u, r' = u ∧ H = [own u (rowOwn x who).length (ints (rowOwn x who)) 3 1])) := by
 refine Leg.Does.body (n := 27) Tryz.func80 rfl rfl rfl (fun w0 F hF => sr fun _ J1 => XB fun b2 => ?_)
 change TL _ _ _ _ _ _ _ _ _ [blkA b2 (ints x.flat) 74]
 refine PS ?_
 refine nx J1 (sr fun _ J2 => PS ?_)
 refine nx J2 (TC.seq fun _ J3 => sr fun _ J4 => FA 29 Y74 sz68 ?_)
 refine tp (PV.loadN (vs := ints x.heir.toList) rfl Y68 rfl sz68 rfl (RO 0) (vi5_len x.heir) (RowT.sub_heir x 0 rfl (by decide) (whole (vi5_len x.heir)))) ?_
 refine PS ?_
 refine nx J4 (TC.block ?_)
 refine TC.loop (α := (Nat) × (Value)) (fun ⟨k, u⟩ => k ≤ 5 ∧ u.oneCell' = true) (fun ⟨k, u⟩ => [(1, (.int .i64 (who))), (4, (.slice none 0 0)), (5, u), (9, (.agg (ints x.heir.toList).toArray)), (10, (.int .i64 (((k : Nat) : Int))))]) (fun ⟨k, u⟩ => [own u ((ownTo x who k).length) (ints (ownTo x who k)) 3 1]) (fun ⟨k, u⟩ => 5 - k) (0, (.slice none 0 0))
  ⟨Nat.zero_le _, rfl⟩ SB
  (fun _ s => sep_ownNil 3 1 (sep_keep [] rfl s)) (fun ⟨k, u⟩ hinv => ?_)
 obtain ⟨hk, hu⟩ := hinv
 have hol := ownTo_len x who k
 refine sr fun _ J5 => PS ?_
 refine TL.dec (fun h11 => ?_) (fun h11 => ?_)
 refine nx J5 (TC.seq fun _ J6 => CY (CX J6 (TC.seq fun _ J7 => TC.block (sr fun _ J8 => PS ?_))))
 refine tp (PV.index1 (cs := ints x.heir.toList) (v := Value.int .i64 (x.heir[k]'(by omega))) (r := k) rfl Y68 Y3 rfl sz3 rfl rfl (by omega) (by omega) (by omega) (vi_at x.heir (by omega))) ?_
 refine PS ?_
 refine PS ?_
 refine nx J8 (sr fun _ J9 => ?_)
 iterate 3 refine PS ?_
 refine TL.dec (fun h16 => ?_) (fun h16 => ?_)
 refine PS ?_
 refine UT ?_
 refine UT ?_
 refine PS ?_
 refine nx J9 (CY (TC.region (PS ?_)))
 refine PS ?_
 refine TL.buildSlice (cells := #[(.int .i64 (((k : Nat) : Int)))]) (Want.plain rfl) rfl rfl rfl Y155 in3 rfl rfl rfl (by as_aux_lemma => kernel_rfl) (fun b23 => TL.append (k := 1) (news := [(.int .i64 (((k : Nat) : Int)))]) (nn' := (ownTo x who k).length + 1) (xs' := ints (ownTo x who k) ++ [(.int .i64 (((k : Nat) : Int)))]) (Want.plain rfl) rfl rfl rfl Y155 in3 rfl rfl rfl rfl rfl rfl (fun _ _ => Src.rd rfl (RO 0) rfl) (by simp [Value.oneCell']) (by simp only [maxLen]; omega) (by omega) (by simp) (by simp) (fun v24 ov24 => PS ?_))
 refine TL.nil (TE.blockEnd (TE.next J7 (TC.region (AD ?_))))
 refine PS ?_
 refine TL.nil ?_
 exact TE.round ((k + 1, v24) : (Nat) × (Value)) ⟨by omega, ov24⟩ (by show 5 - (k + 1) < 5 - k; omega)
  SB
  (fun _ s => by
   show sep [own v24 (ownTo x who (k + 1)).length (ints (ownTo x who (k + 1))) 3 1] _
   rw [show ownTo x who (k + 1) = ownTo x who k ++ [((k : Nat) : Int)] by rw [ownTo_succ, if_pos (by rw [ownAt_eq x who (by omega)]; simp; omega)], List.length_append, ints_append]
   exact sep_keep [1] rfl s)
 iterate 3 refine PS ?_
 refine TL.dec (fun h19 => ?_) (fun h19 => ?_)
 refine PS ?_
 refine nx J9 (CY (TC.region (PS ?_)))
 refine PS ?_
 refine TL.buildSlice (cells := #[(.int .i64 (((k : Nat) : Int)))]) (Want.plain rfl) rfl rfl rfl Y155 in3 rfl rfl rfl (by as_aux_lemma => kernel_rfl) (fun b23 => TL.append (k := 1) (news := [(.int .i64 (((k : Nat) : Int)))]) (nn' := (ownTo x who k).length + 1) (xs' := ints (ownTo x who k) ++ [(.int .i64 (((k : Nat) : Int)))]) (Want.plain rfl) rfl rfl rfl Y155 in3 rfl rfl rfl rfl rfl rfl (fun _ _ => Src.rd rfl (RO 0) rfl) (by simp [Value.oneCell']) (by simp only [maxLen]; omega) (by omega) (by simp) (by simp) (fun v24 ov24 => PS ?_))
 refine TL.nil (TE.blockEnd (TE.next J7 (TC.region (AD ?_))))
 refine PS ?_
 refine TL.nil ?_
 exact TE.round ((k + 1, v24) : (Nat) × (Value)) ⟨by omega, ov24⟩ (by show 5 - (k + 1) < 5 - k; omega)
  SB
  (fun _ s => by
   show sep [own v24 (ownTo x who (k + 1)).length (ints (ownTo x who (k + 1))) 3 1] _
   rw [show ownTo x who (k + 1) = ownTo x who k ++ [((k : Nat) : Int)] by rw [ownTo_succ, if_pos (by rw [ownAt_eq x who (by omega)]; simp; omega)], List.length_append, ints_append]
   exact sep_keep [1] rfl s)
 refine PS ?_
 refine nx J9 (CN (TC.skip (TE.blockEnd (TE.next J7 (TC.region (AD ?_))))))
 refine PS ?_
 refine TL.nil ?_
 exact TE.round ((k + 1, u) : (Nat) × (Value)) ⟨by omega, hu⟩ (by show 5 - (k + 1) < 5 - k; omega)
  SB
  (fun _ s => by
   show sep [own u (ownTo x who (k + 1)).length (ints (ownTo x who (k + 1))) 3 1] _
   rw [show ownTo x who (k + 1) = ownTo x who k by rw [ownTo_succ, if_neg (by rw [ownAt_eq x who (by omega)]; simp; omega), List.append_nil]]
   exact sep_keep [0] rfl s)
 refine nx J5 (TC.seq fun _ J10 => CN (TC.exit (TE.pass (TE.pass (TE.hit (TE.next J3 (sr fun _ J11 => PS ?_)))))))
 refine PS ?_
 refine nx J11 (TC.ret (WK [0] (TE.ret1 rfl rfl ?_)))
 obtain rfl : k = 5 := by omega
 exact ⟨u, rfl, rfl⟩
theorem rowCell_does (x : RowT) (who of' key : Int) :
 Leg.Does Tryz.prog 79 #[(.agg (ints x.flat).toArray), (.int .i64 (who)), (.int .i64 (of')), (.int .i64 (key))] (fun _ => True) [] (Ret (fun r' H => r' = .tuple #[.agg (ints (rowCell x who of' key).1.flat).toArray, .int .i64 (rowCell x who of' key).2] ∧ H = [])) := by
 refine Leg.Does.body (vs := [(.agg (ints x.flat).toArray), (.int .i64 (who)), (.int .i64 (of')), (.int .i64 (key))]) (n := 53) Tryz.func79 rfl rfl rfl (fun w0 F hF => ?_)
 refine sr fun _ J1 => ?_
 refine TL.box (Want.plain rfl) rfl rfl rfl rfl (fun b4 => ?_)
 change TL _ _ _ _ _ _ _ _ _ [blkA b4 (ints x.flat) 74]
 refine TL.alloc (Want.plain rfl) rfl rfl rfl z70 (fun b8 => ?_)
 change TL _ _ _ _ _ _ _ _ _ [blkA b8 (ints CellT.zero.flat) 70, blkA b4 (ints x.flat) 74]
 refine sg' ?_
 refine nx J1 ?_
 clear J1
 refine TC.seq fun _ J2 => ?_
 refine sr fun _ J3 => ?_
 refine mv ?_
 refine TL.callR (Want.plain rfl) rfl rfl rfl nm124 rfl (rowMachine_does who) (fun _ s => s) (fun _ _ _ => trivial) (fun vR HR hR => ?_)
 obtain ⟨rfl, rfl⟩ := hR
 refine TL.decB (fun h11 => ?_) (fun h11 => ?_)
 refine tp (PV.not (r := false) rfl rfl rfl) ?_
 refine mv ?_
 refine tq (PV.move rfl rfl) ?_
 refine TL.callR (Want.met rfl rfl rfl) rfl rfl rfl nm124 rfl (rowMachine_does of') (fun _ s => s) (fun _ _ _ => trivial) (fun vR HR hR => ?_)
 obtain ⟨rfl, rfl⟩ := hR
 refine TL.decB (fun h15 => ?_) (fun h15 => ?_)
 refine tq (PV.not (r := false) rfl rfl rfl) ?_
 refine tp (PV.pick rfl rfl rfl) ?_
 refine mv ?_
 refine tq (PV.move rfl rfl) ?_
 refine tq (PV.lss rfl rfl rfl) ?_
 refine TL.dec (fun h20 => ?_) (fun h20 => ?_)
 have hkb : keyB key = false := decide_eq_false (by omega)
 refine tp (PV.pick rfl rfl rfl) ?_
 refine mv ?_
 refine TL.unmet (b := true) rfl rfl rfl rfl (lb rfl) ?_
 refine TL.unmet (b := true) rfl rfl rfl rfl (lb rfl) ?_
 refine tp (PV.pick rfl rfl rfl) ?_
 refine nx J3 ?_
 clear J3
 refine TC.yes rfl ?_
 refine sr fun _ J4 => ?_
 refine tp (PV.build (cells := (ints CellT.zero.flat).toArray) rfl rfl (by as_aux_lemma => kernel_rfl)) ?_
 refine TL.store (vs := ints CellT.zero.flat) (i := 0) (Want.plain rfl) rfl rfl rfl rfl rfl (by rw [(CellT.len CellT.zero)]; exact sz70) (ints_one _) rfl rfl (by have h0 := (CellT.len CellT.zero); have h1 := (CellT.len CellT.zero); omega) (wwhole ((CellT.len CellT.zero).trans (CellT.len CellT.zero).symm)) rfl ?_
 refine sg' ?_
 refine nx J4 ?_
 clear J4
 refine TC.ret ?_
 refine TE.passRet ?_
 clear J2
 refine TE.retCT (H' := []) rfl rfl rfl Y70 rfl sz70 (Rd.own 0 rfl rfl) (CellT.len CellT.zero) (fun _ s => sep_keep [] rfl s) ?_
 exact ⟨by simp [rowCell, *], rfl⟩
 refine tp (PV.pick rfl rfl rfl) ?_
 refine mv ?_
 refine tq (PV.move rfl rfl) ?_
 refine tq (PV.geq rfl rfl rfl) ?_
 refine TL.dec (fun h24 => ?_) (fun h24 => ?_)
 have hkb : keyB key = false := decide_eq_false (by omega)
 refine tp (PV.pick rfl rfl rfl) ?_
 refine nx J3 ?_
 clear J3
 refine TC.yes rfl ?_
 refine sr fun _ J5 => ?_
 refine tp (PV.build (cells := (ints CellT.zero.flat).toArray) rfl rfl (by as_aux_lemma => kernel_rfl)) ?_
 refine TL.store (vs := ints CellT.zero.flat) (i := 0) (Want.plain rfl) rfl rfl rfl rfl rfl (by rw [(CellT.len CellT.zero)]; exact sz70) (ints_one _) rfl rfl (by have h0 := (CellT.len CellT.zero); have h1 := (CellT.len CellT.zero); omega) (wwhole ((CellT.len CellT.zero).trans (CellT.len CellT.zero).symm)) rfl ?_
 refine sg' ?_
 refine nx J5 ?_
 clear J5
 refine TC.ret ?_
 refine TE.passRet ?_
 clear J2
 refine TE.retCT (H' := []) rfl rfl rfl Y70 rfl sz70 (Rd.own 0 rfl rfl) (CellT.len CellT.zero) (fun _ s => sep_keep [] rfl s) ?_
 exact ⟨by simp [rowCell, *], rfl⟩
 have hw : machB who = true := by simpa using h11
 have ho : machB of' = true := by simpa using h15
 have hw2 : 0 ≤ who ∧ who < 5 := of_decide_eq_true hw
 have ho2 : 0 ≤ of' ∧ of' < 5 := of_decide_eq_true ho
 have hkb : keyB key = true := decide_eq_true ⟨by omega, by omega⟩
 have e1 : heirAt x of' = x.heir[of'.toNat]'(by omega) := by rw [heirAt, dif_pos ho]
 have e2 : leftAt x of' key = (x.left[of'.toNat]'(by omega))[key.toNat]'(by omega) := by rw [leftAt, dif_pos ⟨ho, hkb⟩]
 have e3 : cellAt x key = x.cells[key.toNat]'(by omega) := by rw [cellAt, dif_pos hkb]
 refine tp (PV.pick rfl rfl rfl) ?_
 refine nx J3 ?_
 clear J3
 refine TC.no rfl ?_
 refine TC.skip ?_
 refine TE.next J2 ?_
 clear J2
 refine TC.seq fun _ J6 => ?_
 refine sr fun _ J7 => ?_
 refine mv ?_
 refine mv ?_
 refine tp (PV.eql rfl rfl rfl) ?_
 refine TL.dec (fun h29 => ?_) (fun h29 => ?_)
 refine nx J7 ?_
 clear J7
 refine TC.yes rfl ?_
 refine TC.seq fun _ J8 => ?_
 refine TC.draw (fun w => Frm F w ∧ w.heap[b4]? = some (.cells (ints x.flat).toArray 74 (0, 0)) ∧ True) mixed rfl (fun _ s => ⟨Frm.of s, s.block 1 (lb rfl) rfl, trivial⟩) ?_
 refine ta 0 rfl (PV.move rfl rfl) ?_
 refine ta 1 rfl (PV.fieldAddr (r := 1) rfl Y74 rfl sz71 rfl rfl) ?_
 refine ta 2 rfl (PV.indexArr (r := 1 + key.toNat * 7) rfl Y71 sz70 rfl rfl (by omega) (by omega) (by omega)) ?_
 refine ta 3 rfl (PV.loadN (vs := ints (x.cells[key.toNat]'(by omega)).flat) rfl Y70 rfl sz70 rfl (fun _ h => h.2.1) (CellT.len (x.cells[key.toNat]'(by omega))) (RowT.sub_cells x (key.toNat * 7) (by omega) (by omega) (vs_sub CellT.flat_length x.cells (i := key.toNat) 0 (by omega) (by omega) (by decide) (whole (CellT.len (x.cells[key.toNat]'(by omega))))))) ?_
 refine ta 4 rfl (PV.fieldAddr (r := 0) rfl Y74 rfl sz3 rfl rfl) ?_
 refine ta 5 rfl (PV.load1 (v := (.int .i64 (x.version))) rfl Y3 rfl rfl (fun _ h => h.2.1) (RowT.at_version x rfl)) ?_
 refine TD.all [6] (by kernel_rfl) rfl ?_
 refine AllT.cons rfl ?_ ?_
 refine TL.store (vs := ints (x.cells[key.toNat]'(by omega)).flat) (i := 0) (Want.plain rfl) rfl rfl rfl rfl rfl (by rw [(CellT.len (x.cells[key.toNat]'(by omega)))]; exact sz70) (ints_one _) rfl rfl (by have h0 := (CellT.len CellT.zero); have h1 := (CellT.len (x.cells[key.toNat]'(by omega))); omega) (wwhole ((CellT.len CellT.zero).trans (CellT.len (x.cells[key.toNat]'(by omega))).symm)) rfl ?_
 refine TL.nil ?_
 refine TE.draw (fun _ s => ⟨Frm.of s, s.block 1 (lb rfl) rfl, trivial⟩) ?_
 refine ta 7 rfl (PV.assign rfl rfl) ?_
 refine TD.done (by kernel_rfl) ?_
 refine TE.next J8 ?_
 clear J8
 refine TC.ret ?_
 refine TE.passRet ?_
 clear J6
 refine TE.retCT (H' := []) rfl rfl rfl Y70 rfl sz70 (Rd.own 0 rfl rfl) (CellT.len (x.cells[key.toNat]'(by omega))) (fun _ s => sep_keep [] rfl s) ?_
 exact ⟨by simp [rowCell, *], rfl⟩
 exact AllT.nil
 refine nx J7 ?_
 clear J7
 refine TC.no rfl ?_
 refine TC.skip ?_
 refine TE.next J6 ?_
 clear J6
 refine TC.seq fun _ J9 => ?_
 refine sr fun _ J10 => ?_
 refine mv ?_
 refine tp (PV.fieldAddr (r := 29) rfl Y74 rfl sz68 rfl rfl) ?_
 refine tp (PV.indexArr (r := 29 + (of').toNat) rfl Y68 sz3 rfl rfl (by omega) (by omega) (by omega)) ?_
 refine tp (PV.load1 (v := (.int .i64 ((x.heir[(of').toNat]'(by omega))))) rfl Y3 rfl rfl (Rd.own 1 rfl rfl) (RowT.pt_heir x ((of').toNat) (by omega) (by omega) (vi_at x.heir (by omega)))) ?_
 refine tp (PV.gtr rfl rfl rfl) ?_
 refine TL.dec (fun h40 => ?_) (fun h40 => ?_)
 refine nx J10 ?_
 clear J10
 refine TC.yes rfl ?_
 refine TC.seq fun _ J11 => ?_
 refine TC.draw (fun w => Frm F w ∧ w.heap[b4]? = some (.cells (ints x.flat).toArray 74 (0, 0)) ∧ True) mixed rfl (fun _ s => ⟨Frm.of s, s.block 1 (lb rfl) rfl, trivial⟩) ?_
 refine ta 0 rfl (PV.move rfl rfl) ?_
 refine ta 1 rfl (PV.move rfl rfl) ?_
 refine ta 2 rfl (PV.fieldAddr (r := 34) rfl Y74 rfl sz72 rfl rfl) ?_
 refine ta 3 rfl (PV.indexArr (r := 34 + ((of').toNat) * 28) rfl Y72 sz71 rfl rfl (by omega) (by omega) (by omega)) ?_
 refine ta 4 rfl (PV.indexArr (r := 34 + ((of').toNat) * 28 + key.toNat * 7) rfl Y71 sz70 rfl rfl (by omega) (by omega) (by omega)) ?_
 refine ta 5 rfl (PV.loadN (vs := ints ((x.left[(of').toNat]'(by omega))[key.toNat]'(by omega)).flat) rfl Y70 rfl sz70 rfl (fun _ h => h.2.1) (CellT.len ((x.left[(of').toNat]'(by omega))[key.toNat]'(by omega))) (RowT.sub_left x (((of').toNat) * 28 + key.toNat * 7) (by omega) (by omega) (vs_sub vl_len x.left (i := (of').toNat) (key.toNat * 7) (by omega) (by omega) (by omega) (vs_sub CellT.flat_length (x.left[(of').toNat]'(by omega)) (i := key.toNat) 0 (by omega) (by omega) (by decide) (whole (CellT.len ((x.left[(of').toNat]'(by omega))[key.toNat]'(by omega)))))))) ?_
 refine ta 6 rfl (PV.move rfl rfl) ?_
 refine ta 7 rfl (PV.fieldAddr (r := 29) rfl Y74 rfl sz68 rfl rfl) ?_
 refine ta 8 rfl (PV.indexArr (r := 29 + (of').toNat) rfl Y68 sz3 rfl rfl (by omega) (by omega) (by omega)) ?_
 refine ta 9 rfl (PV.load1 (v := (.int .i64 ((x.heir[(of').toNat]'(by omega))))) rfl Y3 rfl rfl (fun _ h => h.2.1) (RowT.pt_heir x ((of').toNat) (by omega) (by omega) (vi_at x.heir (by omega)))) ?_
 refine ta 10 rfl (PV.sub (r := (w64 ((x.heir[(of').toNat]'(by omega)) - 1))) rfl rfl rfl rfl) ?_
 refine TD.all [11] (by kernel_rfl) rfl ?_
 refine AllT.cons rfl ?_ ?_
 refine TL.store (vs := ints ((x.left[(of').toNat]'(by omega))[key.toNat]'(by omega)).flat) (i := 0) (Want.plain rfl) rfl rfl rfl rfl rfl (by rw [(CellT.len ((x.left[(of').toNat]'(by omega))[key.toNat]'(by omega)))]; exact sz70) (ints_one _) rfl rfl (by have h0 := (CellT.len CellT.zero); have h1 := (CellT.len ((x.left[(of').toNat]'(by omega))[key.toNat]'(by omega))); omega) (wwhole ((CellT.len CellT.zero).trans (CellT.len ((x.left[(of').toNat]'(by omega))[key.toNat]'(by omega))).symm)) rfl ?_
 refine TL.nil ?_
 refine TE.draw (fun _ s => ⟨Frm.of s, s.block 1 (lb rfl) rfl, trivial⟩) ?_
 refine ta 12 rfl (PV.assign rfl rfl) ?_
 refine TD.done (by kernel_rfl) ?_
 refine TE.next J11 ?_
 clear J11
 refine TC.ret ?_
 refine TE.passRet ?_
 clear J9
 refine TE.retCT (H' := []) rfl rfl rfl Y70 rfl sz70 (Rd.own 0 rfl rfl) (CellT.len ((x.left[(of').toNat]'(by omega))[key.toNat]'(by omega))) (fun _ s => sep_keep [] rfl s) ?_
 exact ⟨by simp [rowCell, *], rfl⟩
 exact AllT.nil
 refine nx J10 ?_
 clear J10
 refine TC.no rfl ?_
 refine TC.skip ?_
 refine TE.next J9 ?_
 clear J9
 refine sr fun _ J12 => ?_
 refine tp (PV.build (cells := (ints CellT.zero.flat).toArray) rfl rfl (by as_aux_lemma => kernel_rfl)) ?_
 refine TL.store (vs := ints CellT.zero.flat) (i := 0) (Want.plain rfl) rfl rfl rfl rfl rfl (by rw [(CellT.len CellT.zero)]; exact sz70) (ints_one _) rfl rfl (by have h0 := (CellT.len CellT.zero); have h1 := (CellT.len CellT.zero); omega) (wwhole ((CellT.len CellT.zero).trans (CellT.len CellT.zero).symm)) rfl ?_
 refine sg' ?_
 refine nx J12 ?_
 clear J12
 refine TC.ret ?_
 refine TE.retCT (H' := []) rfl rfl rfl Y70 rfl sz70 (Rd.own 0 rfl rfl) (CellT.len CellT.zero) (fun _ s => sep_keep [] rfl s) ?_
 exact ⟨by simp [rowCell, *], rfl⟩
 refine tq (PV.not (r := true) rfl rfl rfl) ?_
 refine tp (PV.pick rfl rfl rfl) ?_
 refine mv ?_
 refine TL.unmet (b := true) rfl rfl rfl rfl (lb rfl) ?_
 refine TL.unmet (b := true) rfl rfl rfl rfl (lb rfl) ?_
 refine tp (PV.pick rfl rfl rfl) ?_
 refine mv ?_
 refine TL.unmet (b := true) rfl rfl rfl rfl (lb rfl) ?_
 refine TL.unmet (b := true) rfl rfl rfl rfl (lb rfl) ?_
 refine tp (PV.pick rfl rfl rfl) ?_
 refine nx J3 ?_
 clear J3
 refine TC.yes rfl ?_
 refine sr fun _ J13 => ?_
 refine tp (PV.build (cells := (ints CellT.zero.flat).toArray) rfl rfl (by as_aux_lemma => kernel_rfl)) ?_
 refine TL.store (vs := ints CellT.zero.flat) (i := 0) (Want.plain rfl) rfl rfl rfl rfl rfl (by rw [(CellT.len CellT.zero)]; exact sz70) (ints_one _) rfl rfl (by have h0 := (CellT.len CellT.zero); have h1 := (CellT.len CellT.zero); omega) (wwhole ((CellT.len CellT.zero).trans (CellT.len CellT.zero).symm)) rfl ?_
 refine sg' ?_
 refine nx J13 ?_
 clear J13
 refine TC.ret ?_
 refine TE.passRet ?_
 clear J2
 refine TE.retCT (H' := []) rfl rfl rfl Y70 rfl sz70 (Rd.own 0 rfl rfl) (CellT.len CellT.zero) (fun _ s => sep_keep [] rfl s) ?_
 exact ⟨by simp [rowCell, *], rfl⟩
 refine tp (PV.not (r := true) rfl rfl rfl) ?_
 refine mv ?_
 refine TL.unmet (b := true) rfl rfl rfl rfl (lb rfl) ?_
 refine TL.unmet (b := true) rfl rfl rfl rfl (lb rfl) ?_
 refine TL.unmet (b := true) rfl rfl rfl rfl (lb rfl) ?_
 refine tp (PV.pick rfl rfl rfl) ?_
 refine mv ?_
 refine TL.unmet (b := true) rfl rfl rfl rfl (lb rfl) ?_
 refine TL.unmet (b := true) rfl rfl rfl rfl (lb rfl) ?_
 refine tp (PV.pick rfl rfl rfl) ?_
 refine mv ?_
 refine TL.unmet (b := true) rfl rfl rfl rfl (lb rfl) ?_
 refine TL.unmet (b := true) rfl rfl rfl rfl (lb rfl) ?_
 refine tp (PV.pick rfl rfl rfl) ?_
 refine nx J3 ?_
 clear J3
 refine TC.yes rfl ?_
 refine sr fun _ J14 => ?_
 refine tp (PV.build (cells := (ints CellT.zero.flat).toArray) rfl rfl (by as_aux_lemma => kernel_rfl)) ?_
 refine TL.store (vs := ints CellT.zero.flat) (i := 0) (Want.plain rfl) rfl rfl rfl rfl rfl (by rw [(CellT.len CellT.zero)]; exact sz70) (ints_one _) rfl rfl (by have h0 := (CellT.len CellT.zero); have h1 := (CellT.len CellT.zero); omega) (wwhole ((CellT.len CellT.zero).trans (CellT.len CellT.zero).symm)) rfl ?_
 refine sg' ?_
 refine nx J14 ?_
 clear J14
 refine TC.ret ?_
 refine TE.passRet ?_
 clear J2
 refine TE.retCT (H' := []) rfl rfl rfl Y70 rfl sz70 (Rd.own 0 rfl rfl) (CellT.len CellT.zero) (fun _ s => sep_keep [] rfl s) ?_
 exact ⟨by simp [rowCell, *], rfl⟩
theorem witnesses_does (who : Int) :
 Leg.Does Tryz.prog 111 #[(.int .i64 (who))] (fun _ => True) [] (Ret (fun r' H => ∃ u, r' = u ∧ H = [own u (witL who).length (ints (witL who)) 3 1])) := by
 refine Leg.Does.body (n := 20) Tryz.func111 rfl rfl rfl (fun w0 F hF => sr fun _ J1 => PS ?_)
 refine nx J1 (TC.seq fun _ J2 => sr fun _ J3 => PS ?_)
 refine CE nm94 (vmachine_does who) (fun _ s => s) ?_
 refine TL.decB (fun h6 => ?_) (fun h6 => ?_)
 have hm : 0 ≤ who ∧ who < 5 := of_decide_eq_true h6
 refine tp (PV.not (r := false) rfl rfl rfl) ?_
 refine nx J3 (CN (CX J2 (sr fun _ J4 => TL.ownNilI 3 1 (fun on => ?_))))
 clear on
 refine PS ?_
 refine nx J4 (TC.seq fun _ J5 => sr fun _ J6 => PS ?_)
 refine nx J6 (TC.block (TC.unroll 3 (TC.seq fun _ J7 => sr fun _ J8 => PS ?_)))
 refine PS ?_
 refine nx J8 (CY (CX J7 (TC.seq fun _ J9 => TC.block (TC.region ?_))))
 iterate 3 refine PS ?_
 refine tp (PV.add (r := (who + 1)) rfl rfl rfl (wrap_i64 (by omega) (by omega))) ?_
 refine tp (PV.rem (r := ((who + 1) % 5)) rfl rfl rfl (by omega) (rem_pos (by omega))) ?_
 refine TL.buildSlice (cells := #[(.int .i64 (((who + 1) % 5)))]) (Want.plain rfl) rfl rfl rfl Y155 in3 rfl rfl rfl (by as_aux_lemma => kernel_rfl) (fun b17 => TL.append (k := 1) (news := [(.int .i64 (((who + 1) % 5)))]) (nn' := 1) (xs' := [(.int .i64 (((who + 1) % 5)))]) (Want.plain rfl) rfl rfl rfl Y155 in3 rfl rfl rfl rfl rfl rfl (fun _ _ => Src.rd rfl (RO 0) rfl) (by simp [Value.oneCell']) (by simp only [maxLen]; omega) (by omega) (by simp) (by simp) (fun v18 ov18 => PS ?_))
 refine TL.nil (TE.blockEnd (TE.next J9 (TC.region (PS ?_))))
 refine tp (PV.add (r := 2) rfl rfl rfl (by decide)) ?_
 refine PS ?_
 refine TL.nil (TE.again (TC.seq fun _ J10 => sr fun _ J11 => PS ?_))
 refine PS ?_
 refine nx J11 (CY (CX J10 (TC.seq fun _ J12 => TC.block (TC.region ?_))))
 iterate 3 refine PS ?_
 refine tp (PV.add (r := (who + 2)) rfl rfl rfl (wrap_i64 (by omega) (by omega))) ?_
 refine tp (PV.rem (r := ((who + 2) % 5)) rfl rfl rfl (by omega) (rem_pos (by omega))) ?_
 refine TL.mono (H' := [own v18 (1) ([(.int .i64 (((who + 1) % 5)))]) 3 1]) (fun _ s => sep_keep [1] rfl s) (TL.buildSlice (cells := #[(.int .i64 (((who + 2) % 5)))]) (Want.plain rfl) rfl rfl rfl Y155 in3 rfl rfl rfl (by as_aux_lemma => kernel_rfl) (fun b17 => TL.append (k := 1) (news := [(.int .i64 (((who + 2) % 5)))]) (nn' := 1 + 1) (xs' := [(.int .i64 (((who + 1) % 5)))] ++ [(.int .i64 (((who + 2) % 5)))]) (Want.plain rfl) rfl rfl rfl Y155 in3 rfl rfl rfl rfl rfl rfl (fun _ _ => Src.rd rfl (RO 0) rfl) (by simp [Value.oneCell']) (by simp only [maxLen]; omega) (by omega) (by simp) (by simp) (fun v18 ov18 => PS ?_)))
 refine TL.nil (TE.blockEnd (TE.next J12 (TC.region (PS ?_))))
 refine tp (PV.add (r := 3) rfl rfl rfl (by decide)) ?_
 refine PS ?_
 refine TL.nil (TE.again (TC.seq fun _ J13 => sr fun _ J14 => PS ?_))
 refine PS ?_
 refine nx J14 (CN (TC.exit (TE.pass (TE.pass (TE.hit (TE.next J5 (sr fun _ J15 => PS ?_)))))))
 refine PS ?_
 refine nx J15 (TC.ret (WK [1] (TE.ret1 rfl rfl ?_)))
 exact ⟨_, rfl, by rw [witL, if_pos h6]; rfl⟩
 refine tp (PV.not (r := true) rfl rfl rfl) ?_
 refine nx J3 (CY (sr fun _ J16 => PS ?_))
 refine nx J16 (TC.ret (TE.passRet (TE.weak (H' := [own (.slice none 0 0) 0 [] 3 1]) (Sub.refl _) (fun _ s => sep_ownNil 3 1 s) (TE.ret1 rfl rfl ?_))))
 exact ⟨_, rfl, by rw [witL, if_neg (by simp [h6])]; rfl⟩
end Go.Proofs.YtohmkchalilodaaGreatDoor
end

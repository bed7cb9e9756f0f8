/-
  What was read from bytes has those bytes: cells, rows, views, changes, ballots, in plain words.
-/
import Derived.Test.YtdekgkmbcdlekaaCodecT
import Derived.Test.YtdekgkmbcdlekaaCodecU
namespace Codec
open Go Leg Api

theorem pb_inv {α β : Type} {p : Ps α} {q : α → Ps β} {bs r : List UInt8} {b : β} (h : pb p q bs = some (b, r)) : ∃ a r', p bs = some (a, r') ∧ q a r' = some (b, r) := by
  cases e : p bs with
  | none => rw [pb_none e] at h; cases h
  | some x => obtain ⟨a, r'⟩ := x; rw [pb_some e] at h; exact ⟨a, r', rfl, h⟩
theorem pr_inv {α : Type} {a b : α} {bs r : List UInt8} (h : pr a bs = some (b, r)) : a = b ∧ bs = r := by
  simp only [pr, Option.some.injEq, Prod.mk.injEq] at h; exact h
theorem small_spec {lim n : Int} {bs r : List UInt8} (h : smallP lim bs = some (n, r)) : (0 ≤ n ∧ n < lim ∧ n < 9223372036854775808) ∧ bs = encN n ++ r := by
  obtain ⟨a, r', h1, h2⟩ := pb_inv h
  obtain ⟨k1, k2, k3⟩ := numP_spec h1
  split at h2
  · cases h2
  · obtain ⟨rfl, rfl⟩ := pr_inv h2
    exact ⟨⟨k1, by omega, k2⟩, k3⟩
theorem cell_spec {c : CellT} {bs r : List UInt8} (h : cellP bs = some (c, r)) : TameC c ∧ bs = encs c.flat ++ r := by
  obtain ⟨i, _, h1, h⟩ := pb_inv h
  obtain ⟨o, _, h2, h⟩ := pb_inv h
  obtain ⟨a, _, h3, h⟩ := pb_inv h
  obtain ⟨b, _, h4, h⟩ := pb_inv h
  obtain ⟨d, _, h5, h⟩ := pb_inv h
  obtain ⟨e, _, h6, h⟩ := pb_inv h
  obtain ⟨f, _, h7, h⟩ := pb_inv h
  obtain ⟨rfl, rfl⟩ := pr_inv h
  obtain ⟨k1, rfl⟩ := small_spec h1
  obtain ⟨k2, rfl⟩ := small_spec h2
  obtain ⟨k3, rfl⟩ := small_spec h3
  obtain ⟨k4, rfl⟩ := small_spec h4
  obtain ⟨k5, rfl⟩ := small_spec h5
  obtain ⟨k6, rfl⟩ := small_spec h6
  obtain ⟨k7, rfl⟩ := small_spec h7
  have s : ∀ {n : Int}, (0 ≤ n ∧ n < 1099511627777 ∧ n < 9223372036854775808) → Small n := fun h => ⟨h.1, h.2.1⟩
  refine ⟨⟨s k1, s k2, fun j hj => ?_⟩, by simp [CellT.flat, encs]⟩
  match j, hj with
  | 0, _ => exact s k3
  | 1, _ => exact s k4
  | 2, _ => exact s k5
  | 3, _ => exact s k6
  | 4, _ => exact s k7
theorem view_spec {v : ViewT} {bs r : List UInt8} (h : viewP bs = some (v, r)) : ((0 ≤ v.epoch ∧ v.epoch < 9223372036854775808) ∧ (0 ≤ v.members ∧ v.members < 32) ∧ ∀ (i : Nat) (hi : i < 5), 0 ≤ v.heirs[i] ∧ v.heirs[i] < 6) ∧ bs = encs v.flat ++ r := by
  obtain ⟨i, _, h1, h⟩ := pb_inv h
  obtain ⟨o, _, h2, h⟩ := pb_inv h
  obtain ⟨a, _, h3, h⟩ := pb_inv h
  obtain ⟨b, _, h4, h⟩ := pb_inv h
  obtain ⟨d, _, h5, h⟩ := pb_inv h
  obtain ⟨e, _, h6, h⟩ := pb_inv h
  obtain ⟨f, _, h7, h⟩ := pb_inv h
  obtain ⟨rfl, rfl⟩ := pr_inv h
  obtain ⟨k1, k1', rfl⟩ := numP_spec h1
  obtain ⟨k2, rfl⟩ := small_spec h2
  obtain ⟨k3, rfl⟩ := small_spec h3
  obtain ⟨k4, rfl⟩ := small_spec h4
  obtain ⟨k5, rfl⟩ := small_spec h5
  obtain ⟨k6, rfl⟩ := small_spec h6
  obtain ⟨k7, rfl⟩ := small_spec h7
  refine ⟨⟨⟨k1, k1'⟩, ⟨k2.1, k2.2.1⟩, fun j hj => ?_⟩, by simp [ViewT.flat, encs]⟩
  match j, hj with
  | 0, _ => exact ⟨k3.1, k3.2.1⟩
  | 1, _ => exact ⟨k4.1, k4.2.1⟩
  | 2, _ => exact ⟨k5.1, k5.2.1⟩
  | 3, _ => exact ⟨k6.1, k6.2.1⟩
  | 4, _ => exact ⟨k7.1, k7.2.1⟩
theorem change_spec {c : ChangeT} {bs r : List UInt8} (h : changeP bs = some (c, r)) : ((0 ≤ c.kind ∧ c.kind < 2) ∧ (0 ≤ c.who ∧ c.who < 5) ∧ (0 ≤ c.heir ∧ c.heir < 5)) ∧ bs = encs c.flat ++ r := by
  obtain ⟨a, _, h1, h⟩ := pb_inv h
  obtain ⟨b, _, h2, h⟩ := pb_inv h
  obtain ⟨d, _, h3, h⟩ := pb_inv h
  obtain ⟨rfl, rfl⟩ := pr_inv h
  obtain ⟨k1, rfl⟩ := small_spec h1
  obtain ⟨k2, rfl⟩ := small_spec h2
  obtain ⟨k3, rfl⟩ := small_spec h3
  exact ⟨⟨⟨k1.1, k1.2.1⟩, ⟨k2.1, k2.2.1⟩, ⟨k3.1, k3.2.1⟩⟩, by simp [ChangeT.flat, encs]⟩
theorem ballot_spec {b : BallotT} {bs r : List UInt8} (h : ballotP bs = some (b, r)) : ((0 ≤ b.round ∧ b.round < 9223372036854775808) ∧ (0 ≤ b.who ∧ b.who < 5)) ∧ bs = encs b.flat ++ r := by
  obtain ⟨a, _, h1, h⟩ := pb_inv h
  obtain ⟨d, _, h2, h⟩ := pb_inv h
  obtain ⟨rfl, rfl⟩ := pr_inv h
  obtain ⟨k1, k1', rfl⟩ := numP_spec h1
  obtain ⟨k2, rfl⟩ := small_spec h2
  exact ⟨⟨⟨k1, k1'⟩, ⟨k2.1, k2.2.1⟩⟩, by simp [BallotT.flat, encs]⟩
theorem cells_spec : ∀ (m k : Nat) (x y : RowT) (bs r : List UInt8), m = 4 - k → k ≤ 4 → cellsP m k x bs = some (y, r) →
    (y.version = x.version ∧ y.heir = x.heir ∧ y.left = x.left) ∧ (∀ j (h : j < 4), j < k → y.cells[j] = x.cells[j]) ∧ (∀ j (h : j < 4), k ≤ j → TameC y.cells[j]) ∧ bs = encs (flats (y.cells.toList.drop k)) ++ r
  | 0, k, x, y, bs, r, hm, hk, h => by
    obtain ⟨rfl, rfl⟩ := pr_inv h
    obtain rfl : k = 4 := by omega
    exact ⟨⟨rfl, rfl, rfl⟩, fun _ _ _ => rfl, fun j h h' => by omega, by rw [List.drop_eq_nil_of_le (by simp)]; rfl⟩
  | m + 1, k, x, y, bs, r, hm, hk, h => by
    have hk4 : k < 4 := by omega
    obtain ⟨c, r', h1, h2⟩ := pb_inv h
    obtain ⟨k1, rfl⟩ := cell_spec h1
    rw [dif_pos hk4] at h2
    obtain ⟨i1, i2, i3, rfl⟩ := cells_spec m (k + 1) _ y r' r (by omega) (by omega) h2
    have e : y.cells[k] = c := by rw [i2 k hk4 (by omega)]; simp
    refine ⟨i1, fun j h hj => by rw [i2 j h (by omega)]; simp [Vector.getElem_set, show k ≠ j by omega], fun j h hj => ?_, ?_⟩
    · by_cases q : j = k
      · subst q; rw [e]; exact k1
      · exact i3 j h (by omega)
    · rw [flats_drop (l := y.cells.toList) (k := k) (by simpa using hk4), Vector.getElem_toList, e, List.append_assoc]
theorem left_spec {i : Nat} (hi : i < 5) : ∀ (m k : Nat) (x y : RowT) (bs r : List UInt8), m = 4 - k → k ≤ 4 → leftP m i k x bs = some (y, r) →
    (y.version = x.version ∧ y.heir = x.heir ∧ y.cells = x.cells) ∧ (∀ j (h : j < 5), j ≠ i → y.left[j] = x.left[j]) ∧ (∀ j (h : j < 4), j < k → y.left[i][j] = x.left[i][j]) ∧ (∀ j (h : j < 4), k ≤ j → TameC y.left[i][j]) ∧ bs = encs (flats (y.left[i].toList.drop k)) ++ r
  | 0, k, x, y, bs, r, hm, hk, h => by
    obtain ⟨rfl, rfl⟩ := pr_inv h
    obtain rfl : k = 4 := by omega
    exact ⟨⟨rfl, rfl, rfl⟩, fun _ _ _ => rfl, fun _ _ _ => rfl, fun j h h' => by omega, by rw [List.drop_eq_nil_of_le (by simp)]; rfl⟩
  | m + 1, k, x, y, bs, r, hm, hk, h => by
    have hk4 : k < 4 := by omega
    obtain ⟨c, r', h1, h2⟩ := pb_inv h
    obtain ⟨k1, rfl⟩ := cell_spec h1
    rw [dif_pos ⟨hi, hk4⟩] at h2
    obtain ⟨i1, i2, i3, i4, rfl⟩ := left_spec hi m (k + 1) _ y r' r (by omega) (by omega) h2
    have e : y.left[i][k] = c := by rw [i3 k hk4 (by omega)]; simp
    refine ⟨i1, fun j h hj => by rw [i2 j h hj]; simp [Vector.getElem_set, Ne.symm hj], fun j h hj => by rw [i3 j h (by omega)]; simp [Vector.getElem_set, show k ≠ j by omega], fun j h hj => ?_, ?_⟩
    · by_cases q : j = k
      · subst q; rw [e]; exact k1
      · exact i4 j h (by omega)
    · rw [flats_drop (l := y.left[i].toList) (k := k) (by simpa using hk4), Vector.getElem_toList, e, List.append_assoc]
theorem tame_zero : TameC CellT.zero := by rw [← tameC_zero]; exact tameC_ok _
theorem heirs_spec : ∀ (m i : Nat) (x y : RowT) (bs r : List UInt8), m = 5 - i → i ≤ 5 → (∀ j (h : j < 5), i ≤ j → x.left[j] = RowT.zero.left[0]) → heirsP m i x bs = some (y, r) →
    (y.version = x.version ∧ y.cells = x.cells) ∧ (∀ j (h : j < 5), j < i → y.heir[j] = x.heir[j] ∧ y.left[j] = x.left[j]) ∧
    (∀ j (h : j < 5), i ≤ j → (0 ≤ y.heir[j] ∧ y.heir[j] < 9223372036854775808) ∧ (∀ k (hk : k < 4), TameC y.left[j][k]) ∧ (y.heir[j] = (0 : Int) → y.left[j] = RowT.zero.left[0])) ∧ bs = encHeirs y m i ++ r
  | 0, i, x, y, bs, r, hm, hi, hz, h => by
    obtain ⟨rfl, rfl⟩ := pr_inv h
    obtain rfl : i = 5 := by omega
    exact ⟨⟨rfl, rfl⟩, fun _ _ _ => ⟨rfl, rfl⟩, fun j h h' => by omega, rfl⟩
  | m + 1, i, x, y, bs, r, hm, hi, hz, h => by
    have hi5 : i < 5 := by omega
    have zt : ∀ k (hk : k < 4), TameC (RowT.zero.left[0])[k] := fun k hk => by
      match k, hk with
      | 0, _ | 1, _ | 2, _ | 3, _ => exact tame_zero
    obtain ⟨n, r', h1, h2⟩ := pb_inv h
    obtain ⟨k1, k2, rfl⟩ := numP_spec h1
    simp only [dif_pos hi5] at h2
    split at h2
    · rename_i hn
      obtain ⟨z, r2, h3, h4⟩ := pb_inv h2
      obtain ⟨⟨i1, i2, i3⟩, i4, _, i5, rfl⟩ := left_spec hi5 4 0 _ z r' r2 rfl (by omega) h3
      obtain ⟨⟨j1, j2⟩, j3, j4, rfl⟩ := heirs_spec m (i + 1) z y r2 r (by omega) (by omega) (fun j h hj => by rw [i4 j h (by omega)]; exact hz j h (by omega)) h4
      have e1 : y.heir[i] = n := by rw [(j3 i hi5 (by omega)).1, show z.heir[i] = (x.heir.set i n)[i] from by rw [i2]]; simp
      have e2 : y.left[i] = z.left[i] := (j3 i hi5 (by omega)).2
      refine ⟨⟨by rw [j1, i1], by rw [j2, i3]⟩, fun j h hj => ⟨?_, ?_⟩, fun j h hj => ?_, ?_⟩
      · rw [(j3 j h (by omega)).1, show z.heir[j] = (x.heir.set i n)[j] from by rw [i2]]; simp [Vector.getElem_set, show i ≠ j by omega]
      · rw [(j3 j h (by omega)).2, i4 j h (by omega)]
      · by_cases q : j = i
        · subst q
          rw [e1, e2]
          exact ⟨⟨k1, k2⟩, fun k hk => i5 k hk (by omega), fun e => by omega⟩
        · exact j4 j h (by omega)
      · simp only [encHeirs, dif_pos hi5, e1, if_pos hn, e2, List.append_assoc, List.drop_zero]
    · rename_i hn
      obtain ⟨⟨j1, j2⟩, j3, j4, rfl⟩ := heirs_spec m (i + 1) { x with heir := x.heir.set i n } y r' r (by omega) (by omega) (fun j h hj => hz j h (by omega)) h2
      have e1 : y.heir[i] = n := by rw [(j3 i hi5 (by omega)).1]; simp
      have e2 : y.left[i] = x.left[i] := (j3 i hi5 (by omega)).2
      refine ⟨⟨j1, j2⟩, fun j h hj => ⟨?_, ?_⟩, fun j h hj => ?_, ?_⟩
      · rw [(j3 j h (by omega)).1]; simp [Vector.getElem_set, show i ≠ j by omega]
      · rw [(j3 j h (by omega)).2]
      · by_cases q : j = i
        · subst q
          rw [e1, e2, hz j hi5 (Nat.le_refl _)]
          exact ⟨⟨k1, k2⟩, zt, fun _ => rfl⟩
        · exact j4 j h (by omega)
      · simp only [encHeirs, dif_pos hi5, e1, if_neg hn, List.nil_append, List.append_nil, List.append_assoc]
theorem row_spec {x : RowT} {bs r : List UInt8} (h : rowP bs = some (x, r)) : TameR x ∧ bs = encRow x ++ r := by
  obtain ⟨n, r1, h1, h'⟩ := pb_inv h
  clear h
  obtain ⟨k1, k2, rfl⟩ := numP_spec h1
  replace h' : pb (cellsP 4 0 { RowT.zero with version := n }) (heirsP 5 0) r1 = some (x, r) := h'
  obtain ⟨y, r2, h2, h3⟩ := pb_inv h'
  clear h'
  obtain ⟨⟨i1, i2, i3⟩, _, i4, rfl⟩ := cells_spec 4 0 _ y r1 r2 rfl (by omega) h2
  obtain ⟨⟨j1, j2⟩, _, j3, rfl⟩ := heirs_spec 5 0 y x r2 r rfl (by omega) (fun j h _ => by
    rw [show y.left[j] = RowT.zero.left[j] from by rw [i3]]
    match j, h with
    | 0, _ | 1, _ | 2, _ | 3, _ | 4, _ => rfl) h3
  have ev : x.version = n := by rw [j1, i1]
  refine ⟨⟨by rw [ev]; exact ⟨k1, k2⟩, fun k hk => by rw [show x.cells[k] = y.cells[k] from by rw [j2]]; exact i4 k hk (by omega), fun i hi => (j3 i hi (by omega)).1, fun i k hi hk => (j3 i hi (by omega)).2.1 k hk, fun i hi => (j3 i hi (by omega)).2.2⟩, ?_⟩
  rw [encRow, ev, j2, List.drop_zero]
  simp only [List.append_assoc]
end Codec

/-
  Joined texts: what a statement's proof reaches.
-/
import Derived.Test.YtfceaphohlbnbaaGreatPStarts6
set_option maxHeartbeats 8000000
section
namespace Api
open Go Leg Codec Dsk Wal
variable {y : RepT} {lg k : Nat} {c : RowT}

theorem askB_nat {q : Nat} (hq : q < 4) (n : Int) : askB ((q : Nat) : Int) n = decide (1 ≤ n ∧ n ≤ 1099511627776) := by
  unfold askB
  rw [keyB_nat hq, Bool.true_and, show okN n = decide (0 ≤ n ∧ n ≤ 1099511627776) from rfl, ← Bool.decide_and]
  exact decide_eq_decide.2 (by omega)
def cellOf (x : CellT) (kd n a3 : Int) : CellT :=
  if kd = 0 then { x with inn := x.inn + n } else if kd = 1 then { x with out := x.out + n } else giveTo x a3 (givenOf x a3 + n)
theorem given_le {x : CellT} (h : CellOk x) (j : Int) : 0 ≤ givenOf x j ∧ givenOf x j ≤ 1099511627776 := by
  unfold givenOf
  split
  · rename_i hj
    have h5 := mach_lt hj
    obtain ⟨_, _, ⟨g0, g1, g2, g3, g4⟩, hs⟩ := h
    obtain ⟨q, hq⟩ : ∃ q, q = j.toNat := ⟨_, rfl⟩
    subst hq
    have : ∀ (q : Nat) (hq : q < 5), 0 ≤ (x.given[q] : Int) ∧ (x.given[q] : Int) ≤ 1099511627776 := fun q hq => by
      match q, hq with
      | 0, _ | 1, _ | 2, _ | 3, _ | 4, _ => exact ⟨by assumption, by omega⟩
    exact this _ h5
  · exact ⟨by decide, by decide⟩
def totC (x : CellT) (kd : Int) : Int := if kd = 0 then x.inn else if kd = 1 then x.out else sumG x
def grown (y : RowT) (q : Nat) (hq : q < 4) (x : CellT) : RowT := { y with cells := y.cells.set q x hq, version := y.version + 1 }
theorem moreR_eq {y : RowT} {q : Nat} (hq : q < 4) (hv : 0 ≤ y.version ∧ y.version ≤ 1000000) (n counts : Int) (x : CellT) : moreR y ((q : Nat) : Int) n counts x = if counts + n > 1099511627776 then (.zero, 6) else (grown y q hq x, 0) := by
  unfold moreR
  have hput : putCell y ((q : Nat) : Int) x = { y with cells := y.cells.set q x hq } := by unfold putCell; rw [dif_pos (keyB_nat hq)]; rfl
  rw [hput, w64_eq (n := y.version + 1) (by omega) (by omega)]
  by_cases b : counts > 1099511627776 - n
  · rw [if_pos b, if_pos (show counts + n > 1099511627776 by omega)]
  · rw [if_neg b, if_neg (show ¬ counts + n > 1099511627776 by omega)]; rfl
theorem grow_eq (h : RunI y lg k c) (hk : k ≤ 1000) (o : OpT) {q : Nat} (hq : q < 4) (hkey : o.key = ((q : Nat) : Int)) (hkd : o.kind = 0 ∨ o.kind = 1 ∨ o.kind = 2) :
    growOf (opsF y) o = if o.n < 1 ∨ o.n > 1099511627776 ∨ (o.kind = 2 ∧ (o.to' < 1 ∨ o.to' > 4)) then (.zero, 5) else if totC y.own.cells[q] o.kind + o.n > 1099511627776 then (.zero, 6) else (grown y.own q hq (cellOf y.own.cells[q] o.kind o.n o.to'), 0) := by
  have hid : (opsF y).id = 0 := h.lone.id
  have hc := h.lone.own.cells q hq
  have hv := h.lone.own.ver
  have hv2 : 0 ≤ y.own.version ∧ y.own.version ≤ 1000000 := by omega
  unfold growOf
  rw [hid, hkey, show (opsF y).own = y.own from rfl]
  unfold totC cellOf
  rcases hkd with e | e | e
  · rw [if_pos e, if_pos e, if_pos e]
    unfold rowInc
    rw [cellAt_nat _ hq, askB_nat hq, moreR_eq hq hv2]
    have h1 := hc.inn
    by_cases a : o.n < 1 ∨ o.n > 1099511627776
    · rw [decide_eq_false (show ¬ (1 ≤ o.n ∧ o.n ≤ 1099511627776) by omega), if_pos (show o.n < 1 ∨ o.n > 1099511627776 ∨ (o.kind = 2 ∧ (o.to' < 1 ∨ o.to' > 4)) by omega)]; rfl
    · rw [decide_eq_true (show 1 ≤ o.n ∧ o.n ≤ 1099511627776 by omega), if_neg (show ¬ (o.n < 1 ∨ o.n > 1099511627776 ∨ (o.kind = 2 ∧ (o.to' < 1 ∨ o.to' > 4))) by omega), w64_eq (n := y.own.cells[q].inn + o.n) (by omega) (by omega)]; rfl
  · have e0 : ¬ o.kind = 0 := by omega
    rw [if_neg e0, if_pos e, if_neg e0, if_pos e, if_neg e0, if_pos e]
    unfold rowDec
    rw [cellAt_nat _ hq, askB_nat hq, moreR_eq hq hv2]
    have h1 := hc.out
    by_cases a : o.n < 1 ∨ o.n > 1099511627776
    · rw [decide_eq_false (show ¬ (1 ≤ o.n ∧ o.n ≤ 1099511627776) by omega), if_pos (show o.n < 1 ∨ o.n > 1099511627776 ∨ (o.kind = 2 ∧ (o.to' < 1 ∨ o.to' > 4)) by omega)]; rfl
    · rw [decide_eq_true (show 1 ≤ o.n ∧ o.n ≤ 1099511627776 by omega), if_neg (show ¬ (o.n < 1 ∨ o.n > 1099511627776 ∨ (o.kind = 2 ∧ (o.to' < 1 ∨ o.to' > 4))) by omega), w64_eq (n := y.own.cells[q].out + o.n) (by omega) (by omega)]; rfl
  · have e0 : ¬ o.kind = 0 := by omega
    have e1 : ¬ o.kind = 1 := by omega
    rw [if_neg e0, if_neg e1, if_pos e, if_neg e0, if_neg e1, if_neg e0, if_neg e1]
    have hg := given_le hc o.to'
    by_cases t : o.to' = 0
    · rw [if_neg (show ¬ o.to' ≠ 0 by omega), if_pos (show o.n < 1 ∨ o.n > 1099511627776 ∨ (o.kind = 2 ∧ (o.to' < 1 ∨ o.to' > 4)) by omega)]
    · rw [if_pos (show o.to' ≠ 0 from t)]
      unfold rowGive
      rw [cellAt_nat _ hq, askB_nat hq, moreR_eq hq hv2]
      by_cases a : o.n < 1 ∨ o.n > 1099511627776 ∨ (o.kind = 2 ∧ (o.to' < 1 ∨ o.to' > 4))
      · have : (machB o.to' && decide (1 ≤ o.n ∧ o.n ≤ 1099511627776)) = false := by
          by_cases m : machB o.to' = true
          · have : 0 ≤ o.to' ∧ o.to' < 5 := of_decide_eq_true m
            rw [decide_eq_false (show ¬ (1 ≤ o.n ∧ o.n ≤ 1099511627776) by omega), Bool.and_false]
          · rw [Bool.not_eq_true] at m; rw [m, Bool.false_and]
        rw [this, if_pos a]; rfl
      · have m : (machB o.to' && decide (1 ≤ o.n ∧ o.n ≤ 1099511627776)) = true := by
          rw [show machB o.to' = true from decide_eq_true (show 0 ≤ o.to' ∧ o.to' < 5 by omega), decide_eq_true (show 1 ≤ o.n ∧ o.n ≤ 1099511627776 by omega)]; rfl
        rw [m, if_pos rfl, if_neg a, w64_eq (n := givenOf y.own.cells[q] o.to' + o.n) (by omega) (by omega)]
theorem memb0 : memb firstV 0 = true := by decide +kernel
end Api
namespace Api
open Go Leg Codec Dsk Wal
variable {y : RepT} {lg k : Nat} {c : RowT}
theorem cN_ok (h : RunI y lg k c) (hk : k ≤ 1000) (o : OpT) {b : Bool} {q : Nat} (hq : q < 4) (hb : b = true ↔ 0 ≤ o.key ∧ o.key < 4) (hkey : b = true → o.key = ((q : Nat) : Int)) (hkd : 0 ≤ o.kind ∧ o.kind < 4) (he : (cN y o).2.2 = 0) (h3 : o.kind ≠ 3) :
    y.busy = false ∧ (cN y o).1 = grown y.own q hq (cellOf y.own.cells[q] o.kind o.n o.to') ∧ 1 ≤ o.n ∧ totC y.own.cells[q] o.kind + o.n ≤ 1099511627776 ∧ (o.kind = 2 → 1 ≤ o.to' ∧ o.to' ≤ 4) := by
  unfold cN planF at he ⊢
  rw [show (opsF y).view = y.view from rfl, show (opsF y).id = y.id from rfl, h.lone.view, h.lone.id, memb0, if_neg (show ¬ (true = false) by decide)] at he ⊢
  cases b with
  | true =>
    have hkb : keyB o.key = true := decide_eq_true (hb.1 rfl)
    rw [hkb, if_neg (show ¬ (true = false) by decide), if_neg h3, show (opsF y).busy = y.busy from rfl] at he ⊢
    by_cases hbs : y.busy = true
    · rw [if_pos hbs] at he; exact absurd (show (8 : Int) = 0 from he) (by decide)
    · rw [if_neg hbs, grow_eq h hk o hq (hkey rfl) (by omega)] at he ⊢
      refine ⟨by simpa using hbs, ?_⟩
      by_cases a : o.n < 1 ∨ o.n > 1099511627776 ∨ (o.kind = 2 ∧ (o.to' < 1 ∨ o.to' > 4))
      · simp only [if_pos a] at he; rw [if_pos (show (5 : Int) ≠ 0 by decide)] at he; exact absurd (show (5 : Int) = 0 from he) (by decide)
      · simp only [if_neg a] at he ⊢
        by_cases w : totC y.own.cells[q] o.kind + o.n > 1099511627776
        · simp only [if_pos w] at he; rw [if_pos (show (6 : Int) ≠ 0 by decide)] at he; exact absurd (show (6 : Int) = 0 from he) (by decide)
        · simp only [if_neg w] at he ⊢
          rw [if_neg (show ¬ (0 : Int) ≠ 0 by decide)] at he ⊢
          split at he
          · exact absurd he (by decide)
          · rename_i hr
            rw [if_neg hr]
            exact ⟨rfl, by omega, by omega, fun _ => by omega⟩
  | false =>
    have hkb : keyB o.key = false := decide_eq_false fun x => (nomatch hb.2 x)
    rw [hkb, if_pos (show false = false from rfl)] at he
    exact absurd (show (5 : Int) = 0 from he) (by decide)
theorem giveTo_self {x : CellT} {a3 v : Int} (h : 1 ≤ a3 ∧ a3 ≤ 4) : (giveTo x a3 v).given[0] = x.given[0] := by
  unfold giveTo
  rw [dif_pos (show machB a3 = true from decide_eq_true (show 0 ≤ a3 ∧ a3 < 5 by omega))]
  show (x.given.set a3.toNat v (by omega))[0] = _
  rw [Vector.getElem_set_ne _ _ (by omega)]
theorem cellOf_self {x : CellT} {kd n a3 : Int} (h0 : x.given[0] = (0 : Int)) (hkd : 0 ≤ kd ∧ kd < 3) (h : kd = 2 → 1 ≤ a3 ∧ a3 ≤ 4) : (cellOf x kd n a3).given[0] = (0 : Int) := by
  unfold cellOf
  by_cases e0 : kd = 0
  · rw [if_pos e0]; exact h0
  · rw [if_neg e0]
    by_cases e1 : kd = 1
    · rw [if_pos e1]; exact h0
    · rw [if_neg e1, giveTo_self (h (by omega))]; exact h0
theorem grown_cells (y : RowT) {q : Nat} (hq : q < 4) (x : CellT) {i : Nat} (hi : i < 4) : (grown y q hq x).cells[i] = if q = i then x else y.cells[i] := by
  show (y.cells.set q x hq)[i] = _
  rw [Vector.getElem_set]
theorem RunOk.small {y : RowT} {k : Nat} (h : RunOk y k) {q : Nat} (hq : q < 4) : (-8796093022208 ≤ (haveV y)[q] ∧ (haveV y)[q] ≤ 8796093022208) ∧ (-8796093022208 ≤ (valV y)[q] ∧ (valV y)[q] ≤ 8796093022208) := by
  obtain ⟨h1, h2, ⟨g0, g1, g2, g3, g4⟩, hs⟩ := h.ok.cells q hq
  rw [haveV_at _ hq, valV_at _ hq]
  unfold hasC valC
  generalize y.cells[q].given[0] = e0 at *
  generalize y.cells[q].given[1] = e1 at *
  generalize y.cells[q].given[2] = e2 at *
  generalize y.cells[q].given[3] = e3 at *
  generalize y.cells[q].given[4] = e4 at *
  generalize y.cells[q].inn = a at *
  generalize y.cells[q].out = b at *
  omega
theorem done_iff (y : RepT) (o : OpT) : doneB y o = true ↔ (cN y o).2.2 ≠ 0 ∨ o.kind = 3 := by unfold doneB; rw [decide_eq_true_iff]
theorem RunI.client (h : RunI y lg k c) (hk : k ≤ 1000) (o : OpT) {b : Bool} {q : Nat} (hq : q < 4) (hb : b = true ↔ 0 ≤ o.key ∧ o.key < 4) (hkey : b = true → o.key = ((q : Nat) : Int)) (hkd : 0 ≤ o.kind ∧ o.kind < 4) : RunI (clientX y o) lg (k + 1) c := by
  have hl := h.lone.client (by omega) o
  have ho := h.ops
  have how : w64 (y.ops + 1) = y.ops + 1 := w64_eq (by omega) (by omega)
  unfold clientX at hl ⊢
  by_cases hd : doneB y o = true
  · rw [if_pos hd] at hl ⊢
    exact ⟨hl, h.self, h.com.more (Nat.le_succ _), h.book, h.free, h.bsy, by show 0 ≤ w64 (y.ops + 1) ∧ w64 (y.ops + 1) ≤ _; rw [how]; omega⟩
  · rw [if_neg hd] at hl ⊢
    have hd2 := fun x => hd ((done_iff y o).2 x)
    have he : (cN y o).2.2 = 0 := Classical.byContradiction fun e => hd2 (Or.inl e)
    have h3 : o.kind ≠ 3 := fun e => hd2 (Or.inr e)
    obtain ⟨hbs, hr, hn, ht, hto⟩ := cN_ok h hk o hq hb hkey hkd he h3
    refine ⟨hl, fun i hi => ?_, h.com.more (Nat.le_succ _), h.book, fun q => (nomatch (show true = false from q)), fun _ => ⟨?_, Or.inl rfl, ?_⟩, ?_⟩
    · show (cN y o).1.cells[i].given[0] = (0 : Int)
      have : (cN y o).1.cells[i] = (grown y.own q hq (cellOf y.own.cells[q] o.kind o.n o.to')).cells[i] := by simp only [hr]
      rw [this, grown_cells _ hq _ hi]
      split
      · exact cellOf_self (h.self q hq) (by omega) hto
      · exact h.self i hi
    · show (cN y o).1.version = c.version + 1
      rw [hr, ← h.free hbs]; rfl
    · show 0 < w64 (y.ops + 1)
      rw [how]; omega
    · show 0 ≤ w64 (y.ops + 1) ∧ w64 (y.ops + 1) ≤ _; rw [how]; omega
end Api
namespace Api
open Go Leg Codec Dsk Wal
theorem RunI.more {y : RepT} {lg k m : Nat} {c : RowT} (h : RunI y lg k c) (hm : k ≤ m) : RunI y lg m c := ⟨h.lone.more hm, h.self, h.com.more hm, h.book, h.free, h.bsy, ⟨h.ops.1, by have := h.ops.2; omega⟩⟩
end Api
end

section
namespace Api
open Go Leg Codec Dsk Wal
def mirRec (w : Int) (x : RowT) : RecT := { RecT.zero with kind := 1, whose := w, row := x }
theorem mirRec_len (w : Int) (x : RowT) : (encR (mirRec w x)).length ≤ 1760 := by
  have h1 := encRow_len x
  have h2 := encs_len [(1 : Int), w]
  rw [show encR (mirRec w x) = encs [(1 : Int), w] ++ encRow x from rfl, List.length_append]
  simp only [List.length_cons, List.length_nil] at h2
  omega
theorem pieces34 {n : Nat} (h : n ≤ 1760) : piecesN n ≤ 34 := by unfold piecesN; split <;> omega
def keptMsg (v : Int) : MsgT := { MsgT.zero with kind := 1, version := v }
def rowB (x : RepT) (from' w : Int) : Bool := decide (w = from') && !mirSealed x.mirror w
def takeB (x : RepT) (from' w : Int) (y : RowT) : Bool := rowB x from' w && mirTakes x.mirror w y
def rowX (x : RepT) (from' w : Int) (y : RowT) : RepT := if takeB x from' w y then { x with mirror := (mirKeep x.mirror w y).1 } else x
def rowC (x : RepT) (from' w : Int) (y : RowT) (recs : List (List UInt8)) : List (List UInt8) := if takeB x from' w y then recs ++ [encR (mirRec w y)] else recs
def rowO (x : RepT) (from' w : Int) (y : RowT) : List SaidT := if rowB x from' w then [⟨from', keptMsg (mirRow (rowX x from' w y).mirror w).version⟩] else []
section
variable {x : RepT} {from' w : Int} {y : RowT} {recs : List (List UInt8)}
theorem row_no (h : rowB x from' w = false) : rowX x from' w y = x ∧ rowC x from' w y recs = recs ∧ rowO x from' w y = [] := by
  have e : takeB x from' w y = false := by unfold takeB; rw [h]; rfl
  unfold rowO rowX rowC
  rw [e, h]
  exact ⟨rfl, rfl, rfl⟩
theorem row_old (h : rowB x from' w = true) (t : mirTakes x.mirror w y = false) : rowX x from' w y = x ∧ rowC x from' w y recs = recs ∧ rowO x from' w y = [⟨from', keptMsg (mirRow x.mirror w).version⟩] := by
  have e : takeB x from' w y = false := by unfold takeB; rw [h, t]; rfl
  unfold rowO rowX rowC
  rw [e, h]
  exact ⟨rfl, rfl, rfl⟩
theorem row_yes (h : rowB x from' w = true) (t : mirTakes x.mirror w y = true) : rowX x from' w y = { x with mirror := (mirKeep x.mirror w y).1 } ∧ rowC x from' w y recs = recs ++ [encR (mirRec w y)] ∧ rowO x from' w y = [⟨from', keptMsg (mirRow (mirKeep x.mirror w y).1 w).version⟩] := by
  have e : takeB x from' w y = true := by unfold takeB; rw [h, t]; rfl
  unfold rowO rowX rowC
  rw [e, h]
  exact ⟨rfl, rfl, rfl⟩
end
section
variable {x : RepT} {from' w : Int} {v : ViewT} {recs : List (List UInt8)}
end
end Api
end

section
namespace Api
open Go Leg Codec Dsk Wal
theorem rowC_size (x : RepT) (f w : Int) (y : RowT) (recs : List (List UInt8)) : sizeS (rowC x f w y recs) ≤ sizeS recs + 34 := by
  unfold rowC
  split
  · rw [sizeS_add]; have := pieces34 (mirRec_len w y); omega
  · omega
theorem mirKeep_sealed (M : MirT) (w : Int) (y : RowT) (h : mirSealed M w = true) : mirKeep M w y = (M, false) := by
  unfold mirKeep
  rw [show mirTakes M w y = false from by unfold mirTakes; rw [h]; simp]
  rfl
def MirOk (M : MirT) : Prop := ∀ w : Int, WF (mirRow M w).flat
theorem mirRow_set (M : MirT) (w v : Int) (y : RowT) : mirRow (mirPut M w y) v = if machB w = true ∧ v = w then y else mirRow M v := by
  unfold mirPut
  by_cases hw : machB w = true
  · rw [dif_pos hw]
    unfold mirRow
    have h1 : 0 ≤ w ∧ w < 5 := of_decide_eq_true hw
    by_cases hv : machB v = true
    · have h2 : 0 ≤ v ∧ v < 5 := of_decide_eq_true hv
      rw [dif_pos hv, dif_pos hv]
      show (M.rows.set w.toNat y (mach_lt hw))[v.toNat]'(mach_lt hv) = _
      rw [Vector.getElem_set]
      by_cases e : v = w
      · rw [if_pos (by omega), if_pos ⟨hw, e⟩]
      · rw [if_neg (by omega), if_neg (fun q => e q.2)]
    · rw [dif_neg hv, dif_neg hv, if_neg (fun q : machB w = true ∧ v = w => hv (by rw [q.2]; exact q.1))]
  · rw [dif_neg hw, if_neg (fun q : machB w = true ∧ v = w => hw q.1)]
theorem MirOk.zero : MirOk MirT.zero := fun w => by
  have : mirRow MirT.zero w = RowT.zero := by
    unfold mirRow
    split
    · rename_i h
      have h5 := mach_lt h
      have : ∀ (n : Nat) (hn : n < 5), MirT.zero.rows[n] = RowT.zero := fun n hn => by match n, hn with | 0, _ | 1, _ | 2, _ | 3, _ | 4, _ => rfl
      exact this _ h5
    · rfl
  rw [this]; exact wf_zero
theorem MirOk.keep {M : MirT} (h : MirOk M) (w : Int) {y : RowT} (hy : WF y.flat) : MirOk (mirKeep M w y).1 := fun v => by
  unfold mirKeep
  split
  · show WF (mirRow (mirPut M w y) v).flat
    rw [mirRow_set]
    split
    · exact hy
    · exact h v
  · exact h v
end Api
namespace Api
open Go Leg Codec Dsk Wal
end Api
end

section
namespace Api
open Go Leg Codec Dsk Wal
def restF (x : RepT) (m : RecT) : RepT :=
  if m.kind = 0 then { x with own := m.row, busy := true, kept := 0 }
  else if m.kind = 1 then { x with mirror := (mirKeep x.mirror m.whose m.row).1 }
  else if m.kind = 2 then { x with mirror := mirClose x.mirror m.whose }
  else if m.kind = 5 then enterF x m.view
  else x
def restL (x : RepT) (rs : List RecT) (k : Nat) : RepT := (rs.take k).foldl restF x
theorem restL_succ (x : RepT) (rs : List RecT) {k : Nat} (h : k < rs.length) : restL x rs (k + 1) = restF (restL x rs k) rs[k] := by
  unfold restL
  rw [List.take_succ_eq_append_getElem h, List.foldl_append]
  rfl
theorem restL_all (x : RepT) (rs : List RecT) {k : Nat} (h : ¬ k < rs.length) : restL x rs k = rs.foldl restF x := by
  unfold restL
  rw [List.take_of_length_le (by omega)]
structure RcOk (m : RecT) : Prop where
  dec : decR (encR m) = (m, 0)
  wf : WF m.row.flat
  kind : m.kind ≠ 3 ∧ m.kind ≠ 4
theorem RcOk.of {m : RecT} (h : OkRc m) (hn : normR m = m) (ho : okRc m = true) (hw : WF m.row.flat) (hk : m.kind ≠ 3 ∧ m.kind ≠ 4) : RcOk m := ⟨by have := decR_enc h ho; rwa [hn] at this, hw, hk⟩
theorem nm0 : Nm 0 := ⟨by decide, by decide⟩
theorem okB0 : OkB BallotT.zero := ⟨nm0, by decide, by decide⟩
theorem okC0 : OkC ChangeT.zero := ⟨⟨by decide, by decide⟩, ⟨by decide, by decide⟩, ⟨by decide, by decide⟩⟩
theorem okV0 : OkV ViewT.zero := by
  have : ∀ i : Fin 5, 0 ≤ ViewT.zero.heirs[i.val] ∧ ViewT.zero.heirs[i.val] < 6 := by decide +kernel
  exact ⟨nm0, ⟨by decide, by decide⟩, fun i hi => this ⟨i, hi⟩⟩
theorem RcOk.row {y : RowT} (ht : TameR y) (hr : rightR y = true) : RcOk (rowRec y) :=
  .of ⟨⟨Int.le_refl 0, show (0 : Int) < 6 by decide⟩, ⟨Int.le_refl 0, show (0 : Int) < 5 by decide⟩, ht, nm0, okB0, okC0, okV0⟩ rfl hr ht.wf ⟨show (0 : Int) ≠ 3 by decide, show (0 : Int) ≠ 4 by decide⟩
theorem RcOk.mir {w : Int} {y : RowT} (hm : 0 ≤ w ∧ w < 5) (ht : TameR y) (hr : rightR y = true) : RcOk (mirRec w y) :=
  .of ⟨⟨show (0 : Int) ≤ 1 by decide, show (1 : Int) < 6 by decide⟩, hm, ht, nm0, okB0, okC0, okV0⟩ rfl hr ht.wf ⟨show (1 : Int) ≠ 3 by decide, show (1 : Int) ≠ 4 by decide⟩
end Api
end

section
namespace Api
open Go Leg Codec Dsk Wal
def stY (lg : Nat) (own : RowT) (M : MirT) : RepT := { newRep 0 lg with own := own, busy := decide (0 < own.version), mirror := M }
def KeptBy (rs : List RecT) (own : RowT) (M : MirT) : Prop := (∀ lg, rs.foldl restF (newRep 0 lg) = stY lg own M) ∧ ∀ m ∈ rs, RcOk m
theorem KeptBy.nil : KeptBy [] RowT.zero MirT.zero := ⟨fun _ => rfl, fun m h => (nomatch h)⟩
theorem KeptBy.row {rs : List RecT} {own : RowT} {M : MirT} (h : KeptBy rs own M) {y : RowT} (hv : 0 < y.version) (ht : TameR y) (hr : rightR y = true) : KeptBy (rs ++ [rowRec y]) y M := by
  refine ⟨fun lg => ?_, fun m hm => ?_⟩
  · rw [List.foldl_append, h.1]
    show restF (stY lg own M) (rowRec y) = stY lg y M
    unfold stY
    rw [decide_eq_true hv]
    rfl
  · rcases List.mem_append.1 hm with h1 | h1
    · exact h.2 m h1
    · rw [List.mem_singleton.1 h1]; exact .row ht hr
theorem KeptBy.mir {rs : List RecT} {own : RowT} {M : MirT} (h : KeptBy rs own M) {w : Int} (hw : 0 ≤ w ∧ w < 5) {y : RowT} (hy : WF y.flat) (hr : rightR y = true) : KeptBy (rs ++ [mirRec w y]) own (mirKeep M w y).1 := by
  refine ⟨fun lg => ?_, fun m hm => ?_⟩
  · rw [List.foldl_append, h.1]
    rfl
  · rcases List.mem_append.1 hm with h1 | h1
    · exact h.2 m h1
    · rw [List.mem_singleton.1 h1]; exact .mir hw (TameR.of hy hr) hr
/-! ### Ops -/
def clientQ (y : RepT) (o : OpT) (rs : List RecT) : List RecT := if doneB y o then rs else rs ++ [rowRec (cN y o).1]
theorem clientQ_enc (y : RepT) (o : OpT) (rs : List RecT) : clientC y o (rs.map encR) = (clientQ y o rs).map encR := by
  unfold clientC clientQ
  split
  · rfl
  · rw [List.map_append]; rfl
theorem client_mirror (y : RepT) (o : OpT) : (clientX y o).mirror = y.mirror := by unfold clientX; split <;> rfl
theorem client_kept2 {y : RepT} {lg k : Nat} {c : RowT} (h : RunI y lg k c) (hk : k ≤ 1000) (o : OpT) (hkd : 0 ≤ o.kind ∧ o.kind < 4) {rs : List RecT} {M : MirT} (hq : KeptBy rs y.own M) :
    RunI (clientX y o) lg (k + 1) c ∧ KeptBy (clientQ y o rs) (clientX y o).own M := by
  obtain ⟨b, q, hq4, hb, hkey⟩ : ∃ (b : Bool) (q : Nat), ∃ hq : q < 4, (b = true ↔ 0 ≤ o.key ∧ o.key < 4) ∧ (b = true → o.key = ((q : Nat) : Int)) := by
    by_cases hin : 0 ≤ o.key ∧ o.key < 4
    · exact ⟨true, o.key.toNat, by omega, ⟨fun _ => hin, fun _ => rfl⟩, fun _ => by omega⟩
    · exact ⟨false, 0, by decide, ⟨fun e => (nomatch e), fun e => absurd e hin⟩, fun e => (nomatch e)⟩
  have h2 := h.client hk o hq4 hb hkey hkd
  refine ⟨h2, ?_⟩
  unfold clientQ
  by_cases hd : doneB y o = true
  · rw [if_pos hd, show (clientX y o).own = y.own from by unfold clientX; rw [if_pos hd]; rfl]; exact hq
  · rw [if_neg hd]
    have hd2 := fun x => hd ((done_iff y o).2 x)
    have he : (cN y o).2.2 = 0 := Classical.byContradiction fun e => hd2 (Or.inl e)
    have h3 : o.kind ≠ 3 := fun e => hd2 (Or.inr e)
    obtain ⟨_, hr, _⟩ := cN_ok h hk o hq4 hb hkey hkd he h3
    have e1 : (clientX y o).own = (cN y o).1 := by unfold clientX; rw [if_neg hd]; rfl
    have hown := h2.lone.own
    rw [e1] at hown ⊢
    refine hq.row ?_ (hown.tame (by omega)) hown.right
    rw [hr]
    have := h.lone.own.ver.1
    show 0 < y.own.version + 1
    omega
theorem keep_mirror (y : RepT) (id : Int) : (keepX y id).mirror = y.mirror := by
  have h : ∀ (z : RepT) (w ver : Int), (keptS z w ver).mirror = z.mirror := fun z w ver => by
    unfold keptS
    split
    · split <;> rfl
    · rfl
  unfold keepX
  rw [h, h]
theorem keep_own (y : RepT) (id : Int) : (keepX y id).own = y.own := by
  unfold keepX
  rw [(keptS_own _ _ _).1, (keptS_own _ _ _).1]
theorem RunI.keepAny {y : RepT} {lg k : Nat} {c : RowT} (h : RunI y lg k c) : ∃ c', RunI (keepX y 0) lg k c' := by
  cases hb : y.busy with
  | true => exact ⟨_, (h.keepB hb []).1⟩
  | false => rw [(keep_free h.lone.id hb []).1]; exact ⟨c, h⟩
/-! ### Rows -/
def withM (y : RepT) (M : MirT) : RepT := { y with mirror := M }
def rowQ (M : MirT) (w : Int) (y : RowT) (rs : List RecT) : List RecT := if mirTakes M w y then rs ++ [mirRec w y] else rs
theorem row_with (y : RepT) (M : MirT) (f : Int) (x : RowT) (rs : List RecT) : rowX (withM y M) f f x = withM y (mirKeep M f x).1 ∧ rowC (withM y M) f f x (rs.map encR) = (rowQ M f x rs).map encR ∧ (rowO (withM y M) f f x).length ≤ 1 := by
  have hB : rowB (withM y M) f f = !mirSealed M f := by unfold rowB; rw [decide_eq_true rfl, show (withM y M).mirror = M from rfl, Bool.true_and]
  by_cases hs : mirSealed M f = true
  · obtain ⟨e1, e2, e3⟩ := row_no (y := x) (recs := rs.map encR) (hB.trans (by rw [hs]; rfl))
    have ht : mirTakes M f x = false := by unfold mirTakes; rw [hs]; simp
    unfold rowQ
    rw [e1, e2, e3, mirKeep_sealed M f x hs, ht]
    exact ⟨rfl, rfl, by decide⟩
  · rw [Bool.not_eq_true] at hs
    unfold rowQ
    cases t : mirTakes M f x with
    | true =>
      obtain ⟨e1, e2, e3⟩ := row_yes (y := x) (recs := rs.map encR) (hB.trans (by rw [hs]; rfl)) (show mirTakes (withM y M).mirror f x = true from t)
      rw [e1, e2, e3]
      exact ⟨rfl, by rw [if_pos rfl, List.map_append]; rfl, Nat.le_refl 1⟩
    | false =>
      obtain ⟨e1, e2, e3⟩ := row_old (y := x) (recs := rs.map encR) (hB.trans (by rw [hs]; rfl)) (show mirTakes (withM y M).mirror f x = false from t)
      have : mirKeep M f x = (M, false) := by unfold mirKeep; rw [t]; rfl
      rw [e1, e2, e3, this]
      exact ⟨rfl, rfl, Nat.le_refl 1⟩
theorem KeptBy.take {rs : List RecT} {own : RowT} {M : MirT} (h : KeptBy rs own M) {w : Int} (hw : 0 ≤ w ∧ w < 5) {y : RowT} (hy : WF y.flat) : KeptBy (rowQ M w y rs) own (mirKeep M w y).1 := by
  unfold rowQ
  cases t : mirTakes M w y with
  | true =>
    rw [if_pos rfl]
    refine h.mir hw hy ?_
    unfold mirTakes at t
    rw [Bool.and_eq_true, Bool.and_eq_true] at t
    exact t.1.2
  | false =>
    have : mirKeep M w y = (M, false) := by unfold mirKeep; rw [t]; rfl
    rw [this]
    exact h
/-! ### Started again -/
theorem stY_lone {own : RowT} {k : Nat} (h : OwnOk own k) (lg : Nat) (M : MirT) : Lone (stY lg own M) lg 0 k := ⟨rfl, rfl, rfl, h⟩
theorem stY_keep (lg : Nat) (own : RowT) (M : MirT) : (keepX (stY lg own M) 0).busy = false := by
  cases hb : (stY lg own M).busy with
  | true => rw [(keep_busy (y := stY lg own M) rfl hb (Or.inl rfl) []).1]; rfl
  | false => rw [(keep_free (y := stY lg own M) rfl hb []).1]; exact hb
end Api
namespace Api
theorem three {l : List Int} (h : l.length = 3) : ∃ a b c, l = [a, b, c] := by
  match l, h with
  | [a, b, c], _ => exact ⟨a, b, c, rfl⟩
end Api
end

section
namespace Go.Proofs.YtfceaphohlbnbaaGreat

open Go Leg Codec Api Dsk Wal

set_option linter.unusedSimpArgs false
set_option linter.unusedVariables false

set_option maxRecDepth 100000

set_option maxHeartbeats 8000000

theorem takeRow_does (r ob lg d : Nat) (x : RepT) (from' : Int) (m : MsgT) (recs : List (List UInt8)) (l : List SaidT) (hlog : x.log = .pointer (some ⟨lg, 0, none⟩)) (hroom : sizeS recs + 34 ≤ 2048) (hx : WF m.row.flat) (hl : l.length ≤ 900000) (hto : from' ≠ x.id) :
    Does Tryz.prog 43 #[(.pointer (some ⟨r, 0, none⟩)), (.iface 34 (.pointer (some ⟨ob, 0, none⟩))), (.int .i64 (from')), (.agg (ints m.flat).toArray)] (fun _ => True) [blkA r (RepT.cells x) 104, lgP lg d (((recs).length : Nat) : Int) ((sizeS (recs) : Nat) : Int), dkL d (recs), outP ob (l)] (Ret (fun _ H => H = [blkA r (RepT.cells (rowX x from' m.whose m.row)) 104, lgL lg d (rowC x from' m.whose m.row recs), dkL d (rowC x from' m.whose m.row recs), outP ob (l ++ rowO x from' m.whose m.row)])) := by
 refine Does.body (vs := [(.pointer (some ⟨r, 0, none⟩)), (.iface 34 (.pointer (some ⟨ob, 0, none⟩))), (.int .i64 (from')), (.agg (ints m.flat).toArray)]) (n := 56) Tryz.func43 rfl rfl rfl (fun w0 F hF => ?_)
 refine sr fun _ J1 => ?_
 refine TL.box (Want.plain rfl) rfl rfl rfl rfl (fun b7 => ?_)
 change TL _ _ _ _ _ _ _ _ _ [blkA b7 (ints m.flat) 54, blkA r (RepT.cells x) 104, lgP lg d (((recs).length : Nat) : Int) ((sizeS (recs) : Nat) : Int), dkL d (recs), outP ob (l)]
 refine nx J1 ?_
 refine TC.seq fun _ J2 => ?_
 refine TC.seq fun _ J3 => ?_
 refine TC.draw (fun w => Frm F w ∧ w.heap[b7]? = some (.cells (ints m.flat).toArray 54 (0, 0)) ∧ True) mixed rfl (fun _ s => ⟨Frm.of s, s.block 0 (lb rfl) rfl, trivial⟩) ?_
 refine ta 0 rfl (PV.fieldAddr (r := 1) rfl Tryz.underlying54 rfl sz3 rfl rfl) ?_
 refine ta 1 rfl (PV.load1 (v := (.int .i64 (m.whose))) rfl Tryz.underlying3 rfl rfl (fun _ h => h.2.1) (MsgT.at_whose m rfl)) ?_
 refine ta 2 rfl (PV.move rfl rfl) ?_
 refine ta 3 rfl (PV.neq rfl rfl rfl) ?_
 refine TD.dec (fun h11 => ?_) (fun h11 => ?_)
 refine ta 4 rfl (PV.move rfl rfl) ?_
 refine TD.takeNot (i := 5) (b := true) rfl (by kernel_rfl) (by kernel_rfl) (by kernel_rfl) (fun _ _ _ _ h => h) rfl rfl rfl rfl rfl ?_
 refine TD.takeNot (i := 6) (b := true) rfl (by kernel_rfl) (by kernel_rfl) (by kernel_rfl) (fun _ _ _ _ h => h) rfl rfl rfl rfl rfl ?_
 refine TD.takeNot (i := 7) (b := true) rfl (by kernel_rfl) (by kernel_rfl) (by kernel_rfl) (fun _ _ _ _ h => h) rfl rfl rfl rfl rfl ?_
 refine TD.takeNot (i := 8) (b := true) rfl (by kernel_rfl) (by kernel_rfl) (by kernel_rfl) (fun _ _ _ _ h => h) rfl rfl rfl rfl rfl ?_
 refine TD.takeNot (i := 9) (b := true) rfl (by kernel_rfl) (by kernel_rfl) (by kernel_rfl) (fun _ _ _ _ h => h) rfl rfl rfl rfl rfl ?_
 refine TD.takeNot (i := 10) (b := true) rfl (by kernel_rfl) (by kernel_rfl) (by kernel_rfl) (fun _ _ _ _ h => h) rfl rfl rfl rfl rfl ?_
 refine ta 11 rfl (PV.pick rfl rfl rfl) ?_
 refine TD.done (by kernel_rfl) ?_
 refine TE.next J3 ?_
 refine TC.yes rfl ?_
 refine TC.ret ?_
 refine TE.passRet ?_
 refine TE.weak (Sub.refl _) (fun _ s => sep_keep [1, 1, 1, 1] rfl s) ?_
 refine TE.ret0 rfl ?_
 have e := (show rowB x from' m.whose = false from by rw [rowB, decide_eq_false h11]; rfl)
 obtain ⟨e1, e2, e3⟩ := row_no (y := m.row) (recs := recs) e
 exact by rw [e1, e2, e3, List.append_nil]; rfl
 refine ta 4 rfl (PV.move rfl rfl) ?_
 refine tb 5 rfl (PV.move rfl rfl) ?_
 refine tb 6 rfl (PV.nilCheck rfl rfl) ?_
 refine tb 7 rfl (PV.fieldAddr (r := 183) rfl Tryz.underlying104 rfl sz77 rfl rfl) ?_
 refine tb 8 rfl (PV.fieldAddr (r := 1) rfl Tryz.underlying54 rfl sz3 rfl rfl) ?_
 refine tb 9 rfl (PV.load1 (v := (.int .i64 (m.whose))) rfl Tryz.underlying3 rfl rfl (fun _ h => h.2.1) (MsgT.at_whose m rfl)) ?_
 refine TD.all [10] (by kernel_rfl) rfl ?_
 refine AllT.cons rfl ?_ ?_
 refine TL.callR (A := [blkA r (RepT.cells x) 104]) (Want.met rfl rfl rfl) rfl rfl rfl nm30 rfl (mirSealed_does r 183 104 (fun u => RepT.cells { x with mirror := u }) (RepT.arnd_mirror x) x.mirror m.whose) (fun _ s => sep_selR [1] rfl s) (fun _ _ _ => trivial) (fun vR HR hR => ?_)
 obtain ⟨rfl, rfl⟩ := hR
 change TL _ _ _ _ _ _ _ _ _ [blkA r (RepT.cells x) 104, blkA b7 (ints m.flat) 54, lgP lg d (((recs).length : Nat) : Int) ((sizeS (recs) : Nat) : Int), dkL d (recs), outP ob (l)]
 refine TL.decB (fun h18 => ?_) (fun h18 => ?_)
 refine TL.nil ?_
 refine TE.draw (fun _ s => ⟨Frm.of s, s.block 1 (lb rfl) rfl, trivial⟩) ?_
 refine ta 11 rfl (PV.pick rfl rfl rfl) ?_
 refine TD.done (by kernel_rfl) ?_
 refine TE.next J3 ?_
 refine TC.yes rfl ?_
 refine TC.ret ?_
 refine TE.passRet ?_
 refine TE.weak (Sub.refl _) (fun _ s => sep_keep [0, 1, 1, 1] rfl s) ?_
 refine TE.ret0 rfl ?_
 have e := (show rowB x from' m.whose = false from by rw [rowB, h18, Bool.not_true, Bool.and_false])
 obtain ⟨e1, e2, e3⟩ := row_no (y := m.row) (recs := recs) e
 exact by rw [e1, e2, e3, List.append_nil]; rfl
 refine TL.nil ?_
 refine TE.draw (fun _ s => ⟨Frm.of s, s.block 1 (lb rfl) rfl, trivial⟩) ?_
 refine ta 11 rfl (PV.pick rfl rfl rfl) ?_
 refine TD.done (by kernel_rfl) ?_
 refine TE.next J3 ?_
 refine TC.no rfl ?_
 refine TC.skip ?_
 refine TE.next J2 ?_
 refine TC.seq fun _ J4 => ?_
 refine TC.seq fun _ J5 => ?_
 refine TC.draw (fun w => Frm F w ∧ w.heap[b7]? = some (.cells (ints m.flat).toArray 54 (0, 0)) ∧ True) mixed rfl (fun _ s => ⟨Frm.of s, s.block 1 (lb rfl) rfl, trivial⟩) ?_
 refine ta 0 rfl (PV.move rfl rfl) ?_
 refine ta 1 rfl (PV.nilCheck rfl rfl) ?_
 refine ta 2 rfl (PV.fieldAddr (r := 183) rfl Tryz.underlying104 rfl sz77 rfl rfl) ?_
 refine ta 3 rfl (PV.fieldAddr (r := 1) rfl Tryz.underlying54 rfl sz3 rfl rfl) ?_
 refine ta 4 rfl (PV.load1 (v := (.int .i64 (m.whose))) rfl Tryz.underlying3 rfl rfl (fun _ h => h.2.1) (MsgT.at_whose m rfl)) ?_
 refine ta 5 rfl (PV.fieldAddr (r := 2) rfl Tryz.underlying54 rfl sz48 rfl rfl) ?_
 refine ta 6 rfl (PV.loadN (vs := ints m.row.flat) rfl Tryz.underlying48 rfl sz48 rfl (fun _ h => h.2.1) (RowT.len m.row) (MsgT.sub_row m 0 rfl (by decide) (whole (RowT.len m.row)))) ?_
 refine TD.all [7] (by kernel_rfl) rfl ?_
 refine AllT.cons rfl ?_ ?_
 refine TL.callR (A := [blkA r (RepT.cells x) 104]) (Want.plain rfl) rfl rfl rfl nm56 rfl (mirTakes_does r 183 104 (fun u => RepT.cells { x with mirror := u }) (RepT.arnd_mirror x) x.mirror m.whose m.row hx) (fun _ s => s) (fun _ _ _ => trivial) (fun vR HR hR => ?_)
 obtain ⟨rfl, rfl⟩ := hR
 change TL _ _ _ _ _ _ _ _ _ [blkA r (RepT.cells x) 104, blkA b7 (ints m.flat) 54, lgP lg d (((recs).length : Nat) : Int) ((sizeS (recs) : Nat) : Int), dkL d (recs), outP ob (l)]
 refine TL.decB (fun h27 => ?_) (fun h27 => ?_)
 refine TL.nil ?_
 refine TE.draw (fun _ s => ⟨Frm.of s, s.block 1 (lb rfl) rfl, trivial⟩) ?_
 refine TD.done (by kernel_rfl) ?_
 refine TE.next J5 ?_
 refine TC.yes rfl ?_
 refine TC.seq fun _ J6 => ?_
 refine sr fun _ J7 => ?_
 refine mv ?_
 refine tp (PV.fieldAddr (r := 1) rfl Tryz.underlying54 rfl sz3 rfl rfl) ?_
 refine tp (PV.load1 (v := (.int .i64 (m.whose))) rfl Tryz.underlying3 rfl rfl (Rd.own 1 rfl rfl) (MsgT.at_whose m rfl)) ?_
 refine tp (PV.fieldAddr (r := 2) rfl Tryz.underlying54 rfl sz48 rfl rfl) ?_
 refine tp (PV.loadN (vs := ints m.row.flat) rfl Tryz.underlying48 rfl sz48 rfl (Rd.own 1 rfl rfl) (RowT.len m.row) (MsgT.sub_row m 0 rfl (by decide) (whole (RowT.len m.row)))) ?_
 refine tp (PV.buildSegs (cs := ints (RecT.mk 1 m.whose m.row 0 BallotT.zero ChangeT.zero ViewT.zero).flat) (segs := [[Value.int .i64 0], [Value.int .i64 0], ints RowT.zero.flat, [Value.int .i64 0], ints BallotT.zero.flat, ints ChangeT.zero.flat, ints ViewT.zero.flat]) (res := [[Value.int .i64 1], [Value.int .i64 m.whose], ints m.row.flat, [Value.int .i64 0], ints BallotT.zero.flat, ints ChangeT.zero.flat, ints ViewT.zero.flat]) (parts := [(0, [Value.int .i64 1]), (1, [Value.int .i64 m.whose]), (2, ints m.row.flat)]) rfl rfl Tryz.underlying108 (by kernel_rfl) (by kernel_rfl) rfl (putSegs_step rfl ((rfl : [Value.int .i64 1].length = 1).trans (rfl : [Value.int .i64 0].length = 1).symm) (putSegs_step rfl ((rfl : [Value.int .i64 m.whose].length = 1).trans (rfl : [Value.int .i64 0].length = 1).symm) (putSegs_step rfl ((RowT.len m.row).trans (RowT.len RowT.zero).symm) putSegs_nil))) (RecT.eq (RecT.mk 1 m.whose m.row 0 BallotT.zero ChangeT.zero ViewT.zero)).symm) ?_
 refine TL.callR (A := [blkA r (RepT.cells x) 104, lgP lg d (((recs).length : Nat) : Int) ((sizeS (recs) : Nat) : Int), dkL d (recs)]) (Want.plain rfl) rfl rfl rfl nm78 rfl (put_does r lg d x (RecT.mk 1 m.whose m.row 0 BallotT.zero ChangeT.zero ViewT.zero) (recs) hlog (by have := pieces34 (mirRec_len m.whose m.row); have := hroom; show sizeS recs + piecesN (encR (mirRec m.whose m.row)).length ≤ 2048; omega) (Nat.le_trans (mirRec_len m.whose m.row) (by decide))) (fun _ s => sep_selR [0, 1, 1] rfl s) (fun _ _ _ => trivial) (fun vR HR hR => ?_)
 obtain ⟨rfl, rfl⟩ := hR
 change TL _ _ _ _ _ _ _ _ _ [blkA r (RepT.cells x) 104, lgP lg d (((recs ++ [encR (RecT.mk 1 m.whose m.row 0 BallotT.zero ChangeT.zero ViewT.zero)]).length : Nat) : Int) ((sizeS (recs ++ [encR (RecT.mk 1 m.whose m.row 0 BallotT.zero ChangeT.zero ViewT.zero)]) : Nat) : Int), dkL d (recs ++ [encR (RecT.mk 1 m.whose m.row 0 BallotT.zero ChangeT.zero ViewT.zero)]), blkA b7 (ints m.flat) 54, outP ob (l)]
 refine tp (PV.neq rfl rfl rfl) ?_
 refine nx J7 ?_
 refine TC.no rfl ?_
 refine TC.skip ?_
 refine TE.next J6 ?_
 refine TC.draw (fun w => Frm F w ∧ w.heap[b7]? = some (.cells (ints m.flat).toArray 54 (0, 0)) ∧ True) mixed rfl (fun _ s => ⟨Frm.of s, s.block 3 (lb rfl) rfl, trivial⟩) ?_
 refine ta 0 rfl (PV.move rfl rfl) ?_
 refine ta 1 rfl (PV.nilCheck rfl rfl) ?_
 refine ta 2 rfl (PV.fieldAddr (r := 183) rfl Tryz.underlying104 rfl sz77 rfl rfl) ?_
 refine ta 3 rfl (PV.fieldAddr (r := 1) rfl Tryz.underlying54 rfl sz3 rfl rfl) ?_
 refine ta 4 rfl (PV.load1 (v := (.int .i64 (m.whose))) rfl Tryz.underlying3 rfl rfl (fun _ h => h.2.1) (MsgT.at_whose m rfl)) ?_
 refine ta 5 rfl (PV.fieldAddr (r := 2) rfl Tryz.underlying54 rfl sz48 rfl rfl) ?_
 refine ta 6 rfl (PV.loadN (vs := ints m.row.flat) rfl Tryz.underlying48 rfl sz48 rfl (fun _ h => h.2.1) (RowT.len m.row) (MsgT.sub_row m 0 rfl (by decide) (whole (RowT.len m.row)))) ?_
 refine TD.all [7] (by kernel_rfl) rfl ?_
 refine AllT.cons rfl ?_ ?_
 refine TL.callR (A := [blkA r (RepT.cells x) 104]) (Want.plain rfl) rfl rfl rfl nm28 rfl (mirKeep_does r 183 104 (fun u => RepT.cells { x with mirror := u }) (RepT.arnd_mirror x) x.mirror m.whose m.row hx) (fun _ s => s) (fun _ _ _ => trivial) (fun vR HR hR => ?_)
 obtain ⟨rfl, rfl⟩ := hR
 change TL _ _ _ _ _ _ _ _ _ [blkA r (RepT.cells (RepT.mk x.id x.log x.view x.own ((mirKeep x.mirror m.whose m.row).1) x.acc x.round x.vote x.book x.busy x.kept x.waits x.ops x.replies x.told x.last)) 104, lgP lg d (((recs ++ [encR (RecT.mk 1 m.whose m.row 0 BallotT.zero ChangeT.zero ViewT.zero)]).length : Nat) : Int) ((sizeS (recs ++ [encR (RecT.mk 1 m.whose m.row 0 BallotT.zero ChangeT.zero ViewT.zero)]) : Nat) : Int), dkL d (recs ++ [encR (RecT.mk 1 m.whose m.row 0 BallotT.zero ChangeT.zero ViewT.zero)]), blkA b7 (ints m.flat) 54, outP ob (l)]
 refine TL.nil ?_
 refine TE.draw (fun _ s => ⟨Frm.of s, s.block 3 (lb rfl) rfl, trivial⟩) ?_
 refine TD.done (by kernel_rfl) ?_
 refine TE.next J4 ?_
 refine TC.draw (fun w => Frm F w ∧ w.heap[b7]? = some (.cells (ints m.flat).toArray 54 (0, 0)) ∧ True) mixed rfl (fun _ s => ⟨Frm.of s, s.block 3 (lb rfl) rfl, trivial⟩) ?_
 refine ta 0 rfl (PV.move rfl rfl) ?_
 refine ta 1 rfl (PV.move rfl rfl) ?_
 refine ta 2 rfl (PV.move rfl rfl) ?_
 refine ta 3 rfl (PV.move rfl rfl) ?_
 refine ta 4 rfl (PV.nilCheck rfl rfl) ?_
 refine ta 5 rfl (PV.fieldAddr (r := 183) rfl Tryz.underlying104 rfl sz77 rfl rfl) ?_
 refine ta 6 rfl (PV.fieldAddr (r := 1) rfl Tryz.underlying54 rfl sz3 rfl rfl) ?_
 refine ta 7 rfl (PV.load1 (v := (.int .i64 (m.whose))) rfl Tryz.underlying3 rfl rfl (fun _ h => h.2.1) (MsgT.at_whose m rfl)) ?_
 refine TD.all [8] (by kernel_rfl) rfl ?_
 refine AllT.cons rfl ?_ ?_
 refine TL.callR (A := [blkA r (RepT.cells (RepT.mk x.id x.log x.view x.own ((mirKeep x.mirror m.whose m.row).1) x.acc x.round x.vote x.book x.busy x.kept x.waits x.ops x.replies x.told x.last)) 104]) (Want.plain rfl) rfl rfl rfl nm26 rfl (mirRow_does r 183 104 (fun u => RepT.cells { (RepT.mk x.id x.log x.view x.own ((mirKeep x.mirror m.whose m.row).1) x.acc x.round x.vote x.book x.busy x.kept x.waits x.ops x.replies x.told x.last) with mirror := u }) (RepT.arnd_mirror (RepT.mk x.id x.log x.view x.own ((mirKeep x.mirror m.whose m.row).1) x.acc x.round x.vote x.book x.busy x.kept x.waits x.ops x.replies x.told x.last)) ((mirKeep x.mirror m.whose m.row).1) m.whose) (fun _ s => s) (fun _ _ _ => trivial) (fun vR HR hR => ?_)
 obtain ⟨rfl, rfl⟩ := hR
 change TL _ _ _ _ _ _ _ _ _ [blkA r (RepT.cells (RepT.mk x.id x.log x.view x.own ((mirKeep x.mirror m.whose m.row).1) x.acc x.round x.vote x.book x.busy x.kept x.waits x.ops x.replies x.told x.last)) 104, lgP lg d (((recs ++ [encR (RecT.mk 1 m.whose m.row 0 BallotT.zero ChangeT.zero ViewT.zero)]).length : Nat) : Int) ((sizeS (recs ++ [encR (RecT.mk 1 m.whose m.row 0 BallotT.zero ChangeT.zero ViewT.zero)]) : Nat) : Int), dkL d (recs ++ [encR (RecT.mk 1 m.whose m.row 0 BallotT.zero ChangeT.zero ViewT.zero)]), blkA b7 (ints m.flat) 54, outP ob (l)]
 refine TL.nil ?_
 refine TE.draw (fun _ s => ⟨Frm.of s, s.block 3 (lb rfl) rfl, trivial⟩) ?_
 refine ta 9 rfl (PV.field1 (cs := ints (mirRow ((mirKeep x.mirror m.whose m.row).1) m.whose).flat) (v := Value.int .i64 ((mirRow ((mirKeep x.mirror m.whose m.row).1) m.whose).version)) rfl Tryz.underlying48 rfl Tryz.underlying3 rfl rfl (RowT.at_version (mirRow ((mirKeep x.mirror m.whose m.row).1) m.whose) rfl)) ?_
 refine ta 10 rfl (PV.buildSegs (cs := ints (MsgT.mk 1 0 RowT.zero ((mirRow ((mirKeep x.mirror m.whose m.row).1) m.whose).version) 0 BallotT.zero BallotT.zero ChangeT.zero ViewT.zero).flat) (segs := [[Value.int .i64 0], [Value.int .i64 0], ints RowT.zero.flat, [Value.int .i64 0], [Value.int .i64 0], ints BallotT.zero.flat, ints BallotT.zero.flat, ints ChangeT.zero.flat, ints ViewT.zero.flat]) (res := [[Value.int .i64 1], [Value.int .i64 0], ints RowT.zero.flat, [Value.int .i64 ((mirRow ((mirKeep x.mirror m.whose m.row).1) m.whose).version)], [Value.int .i64 0], ints BallotT.zero.flat, ints BallotT.zero.flat, ints ChangeT.zero.flat, ints ViewT.zero.flat]) (parts := [(0, [Value.int .i64 1]), (3, [Value.int .i64 ((mirRow ((mirKeep x.mirror m.whose m.row).1) m.whose).version)])]) rfl rfl Tryz.underlying54 (by kernel_rfl) (by kernel_rfl) rfl (putSegs_step rfl ((rfl : [Value.int .i64 1].length = 1).trans (rfl : [Value.int .i64 0].length = 1).symm) (putSegs_step rfl ((rfl : [Value.int .i64 ((mirRow ((mirKeep x.mirror m.whose m.row).1) m.whose).version)].length = 1).trans (rfl : [Value.int .i64 0].length = 1).symm) putSegs_nil)) (MsgT.eq (MsgT.mk 1 0 RowT.zero ((mirRow ((mirKeep x.mirror m.whose m.row).1) m.whose).version) 0 BallotT.zero BallotT.zero ChangeT.zero ViewT.zero)).symm) ?_
 refine TD.all [11] (by kernel_rfl) rfl ?_
 refine AllT.cons rfl ?_ ?_
 refine TL.callR (A := [blkA r (RepT.cells (RepT.mk x.id x.log x.view x.own ((mirKeep x.mirror m.whose m.row).1) x.acc x.round x.vote x.book x.busy x.kept x.waits x.ops x.replies x.told x.last)) 104, outP ob (l)]) (Want.plain rfl) rfl rfl rfl nm79 rfl (send_does r ob (RepT.mk x.id x.log x.view x.own ((mirKeep x.mirror m.whose m.row).1) x.acc x.round x.vote x.book x.busy x.kept x.waits x.ops x.replies x.told x.last) from' (MsgT.mk 1 0 RowT.zero ((mirRow ((mirKeep x.mirror m.whose m.row).1) m.whose).version) 0 BallotT.zero BallotT.zero ChangeT.zero ViewT.zero) (l) (by omega) hto) (fun _ s => sep_selR [0, 3] rfl s) (fun _ _ _ => trivial) (fun vR HR hR => ?_)
 obtain rfl := hR
 change TL _ _ _ _ _ _ _ _ _ [blkA r (RepT.cells (RepT.mk x.id x.log x.view x.own ((mirKeep x.mirror m.whose m.row).1) x.acc x.round x.vote x.book x.busy x.kept x.waits x.ops x.replies x.told x.last)) 104, outP ob (l ++ [SaidT.mk from' (MsgT.mk 1 0 RowT.zero ((mirRow ((mirKeep x.mirror m.whose m.row).1) m.whose).version) 0 BallotT.zero BallotT.zero ChangeT.zero ViewT.zero)]), lgP lg d (((recs ++ [encR (RecT.mk 1 m.whose m.row 0 BallotT.zero ChangeT.zero ViewT.zero)]).length : Nat) : Int) ((sizeS (recs ++ [encR (RecT.mk 1 m.whose m.row 0 BallotT.zero ChangeT.zero ViewT.zero)]) : Nat) : Int), dkL d (recs ++ [encR (RecT.mk 1 m.whose m.row 0 BallotT.zero ChangeT.zero ViewT.zero)]), blkA b7 (ints m.flat) 54]
 refine TL.nil ?_
 refine TE.draw (fun _ s => ⟨Frm.of s, s.block 4 (lb rfl) rfl, trivial⟩) ?_
 refine TD.done (by kernel_rfl) ?_
 refine TE.weak (Sub.refl _) (fun _ s => sep_keep [0, 1, 1, 0] rfl s) ?_
 refine TE.end0 rfl ?_
 have e := (show rowB x from' m.whose = true from by rw [rowB, h18, decide_eq_true (show m.whose = from' by omega)]; rfl)
 obtain ⟨e1, e2, e3⟩ := row_yes (recs := recs) e h27
 exact by rw [e1, e2, e3]; rfl
 exact AllT.nil
 exact AllT.nil
 exact AllT.nil
 refine TL.nil ?_
 refine TE.draw (fun _ s => ⟨Frm.of s, s.block 1 (lb rfl) rfl, trivial⟩) ?_
 refine TD.done (by kernel_rfl) ?_
 refine TE.next J5 ?_
 refine TC.no rfl ?_
 refine TC.skip ?_
 refine TE.next J4 ?_
 refine TC.draw (fun w => Frm F w ∧ w.heap[b7]? = some (.cells (ints m.flat).toArray 54 (0, 0)) ∧ True) mixed rfl (fun _ s => ⟨Frm.of s, s.block 1 (lb rfl) rfl, trivial⟩) ?_
 refine ta 0 rfl (PV.move rfl rfl) ?_
 refine ta 1 rfl (PV.move rfl rfl) ?_
 refine ta 2 rfl (PV.move rfl rfl) ?_
 refine ta 3 rfl (PV.move rfl rfl) ?_
 refine ta 4 rfl (PV.nilCheck rfl rfl) ?_
 refine ta 5 rfl (PV.fieldAddr (r := 183) rfl Tryz.underlying104 rfl sz77 rfl rfl) ?_
 refine ta 6 rfl (PV.fieldAddr (r := 1) rfl Tryz.underlying54 rfl sz3 rfl rfl) ?_
 refine ta 7 rfl (PV.load1 (v := (.int .i64 (m.whose))) rfl Tryz.underlying3 rfl rfl (fun _ h => h.2.1) (MsgT.at_whose m rfl)) ?_
 refine TD.all [8] (by kernel_rfl) rfl ?_
 refine AllT.cons rfl ?_ ?_
 refine TL.callR (A := [blkA r (RepT.cells x) 104]) (Want.plain rfl) rfl rfl rfl nm26 rfl (mirRow_does r 183 104 (fun u => RepT.cells { x with mirror := u }) (RepT.arnd_mirror x) x.mirror m.whose) (fun _ s => s) (fun _ _ _ => trivial) (fun vR HR hR => ?_)
 obtain ⟨rfl, rfl⟩ := hR
 change TL _ _ _ _ _ _ _ _ _ [blkA r (RepT.cells x) 104, blkA b7 (ints m.flat) 54, lgP lg d (((recs).length : Nat) : Int) ((sizeS (recs) : Nat) : Int), dkL d (recs), outP ob (l)]
 refine TL.nil ?_
 refine TE.draw (fun _ s => ⟨Frm.of s, s.block 1 (lb rfl) rfl, trivial⟩) ?_
 refine ta 9 rfl (PV.field1 (cs := ints (mirRow x.mirror m.whose).flat) (v := Value.int .i64 ((mirRow x.mirror m.whose).version)) rfl Tryz.underlying48 rfl Tryz.underlying3 rfl rfl (RowT.at_version (mirRow x.mirror m.whose) rfl)) ?_
 refine ta 10 rfl (PV.buildSegs (cs := ints (MsgT.mk 1 0 RowT.zero ((mirRow x.mirror m.whose).version) 0 BallotT.zero BallotT.zero ChangeT.zero ViewT.zero).flat) (segs := [[Value.int .i64 0], [Value.int .i64 0], ints RowT.zero.flat, [Value.int .i64 0], [Value.int .i64 0], ints BallotT.zero.flat, ints BallotT.zero.flat, ints ChangeT.zero.flat, ints ViewT.zero.flat]) (res := [[Value.int .i64 1], [Value.int .i64 0], ints RowT.zero.flat, [Value.int .i64 ((mirRow x.mirror m.whose).version)], [Value.int .i64 0], ints BallotT.zero.flat, ints BallotT.zero.flat, ints ChangeT.zero.flat, ints ViewT.zero.flat]) (parts := [(0, [Value.int .i64 1]), (3, [Value.int .i64 ((mirRow x.mirror m.whose).version)])]) rfl rfl Tryz.underlying54 (by kernel_rfl) (by kernel_rfl) rfl (putSegs_step rfl ((rfl : [Value.int .i64 1].length = 1).trans (rfl : [Value.int .i64 0].length = 1).symm) (putSegs_step rfl ((rfl : [Value.int .i64 ((mirRow x.mirror m.whose).version)].length = 1).trans (rfl : [Value.int .i64 0].length = 1).symm) putSegs_nil)) (MsgT.eq (MsgT.mk 1 0 RowT.zero ((mirRow x.mirror m.whose).version) 0 BallotT.zero BallotT.zero ChangeT.zero ViewT.zero)).symm) ?_
 refine TD.all [11] (by kernel_rfl) rfl ?_
 refine AllT.cons rfl ?_ ?_
 refine TL.callR (A := [blkA r (RepT.cells x) 104, outP ob (l)]) (Want.plain rfl) rfl rfl rfl nm79 rfl (send_does r ob x from' (MsgT.mk 1 0 RowT.zero ((mirRow x.mirror m.whose).version) 0 BallotT.zero BallotT.zero ChangeT.zero ViewT.zero) (l) (by omega) hto) (fun _ s => sep_selR [0, 3] rfl s) (fun _ _ _ => trivial) (fun vR HR hR => ?_)
 obtain rfl := hR
 change TL _ _ _ _ _ _ _ _ _ [blkA r (RepT.cells x) 104, outP ob (l ++ [SaidT.mk from' (MsgT.mk 1 0 RowT.zero ((mirRow x.mirror m.whose).version) 0 BallotT.zero BallotT.zero ChangeT.zero ViewT.zero)]), blkA b7 (ints m.flat) 54, lgP lg d (((recs).length : Nat) : Int) ((sizeS (recs) : Nat) : Int), dkL d (recs)]
 refine TL.nil ?_
 refine TE.draw (fun _ s => ⟨Frm.of s, s.block 2 (lb rfl) rfl, trivial⟩) ?_
 refine TD.done (by kernel_rfl) ?_
 refine TE.weak (Sub.refl _) (fun _ s => sep_keep [0, 2, 2, 0] rfl s) ?_
 refine TE.end0 rfl ?_
 have e := (show rowB x from' m.whose = true from by rw [rowB, h18, decide_eq_true (show m.whose = from' by omega)]; rfl)
 obtain ⟨e1, e2, e3⟩ := row_old (recs := recs) e h27
 exact by rw [e1, e2, e3]; rfl
 exact AllT.nil
 exact AllT.nil
 exact AllT.nil
 exact AllT.nil
theorem take0_does (r ob lg d : Nat) (x : RepT) (from' : Int) (m : MsgT) (recs : List (List UInt8)) (l : List SaidT) (hlog : x.log = .pointer (some ⟨lg, 0, none⟩)) (hk : m.kind = 0) (hroom : sizeS recs + 34 ≤ 2048) (hx : WF m.row.flat) (hl : l.length ≤ 900000) (hto : from' ≠ x.id) :
    Does Tryz.prog 13 #[(.pointer (some ⟨r, 0, none⟩)), (.iface 34 (.pointer (some ⟨ob, 0, none⟩))), (.int .i64 (from')), (.agg (ints m.flat).toArray)] (fun _ => True) [blkA r (RepT.cells x) 104, lgP lg d (((recs).length : Nat) : Int) ((sizeS (recs) : Nat) : Int), dkL d (recs), outP ob (l)] (Ret (fun _ H => H = [blkA r (RepT.cells (rowX x from' m.whose m.row)) 104, lgL lg d (rowC x from' m.whose m.row recs), dkL d (rowC x from' m.whose m.row recs), outP ob (l ++ rowO x from' m.whose m.row)])) := by
 refine Does.body (vs := [(.pointer (some ⟨r, 0, none⟩)), (.iface 34 (.pointer (some ⟨ob, 0, none⟩))), (.int .i64 (from')), (.agg (ints m.flat).toArray)]) (n := 65) Tryz.func13 rfl rfl rfl (fun w0 F hF => ?_)
 refine sr fun _ J1 => ?_
 refine TL.box (Want.plain rfl) rfl rfl rfl rfl (fun b7 => ?_)
 change TL _ _ _ _ _ _ _ _ _ [blkA b7 (ints m.flat) 54, blkA r (RepT.cells x) 104, lgP lg d (((recs).length : Nat) : Int) ((sizeS (recs) : Nat) : Int), dkL d (recs), outP ob (l)]
 refine nx J1 ?_
 refine sr fun _ J2 => ?_
 refine tp (PV.fieldAddr (r := 0) rfl Tryz.underlying54 rfl sz3 rfl rfl) ?_
 refine tp (PV.load1 (v := (.int .i64 (m.kind))) rfl Tryz.underlying3 rfl rfl (Rd.own 0 rfl rfl) (MsgT.at_kind m rfl)) ?_
 refine nx J2 ?_
 refine TC.block ?_
 refine sr fun _ J3 => ?_
 refine tp (PV.eql rfl rfl rfl) ?_
 refine TL.dec (fun h11 => ?_) (fun h11 => ?_)
 refine sg' ?_
 refine nx J3 ?_
 refine TC.yes rfl ?_
 refine TC.region ?_
 refine mv ?_
 refine mv ?_
 refine mv ?_
 refine tp (PV.loadN (vs := ints m.flat) rfl Tryz.underlying54 rfl sz54 rfl (Rd.own 0 rfl rfl) (MsgT.len m) (whole (MsgT.len m))) ?_
 refine TL.callR (A := [blkA r (RepT.cells x) 104, lgP lg d (((recs).length : Nat) : Int) ((sizeS (recs) : Nat) : Int), dkL d (recs), outP ob (l)]) (Want.plain rfl) rfl rfl rfl nm43 rfl (takeRow_does r ob lg d x from' m recs l hlog hroom hx hl hto) (fun _ s => sep_selR [1, 1, 1, 1] rfl s) (fun _ _ _ => trivial) (fun vR HR hR => ?_)
 obtain rfl := hR
 change TL _ _ _ _ _ _ _ _ _ [blkA r (RepT.cells (rowX x from' m.whose m.row)) 104, lgP lg d (((rowC x from' m.whose m.row recs).length : Nat) : Int) ((sizeS (rowC x from' m.whose m.row recs) : Nat) : Int), dkL d (rowC x from' m.whose m.row recs), outP ob (l ++ rowO x from' m.whose m.row), blkA b7 (ints m.flat) 54]
 refine TL.nil ?_
 refine TE.blockEnd ?_
 refine TE.weak (Sub.refl _) (fun _ s => sep_keep [0, 0, 0, 0] rfl s) ?_
 refine TE.end0 rfl ?_
 exact rfl
 · exact absurd h11 (by omega)
end Go.Proofs.YtfceaphohlbnbaaGreat
end

section
namespace Go.Proofs.YtfceaphohlbnbaaGreat

open Go Leg Codec Api

set_option maxRecDepth 100000

theorem read1_calm (ob : Nat) (ok : Bool) : DoesD Tryz.prog 98 #[(.pointer (some ⟨ob, 0, none⟩))] (.returning) (fun _ => True) [blkA ob [(.bool (ok))] 4] (fun e u' H => e = .returned (.tuple #[]) ∧ settle u' = .returning ∧ H = [blkA ob [.bool ok] 4]) := by
  refine DoesD.recover2 (vs := [(.pointer (some ⟨ob, 0, none⟩))]) (n := 15) (u' := .returning) (rv := .nilIface) Tryz.func98 rfl rfl rfl rfl rfl rfl rfl rfl rfl rfl rfl (fun c0 cs hu => by cases c0; simp only at hu; subst hu; rfl) (fun w0 F c0 cs hF => ?_)
  refine TC.seq (fun K1 hK1 => ?_)
  refine TC.seq (fun K2 hK2 => ?_)
  refine TC.region ?_
  refine TL.v (Want.plain rfl) rfl rfl (PV.move rfl rfl) ?_
  refine TL.v (Want.plain rfl) rfl rfl (PV.nilNil rfl Tryz.underlying20 rfl) ?_
  refine TL.nil ?_
  refine TE.next hK2 ?_
  clear hK2
  refine TC.yes rfl ?_
  refine TC.ret ?_
  refine TE.passRet ?_
  clear hK1
  refine TE.weak (Sub.refl _) (fun _ s => sep_keep [0] rfl s) ?_
  refine TE.retS0 rfl ?_
  refine ⟨rfl, rfl, ?_⟩
  rfl


theorem read1_thrown (ob : Nat) (ok : Bool) : DoesD Tryz.prog 98 #[(.pointer (some ⟨ob, 0, none⟩))] (.panicking giveUp) (fun _ => True) [blkA ob [(.bool (ok))] 4] (fun e u' H => e = .returned (.tuple #[]) ∧ settle u' = .returning ∧ H = [blkA ob [.bool false] 4]) := by
  refine DoesD.recover2 (vs := [(.pointer (some ⟨ob, 0, none⟩))]) (n := 15) (u' := .panicking [{ v := (.iface 178 (.agg #[])), recovered := true }]) (rv := (.iface 178 (.agg #[]))) Tryz.func98 rfl rfl rfl rfl rfl rfl rfl rfl rfl rfl rfl (fun c0 cs hu => by cases c0; simp only at hu; subst hu; rfl) (fun w0 F c0 cs hF => ?_)
  refine TC.seq (fun K1 hK1 => ?_)
  refine TC.seq (fun K2 hK2 => ?_)
  refine TC.region ?_
  refine TL.v (Want.plain rfl) rfl rfl (PV.move rfl rfl) ?_
  refine TL.v (Want.plain rfl) rfl rfl (PV.ifaceNil rfl Tryz.underlying20 rfl) ?_
  refine TL.nil ?_
  refine TE.next hK2 ?_
  clear hK2
  refine TC.no rfl ?_
  refine TC.skip ?_
  refine TE.next hK1 ?_
  clear hK1
  refine TC.seq (fun K3 hK3 => ?_)
  refine TC.seq (fun K4 hK4 => ?_)
  refine TC.region ?_
  refine TL.v (Want.plain rfl) rfl rfl (PV.move rfl rfl) ?_
  refine TL.v (Want.plain rfl) rfl rfl (PV.assert rfl Tryz.underlying178 rfl rfl) ?_
  refine TL.v (Want.plain rfl) rfl rfl (PV.move rfl rfl) ?_
  refine TL.v (Want.plain rfl) rfl rfl (PV.extract (vs := [.agg #[], .bool true]) rfl rfl rfl) ?_
  refine TL.v (Want.plain rfl) rfl rfl (PV.extract (vs := [.agg #[], .bool true]) rfl rfl rfl) ?_
  refine TL.alloc (Want.plain rfl) rfl rfl rfl z178 (fun b2 => ?_)
  change TL _ _ _ _ _ _ _ _ _ [blkA b2 [] 178, blkA ob [(.bool (ok))] 4]
  refine TL.store (vs := []) (i := 0) (H' := [blkA b2 [] 178, blkA ob [(.bool (ok))] 4]) (Want.plain rfl) rfl rfl rfl rfl rfl sz178 (by simp [Value.oneCell']) rfl rfl (lbe rfl) rfl rfl ?_
  refine TL.v (Want.plain rfl) rfl rfl (PV.assign rfl rfl) ?_
  refine TL.nil ?_
  refine TE.next hK4 ?_
  clear hK4
  refine TC.seq (fun K5 hK5 => ?_)
  refine TC.region ?_
  refine TL.v (Want.plain rfl) rfl rfl (PV.move rfl rfl) ?_
  refine TL.v (Want.plain rfl) rfl rfl (PV.not (r := false) rfl rfl rfl) ?_
  refine TL.nil ?_
  refine TE.next hK5 ?_
  clear hK5
  refine TC.no rfl ?_
  refine TC.skip ?_
  refine TE.next hK3 ?_
  clear hK3
  refine TC.region ?_
  refine TL.store1 (i := 1) (H' := [blkA b2 [] 178, blkA ob [(.bool false)] 4]) (Want.plain rfl) rfl rfl rfl rfl rfl sz4 rfl rfl (lb rfl) rfl rfl ?_
  refine TL.nil ?_
  refine TE.weak (Sub.refl _) (fun _ s => sep_keep [1] rfl s) ?_
  refine TE.endS0 rfl ?_
  refine ⟨rfl, rfl, ?_⟩
  exact rfl


theorem read_does {fid : Nat} {caps : List Value} {x : Value} {bs : List UInt8} {C G : HP} {A : List UInt8 → HP} {R : Hl → Prop} (hR : ∀ F, R F → IsB x bs F) (hmono : ∀ F g, R F → Dj g F → R (jn g F)) (hN : Named Tryz.prog fid)
    (hc : ∀ rb, Does Tryz.prog fid ([Value.pointer (some ⟨rb, 0, none⟩)] ++ caps).toArray R [blkA rb [x] 176, C] (RetP (fun _ H => ∃ x' r, H = [blkA rb [x'] 176, A r] ∧ Tail x bs x' r) (fun c H => c = giveUp ∧ ∃ x', H = [blkA rb [x'] 176, G]))) :
    Does Tryz.prog 72 #[x, .func (.func fid) #[] caps.toArray] R [C] (Ret (fun v H => (∃ r, v = .bool (decide (r = [])) ∧ H = [A r]) ∨ (v = .bool false ∧ H = [G]))) := by
 refine Does.bodyD (vs := [x, .func (.func fid) #[] caps.toArray]) (n := 21) Tryz.func72 rfl rfl rfl (fun w0 F hF => ?_)
 refine sr fun _ J1 => ?_
 refine TL.alloc (Want.plain rfl) rfl rfl rfl z4 (fun b4 => ?_)
 change TL _ _ _ _ _ _ _ _ _ [blkA b4 [(.bool false)] 4, C]
 refine nx J1 ?_
 refine sr fun _ J2 => ?_
 refine mv ?_
 refine tp (PV.buildOne rfl Tryz.underlying176 z176 rfl sz106 rfl (hR _ hF).one) ?_
 refine TL.box (Want.plain rfl) rfl rfl rfl rfl (fun b8 => ?_)
 change TL _ _ _ _ _ _ _ _ _ [blkA b8 [x] 176, blkA b4 [(.bool false)] 4, C]
 refine sg' ?_
 refine nx J2 ?_
 refine sr fun _ J3 => ?_
 refine tp (PV.mkFunc rfl rfl) ?_
 refine TL.deferFn (Want.plain rfl) rfl rfl rfl ?_
 refine nx J3 ?_
 refine TC.seq fun _ J4 => ?_
 refine sr fun _ J5 => ?_
 refine mv ?_
 refine tp (PV.funcNeqNil rfl Tryz.underlying153 rfl) ?_
 refine nx J5 ?_
 refine TC.yes rfl ?_
 refine TC.region ?_
 refine mv ?_
 refine mv ?_
 refine TL.callPv (A := [blkA b8 [x] 176, C]) (B := [blkA b4 [(.bool false)] 4]) (Want.plain rfl) rfl rfl rfl rfl hN rfl (hc b8) (fun _ s => sep_selR [0, 1] rfl s) (IsMono hmono hF) (fun cP HP hP => ?_) (fun vR HR hR' => ?_)
 obtain ⟨rfl, x', rfl⟩ := hP
 change TE _ _ _ _ _ _ _ [blkA b8 [x'] 176, G, blkA b4 [(.bool false)] 4]
 refine TE.passPanic ?_
 intro a w fr sm m
 refine leaves_one (b := b4) (e := 4) (A := [blkA b4 [(.bool false)] 4]) (B := [blkA b8 [x'] 176, G]) (H' := [G]) fr sm m (by simp) nm98 (read1_thrown b4 _) (fun _ s => sep_selR [2] rfl s) (fun _ _ _ => trivial) rfl rfl Tryz.underlying4 rfl (fun H1 h1 => ?_)
 subst h1
 refine ⟨[.bool false], .bool false, Rd.own 0 rfl rfl, rfl, fun _ s => sep_keep [2] rfl s, ?_⟩
 exact .inr ⟨rfl, rfl⟩
 obtain ⟨x', r, rfl, htl⟩ := hR'
 change TL _ _ _ _ _ _ _ _ _ [blkA b8 [x'] 176, (A r), blkA b4 [(.bool false)] 4]
 have hB := htl F (hR _ hF)
 rcases hB with ⟨rfl, rfl⟩ | ⟨b, off, cap, cs, T, z, rfl, hB1, hB2, hB3, hB4⟩
 refine nx J4 ?_
 refine sr fun _ J6 => ?_
 refine mv ?_
 refine tp (PV.nilCheck rfl rfl) ?_
 refine tp (PV.fieldAddr (r := 0) rfl Tryz.underlying176 rfl sz106 rfl rfl) ?_
 refine tp (PV.load1 (v := (.slice none 0 0)) rfl Tryz.underlying106 rfl rfl (Rd.own 0 rfl rfl) rfl) ?_
 refine tp (PV.lenSl rfl Tryz.underlying106 rfl) ?_
 refine tp (PV.eql rfl rfl rfl) ?_
 refine TL.store1 (i := 2) (H' := [blkA b8 [(.slice none 0 0)] 176, (A []), blkA b4 [(.bool true)] 4]) (Want.plain rfl) rfl rfl rfl rfl rfl sz4 rfl rfl (lb rfl) rfl rfl ?_
 refine nx J6 ?_
 refine TC.ret ?_
 intro a w fr sm m
 refine leaves_one (b := b4) (e := 4) (A := [blkA b4 [(.bool true)] 4]) (B := [blkA b8 [(.slice none 0 0)] 176, (A [])]) (H' := [(A [])]) fr sm m (by simp) nm98 (read1_calm b4 _) (fun _ s => sep_selR [2] rfl s) (fun _ _ _ => trivial) rfl rfl Tryz.underlying4 rfl (fun H1 h1 => ?_)
 subst h1
 refine ⟨[.bool true], .bool true, Rd.own 0 rfl rfl, rfl, fun _ s => sep_keep [2] rfl s, ?_⟩
 exact .inl ⟨[], rfl, rfl⟩
 refine nx J4 ?_
 refine sr fun _ J7 => ?_
 refine mv ?_
 refine tp (PV.nilCheck rfl rfl) ?_
 refine tp (PV.fieldAddr (r := 0) rfl Tryz.underlying176 rfl sz106 rfl rfl) ?_
 refine tp (PV.load1 (v := (.slice (some ⟨b, off, none⟩) (r.length) (cap))) rfl Tryz.underlying106 rfl rfl (Rd.own 0 rfl rfl) rfl) ?_
 refine tp (PV.lenSl rfl Tryz.underlying106 rfl) ?_
 refine tp (PV.eql rfl rfl rfl) ?_
 refine TL.store1 (i := 2) (H' := [blkA b8 [(.slice (some ⟨b, off, none⟩) (r.length) (cap))] 176, (A r), blkA b4 [(.bool (decide (((r.length : Nat) : Int) = 0)))] 4]) (Want.plain rfl) rfl rfl rfl rfl rfl sz4 rfl rfl (lb rfl) rfl rfl ?_
 refine nx J7 ?_
 refine TC.ret ?_
 intro a w fr sm m
 refine leaves_one (b := b4) (e := 4) (A := [blkA b4 [(.bool (decide (((r.length : Nat) : Int) = 0)))] 4]) (B := [blkA b8 [(.slice (some ⟨b, off, none⟩) (r.length) (cap))] 176, (A r)]) (H' := [(A r)]) fr sm m (by simp) nm98 (read1_calm b4 _) (fun _ s => sep_selR [2] rfl s) (fun _ _ _ => trivial) rfl rfl Tryz.underlying4 rfl (fun H1 h1 => ?_)
 subst h1
 refine ⟨[.bool (decide (((r.length : Nat) : Int) = 0))], .bool (decide (((r.length : Nat) : Int) = 0)), Rd.own 0 rfl rfl, rfl, fun _ s => sep_keep [2] rfl s, ?_⟩
 exact .inl ⟨r, by congr 1; rw [decide_eq_decide]; cases r <;> simp <;> omega, rfl⟩
end Go.Proofs.YtfceaphohlbnbaaGreat
end

section
namespace Go.Proofs.YtfceaphohlbnbaaGreat
open Go Leg Codec Api

theorem read_with {fid : Nat} {caps : List Value} {x : Value} {bs : List UInt8} {α β : Type} {C : List HP} {A : α → List HP} {G : β → List HP} {φ : α → List UInt8 → Prop} {ψ : β → Prop} {R : Hl → Prop} (hR : ∀ F, R F → IsB x bs F) (hmono : ∀ F g, R F → Dj g F → R (jn g F)) (hN : Named Tryz.prog fid)
    (hc : ∀ rb, Does Tryz.prog fid ([Value.pointer (some ⟨rb, 0, none⟩)] ++ caps).toArray R (blkA rb [x] 176 :: C) (RetP (fun _ H => ∃ x' r a, H = blkA rb [x'] 176 :: A a ∧ Tail x bs x' r ∧ φ a r) (fun c H => c = giveUp ∧ ∃ x' b, H = blkA rb [x'] 176 :: G b ∧ ψ b))) :
    Does Tryz.prog 72 #[x, .func (.func fid) #[] caps.toArray] R C (Ret (fun v H => (∃ r a, v = .bool (decide (r = [])) ∧ H = A a ∧ φ a r) ∨ (∃ b, v = .bool false ∧ H = G b ∧ ψ b))) := by
  have h1 := read_does (C := all C) (G := fun h => ∃ b, ψ b ∧ sep (G b) h) (A := fun r h => ∃ a, φ a r ∧ sep (A a) h) hR hmono hN fun rb =>
    (hc rb).conv (post' := RetP (fun _ H => ∃ x' r, H = [blkA rb [x'] 176, fun h => ∃ a, φ a r ∧ sep (A a) h] ∧ Tail x bs x' r) (fun c H => c = giveUp ∧ ∃ x', H = [blkA rb [x'] 176, fun h => ∃ b, ψ b ∧ sep (G b) h]))
      (fun h s => sep_cons s fun _ => all_sep)
      (fun e H F w hp m => by
        cases e with
        | returned v =>
          obtain ⟨x', r, a, rfl, ht, hf⟩ := hp
          exact ⟨[blkA rb [x'] 176, fun h => ∃ a, φ a r ∧ sep (A a) h], m.mono fun h s => sep_cons s fun h s => sep_single ⟨a, hf, s⟩, x', r, rfl, ht⟩
        | panicked c =>
          obtain ⟨hc, x', b, rfl, hf⟩ := hp
          exact ⟨[blkA rb [x'] 176, fun h => ∃ b, ψ b ∧ sep (G b) h], m.mono fun h s => sep_cons s fun h s => sep_single ⟨b, hf, s⟩, hc, x', rfl⟩
        | outgrown => exact hp.elim)
  refine h1.conv (fun h s => sep_all s) fun e H F w hp m => ?_
  cases e with
  | returned v =>
    rcases hp with ⟨r, hv, rfl⟩ | ⟨hv, rfl⟩
    · obtain ⟨h, d, e, g1, g2, d', rfl, ⟨a, hf, s⟩, _⟩ := m
      exact ⟨A a, ⟨_, d, e, sep_more _ s d'⟩, .inl ⟨r, a, hv, rfl, hf⟩⟩
    · obtain ⟨h, d, e, g1, g2, d', rfl, ⟨b, hf, s⟩, _⟩ := m
      exact ⟨G b, ⟨_, d, e, sep_more _ s d'⟩, .inr ⟨b, hv, rfl, hf⟩⟩
  | panicked c => exact hp.elim
  | outgrown => exact hp.elim
end Go.Proofs.YtfceaphohlbnbaaGreat
end

section
namespace Go.Proofs.YtfceaphohlbnbaaGreat

open Go Leg Codec Api

set_option linter.unusedSimpArgs false
set_option linter.unusedVariables false

set_option maxRecDepth 100000

set_option maxHeartbeats 8000000

theorem readRec_does (rb : Nat) (v : Value) (bs : List UInt8) :
    Does Tryz.prog 74 #[(.pointer (some ⟨rb, 0, none⟩))] (IsB v bs) [blkA rb [v] 176] (RdPost 176 giveUp (fun mb : RecT × Bool => .tuple #[.agg (ints mb.1.flat).toArray, .bool mb.2]) readRecP v bs rb) := by
 refine Does.body (vs := [(.pointer (some ⟨rb, 0, none⟩))]) (n := 65) Tryz.func74 rfl rfl rfl (fun w0 F hF => ?_)
 refine sr fun _ J1 => ?_
 refine TL.alloc (Want.plain rfl) rfl rfl rfl z108 (fun b2 => ?_)
 change TL _ _ _ _ _ _ _ _ _ [blkA b2 (ints RecT.zero.flat) 108, blkA rb [v] 176]
 refine sg' ?_
 refine nx J1 ?_
 clear J1
 refine sr fun _ J2 => ?_
 refine mv ?_
 refine TL.callP (A := [blkA rb [v] 176]) (B := [blkA b2 (ints RecT.zero.flat) 108]) (Want.plain rfl) rfl rfl rfl nm99 rfl (small_does rb v bs (6)) (fun _ s => sep_selR [1] rfl s) (fun _ d _ => (hF).more d) (fun cP HP hP => ?_) (fun vR HR hR => ?_)
 obtain ⟨vP, rfl, rfl, hpP⟩ := hP
 change TE _ _ _ _ _ _ _ [blkA rb [vP] 176, blkA b2 (ints RecT.zero.flat) 108]
 refine TE.passPanic ?_
 clear J2
 refine TE.weak (Sub.refl _) (fun _ s => sep_keep [0] rfl s) ?_
 refine TE.panicked ?_
 exact ⟨_, rfl, rfl, by simp [readRecP, kRow, kAsk, pb_none hpP, *]⟩
 obtain ⟨a1, r1, v1, rfl, rfl, hp1, ht1⟩ := hR
 change TL _ _ _ _ _ _ _ _ _ [blkA rb [v1] 176, blkA b2 (ints RecT.zero.flat) 108]
 have hf1 := ht1 _ hF
 refine tp (PV.buildSegs (cs := ints (RecT.mk a1 0 RowT.zero 0 BallotT.zero ChangeT.zero ViewT.zero).flat) (segs := [[Value.int .i64 0], [Value.int .i64 0], ints RowT.zero.flat, [Value.int .i64 0], ints BallotT.zero.flat, ints ChangeT.zero.flat, ints ViewT.zero.flat]) (res := [[Value.int .i64 a1], [Value.int .i64 0], ints RowT.zero.flat, [Value.int .i64 0], ints BallotT.zero.flat, ints ChangeT.zero.flat, ints ViewT.zero.flat]) (parts := [(0, [Value.int .i64 a1])]) rfl rfl Tryz.underlying108 (by kernel_rfl) (by kernel_rfl) rfl (putSegs_step rfl ((rfl : [Value.int .i64 a1].length = 1).trans (rfl : [Value.int .i64 0].length = 1).symm) putSegs_nil) (RecT.eq (RecT.mk a1 0 RowT.zero 0 BallotT.zero ChangeT.zero ViewT.zero)).symm) ?_
 refine TL.alloc (Want.plain rfl) rfl rfl rfl z108 (fun b4 => ?_)
 change TL _ _ _ _ _ _ _ _ _ [blkA b4 (ints RecT.zero.flat) 108, blkA rb [v1] 176, blkA b2 (ints RecT.zero.flat) 108]
 refine TL.store (vs := ints (RecT.mk a1 0 RowT.zero 0 BallotT.zero ChangeT.zero ViewT.zero).flat) (i := 0) (H' := [blkA b4 (ints (RecT.mk a1 0 RowT.zero 0 BallotT.zero ChangeT.zero ViewT.zero).flat) 108, blkA rb [v1] 176, blkA b2 (ints RecT.zero.flat) 108]) (Want.plain rfl) rfl rfl rfl rfl rfl (by rw [(RecT.len (RecT.mk a1 0 RowT.zero 0 BallotT.zero ChangeT.zero ViewT.zero))]; exact sz108) (ints_one _) rfl rfl (by have h0 := (RecT.len RecT.zero); have h1 := (RecT.len (RecT.mk a1 0 RowT.zero 0 BallotT.zero ChangeT.zero ViewT.zero)); omega) (wwhole ((RecT.len RecT.zero).trans (RecT.len (RecT.mk a1 0 RowT.zero 0 BallotT.zero ChangeT.zero ViewT.zero)).symm)) rfl ?_
 refine nx J2 ?_
 clear J2
 refine TC.seq fun _ J3 => ?_
 refine sr fun _ J4 => ?_
 refine tp (PV.fieldAddr (r := 0) rfl Tryz.underlying108 rfl sz3 rfl rfl) ?_
 refine tp (PV.load1 (v := (.int .i64 (a1))) rfl Tryz.underlying3 rfl rfl (Rd.own 0 rfl rfl) (RecT.at_kind (RecT.mk a1 0 RowT.zero 0 BallotT.zero ChangeT.zero ViewT.zero) rfl)) ?_
 refine nx J4 ?_
 clear J4
 refine TC.block ?_
 refine sr fun _ J5 => ?_
 refine tp (PV.eql rfl rfl rfl) ?_
 refine TL.dec (fun h11 => ?_) (fun h11 => ?_)
 refine sg' ?_
 refine nx J5 ?_
 clear J5
 refine TC.yes rfl ?_
 refine sr fun _ J6 => ?_
 refine mv ?_
 refine TL.callP (A := [blkA rb [v1] 176]) (B := [blkA b4 (ints (RecT.mk a1 0 RowT.zero 0 BallotT.zero ChangeT.zero ViewT.zero).flat) 108, blkA b2 (ints RecT.zero.flat) 108]) (Want.plain rfl) rfl rfl rfl nm100 rfl (rrow_does rb v1 r1 ) (fun _ s => sep_selR [1] rfl s) (fun _ d _ => (hf1).more d) (fun cP HP hP => ?_) (fun vR HR hR => ?_)
 obtain ⟨vP, rfl, rfl, hpP⟩ := hP
 change TE _ _ _ _ _ _ _ [blkA rb [vP] 176, blkA b4 (ints (RecT.mk a1 0 RowT.zero 0 BallotT.zero ChangeT.zero ViewT.zero).flat) 108, blkA b2 (ints RecT.zero.flat) 108]
 refine TE.passPanic ?_
 clear J6
 refine TE.blockPanic ?_
 refine TE.passPanic ?_
 clear J3
 refine TE.weak (Sub.refl _) (fun _ s => sep_keep [0] rfl s) ?_
 refine TE.panicked ?_
 exact ⟨_, rfl, rfl, by simp [readRecP, kRow, kAsk, pb_some hp1, pb_none hpP, h11, *]⟩
 obtain ⟨a2, r2, v2, rfl, rfl, hp2, ht2⟩ := hR
 change TL _ _ _ _ _ _ _ _ _ [blkA rb [v2] 176, blkA b4 (ints (RecT.mk a1 0 RowT.zero 0 BallotT.zero ChangeT.zero ViewT.zero).flat) 108, blkA b2 (ints RecT.zero.flat) 108]
 have hf2 := ht2 _ hf1
 refine tp (PV.fieldAddr (r := 2) rfl Tryz.underlying108 rfl sz48 rfl rfl) ?_
 refine TL.store (vs := ints a2.flat) (i := 1) (H' := [blkA rb [v2] 176, blkA b4 (ints (RecT.mk a1 0 a2 0 BallotT.zero ChangeT.zero ViewT.zero).flat) 108, blkA b2 (ints RecT.zero.flat) 108]) (Want.plain rfl) rfl rfl rfl rfl rfl (by rw [(RowT.len a2)]; exact sz48) (ints_one _) rfl rfl (by have h0 := (RecT.len (RecT.mk a1 0 RowT.zero 0 BallotT.zero ChangeT.zero ViewT.zero)); have h1 := (RowT.len a2); omega) (RecT.wr_row_ (RecT.mk a1 0 RowT.zero 0 BallotT.zero ChangeT.zero ViewT.zero) 0 rfl (by have h1 := (RowT.len a2); omega) (wwhole ((RowT.len RowT.zero).trans (RowT.len a2).symm))) rfl ?_
 refine nx J6 ?_
 clear J6
 refine TC.seq fun _ J7 => ?_
 refine TC.draw (fun w => Frm F w ∧ w.heap[b4]? = some (.cells (ints (RecT.mk a1 0 a2 0 BallotT.zero ChangeT.zero ViewT.zero).flat).toArray 108 (0, 0)) ∧ True) mixed rfl (fun _ s => ⟨Frm.of s, s.block 1 (lb rfl) rfl, trivial⟩) ?_
 refine ta 0 rfl (PV.loadN (vs := ints (RecT.mk a1 0 a2 0 BallotT.zero ChangeT.zero ViewT.zero).flat) rfl Tryz.underlying108 rfl sz108 rfl (fun _ h => h.2.1) (RecT.len (RecT.mk a1 0 a2 0 BallotT.zero ChangeT.zero ViewT.zero)) (whole (RecT.len (RecT.mk a1 0 a2 0 BallotT.zero ChangeT.zero ViewT.zero)))) ?_
 refine ta 1 rfl (PV.fieldAddr (r := 2) rfl Tryz.underlying108 rfl sz48 rfl rfl) ?_
 refine ta 2 rfl (PV.loadN (vs := ints a2.flat) rfl Tryz.underlying48 rfl sz48 rfl (fun _ h => h.2.1) (RowT.len a2) (RecT.sub_row (RecT.mk a1 0 a2 0 BallotT.zero ChangeT.zero ViewT.zero) 0 rfl (by decide) (whole (RowT.len a2)))) ?_
 refine TD.all [3] (by kernel_rfl) rfl ?_
 refine AllT.cons rfl ?_ ?_
 refine TL.callR (A := []) (Want.plain rfl) rfl rfl rfl nm33 rfl (rowRight_does a2 (row_wf hp2)) (fun _ s => s) (fun _ _ _ => trivial) (fun vR HR hR => ?_)
 obtain ⟨rfl, rfl⟩ := hR
 change TL _ _ _ _ _ _ _ _ _ [blkA rb [v2] 176, blkA b4 (ints (RecT.mk a1 0 a2 0 BallotT.zero ChangeT.zero ViewT.zero).flat) 108, blkA b2 (ints RecT.zero.flat) 108]
 refine TL.nil ?_
 refine TE.draw (fun _ s => ⟨Frm.of s, s.block 1 (lb rfl) rfl, trivial⟩) ?_
 refine TD.all [4] (by kernel_rfl) rfl ?_
 refine AllT.cons rfl ?_ ?_
 refine TL.store (vs := ints (RecT.mk a1 0 a2 0 BallotT.zero ChangeT.zero ViewT.zero).flat) (i := 2) (H' := [blkA rb [v2] 176, blkA b4 (ints (RecT.mk a1 0 a2 0 BallotT.zero ChangeT.zero ViewT.zero).flat) 108, blkA b2 (ints (RecT.mk a1 0 a2 0 BallotT.zero ChangeT.zero ViewT.zero).flat) 108]) (Want.plain rfl) rfl rfl rfl rfl rfl (by rw [(RecT.len (RecT.mk a1 0 a2 0 BallotT.zero ChangeT.zero ViewT.zero))]; exact sz108) (ints_one _) rfl rfl (by have h0 := (RecT.len RecT.zero); have h1 := (RecT.len (RecT.mk a1 0 a2 0 BallotT.zero ChangeT.zero ViewT.zero)); omega) (wwhole ((RecT.len RecT.zero).trans (RecT.len (RecT.mk a1 0 a2 0 BallotT.zero ChangeT.zero ViewT.zero)).symm)) rfl ?_
 refine TL.nil ?_
 refine TE.draw (fun _ s => ⟨Frm.of s, s.block 1 (lb rfl) rfl, trivial⟩) ?_
 refine ta 5 rfl (PV.assign rfl rfl) ?_
 refine TD.done (by kernel_rfl) ?_
 refine TE.next J7 ?_
 clear J7
 refine TC.ret ?_
 refine TE.blockRet ?_
 refine TE.passRet ?_
 clear J3
 refine TE.retCT (H' := [blkA rb [v2] 176]) rfl rfl rfl Tryz.underlying108 rfl sz108 (Rd.own 2 rfl rfl) (RecT.len (RecT.mk a1 0 a2 0 BallotT.zero ChangeT.zero ViewT.zero)) (fun _ s => sep_keep [0] rfl s) ?_
 exact ⟨((RecT.mk a1 0 a2 0 BallotT.zero ChangeT.zero ViewT.zero), (rightR a2)), _, _, rfl, rfl, by simp [readRecP, kRow, kAsk, pr, pb_some hp1, pb_some hp2, h11, MsgT.zero, RecT.zero, *], (ht1.trans ht2)⟩
 exact AllT.nil
 exact AllT.nil
 refine sg' ?_
 refine nx J5 ?_
 clear J5
 refine TC.no rfl ?_
 refine sr fun _ J8 => ?_
 refine tp (PV.eql rfl rfl rfl) ?_
 refine TL.dec (fun h20 => ?_) (fun h20 => ?_)
 refine sg' ?_
 refine nx J8 ?_
 clear J8
 refine TC.yes rfl ?_
 refine sr fun _ J9 => ?_
 refine mv ?_
 refine TL.callP (A := [blkA rb [v1] 176]) (B := [blkA b4 (ints (RecT.mk a1 0 RowT.zero 0 BallotT.zero ChangeT.zero ViewT.zero).flat) 108, blkA b2 (ints RecT.zero.flat) 108]) (Want.plain rfl) rfl rfl rfl nm99 rfl (small_does rb v1 r1 (5)) (fun _ s => sep_selR [1] rfl s) (fun _ d _ => (hf1).more d) (fun cP HP hP => ?_) (fun vR HR hR => ?_)
 obtain ⟨vP, rfl, rfl, hpP⟩ := hP
 change TE _ _ _ _ _ _ _ [blkA rb [vP] 176, blkA b4 (ints (RecT.mk a1 0 RowT.zero 0 BallotT.zero ChangeT.zero ViewT.zero).flat) 108, blkA b2 (ints RecT.zero.flat) 108]
 refine TE.passPanic ?_
 clear J9
 refine TE.blockPanic ?_
 refine TE.passPanic ?_
 clear J3
 refine TE.weak (Sub.refl _) (fun _ s => sep_keep [0] rfl s) ?_
 refine TE.panicked ?_
 exact ⟨_, rfl, rfl, by simp [readRecP, kRow, kAsk, pb_some hp1, pb_none hpP, h11, h20, *]⟩
 obtain ⟨a2, r2, v2, rfl, rfl, hp2, ht2⟩ := hR
 change TL _ _ _ _ _ _ _ _ _ [blkA rb [v2] 176, blkA b4 (ints (RecT.mk a1 0 RowT.zero 0 BallotT.zero ChangeT.zero ViewT.zero).flat) 108, blkA b2 (ints RecT.zero.flat) 108]
 have hf2 := ht2 _ hf1
 refine tp (PV.fieldAddr (r := 1) rfl Tryz.underlying108 rfl sz3 rfl rfl) ?_
 refine TL.store1 (i := 1) (H' := [blkA rb [v2] 176, blkA b4 (ints (RecT.mk a1 a2 RowT.zero 0 BallotT.zero ChangeT.zero ViewT.zero).flat) 108, blkA b2 (ints RecT.zero.flat) 108]) (Want.plain rfl) rfl rfl rfl rfl rfl sz3 rfl rfl (by have h0 := (RecT.len (RecT.mk a1 0 RowT.zero 0 BallotT.zero ChangeT.zero ViewT.zero)); omega) (RecT.set_whose (RecT.mk a1 0 RowT.zero 0 BallotT.zero ChangeT.zero ViewT.zero) rfl _) rfl ?_
 refine nx J9 ?_
 clear J9
 refine sr fun _ J10 => ?_
 refine mv ?_
 refine TL.callP (A := [blkA rb [v2] 176]) (B := [blkA b4 (ints (RecT.mk a1 a2 RowT.zero 0 BallotT.zero ChangeT.zero ViewT.zero).flat) 108, blkA b2 (ints RecT.zero.flat) 108]) (Want.plain rfl) rfl rfl rfl nm100 rfl (rrow_does rb v2 r2 ) (fun _ s => s) (fun _ d _ => (hf2).more d) (fun cP HP hP => ?_) (fun vR HR hR => ?_)
 obtain ⟨vP, rfl, rfl, hpP⟩ := hP
 change TE _ _ _ _ _ _ _ [blkA rb [vP] 176, blkA b4 (ints (RecT.mk a1 a2 RowT.zero 0 BallotT.zero ChangeT.zero ViewT.zero).flat) 108, blkA b2 (ints RecT.zero.flat) 108]
 refine TE.passPanic ?_
 clear J10
 refine TE.blockPanic ?_
 refine TE.passPanic ?_
 clear J3
 refine TE.weak (Sub.refl _) (fun _ s => sep_keep [0] rfl s) ?_
 refine TE.panicked ?_
 exact ⟨_, rfl, rfl, by simp [readRecP, kRow, kAsk, pb_some hp1, pb_some hp2, pb_none hpP, h11, h20, *]⟩
 obtain ⟨a3, r3, v3, rfl, rfl, hp3, ht3⟩ := hR
 change TL _ _ _ _ _ _ _ _ _ [blkA rb [v3] 176, blkA b4 (ints (RecT.mk a1 a2 RowT.zero 0 BallotT.zero ChangeT.zero ViewT.zero).flat) 108, blkA b2 (ints RecT.zero.flat) 108]
 have hf3 := ht3 _ hf2
 refine tp (PV.fieldAddr (r := 2) rfl Tryz.underlying108 rfl sz48 rfl rfl) ?_
 refine TL.store (vs := ints a3.flat) (i := 1) (H' := [blkA rb [v3] 176, blkA b4 (ints (RecT.mk a1 a2 a3 0 BallotT.zero ChangeT.zero ViewT.zero).flat) 108, blkA b2 (ints RecT.zero.flat) 108]) (Want.plain rfl) rfl rfl rfl rfl rfl (by rw [(RowT.len a3)]; exact sz48) (ints_one _) rfl rfl (by have h0 := (RecT.len (RecT.mk a1 a2 RowT.zero 0 BallotT.zero ChangeT.zero ViewT.zero)); have h1 := (RowT.len a3); omega) (RecT.wr_row_ (RecT.mk a1 a2 RowT.zero 0 BallotT.zero ChangeT.zero ViewT.zero) 0 rfl (by have h1 := (RowT.len a3); omega) (wwhole ((RowT.len RowT.zero).trans (RowT.len a3).symm))) rfl ?_
 refine nx J10 ?_
 clear J10
 refine TC.seq fun _ J11 => ?_
 refine TC.draw (fun w => Frm F w ∧ w.heap[b4]? = some (.cells (ints (RecT.mk a1 a2 a3 0 BallotT.zero ChangeT.zero ViewT.zero).flat).toArray 108 (0, 0)) ∧ True) mixed rfl (fun _ s => ⟨Frm.of s, s.block 1 (lb rfl) rfl, trivial⟩) ?_
 refine ta 0 rfl (PV.loadN (vs := ints (RecT.mk a1 a2 a3 0 BallotT.zero ChangeT.zero ViewT.zero).flat) rfl Tryz.underlying108 rfl sz108 rfl (fun _ h => h.2.1) (RecT.len (RecT.mk a1 a2 a3 0 BallotT.zero ChangeT.zero ViewT.zero)) (whole (RecT.len (RecT.mk a1 a2 a3 0 BallotT.zero ChangeT.zero ViewT.zero)))) ?_
 refine ta 1 rfl (PV.fieldAddr (r := 2) rfl Tryz.underlying108 rfl sz48 rfl rfl) ?_
 refine ta 2 rfl (PV.loadN (vs := ints a3.flat) rfl Tryz.underlying48 rfl sz48 rfl (fun _ h => h.2.1) (RowT.len a3) (RecT.sub_row (RecT.mk a1 a2 a3 0 BallotT.zero ChangeT.zero ViewT.zero) 0 rfl (by decide) (whole (RowT.len a3)))) ?_
 refine TD.all [3] (by kernel_rfl) rfl ?_
 refine AllT.cons rfl ?_ ?_
 refine TL.callR (A := []) (Want.plain rfl) rfl rfl rfl nm33 rfl (rowRight_does a3 (row_wf hp3)) (fun _ s => s) (fun _ _ _ => trivial) (fun vR HR hR => ?_)
 obtain ⟨rfl, rfl⟩ := hR
 change TL _ _ _ _ _ _ _ _ _ [blkA rb [v3] 176, blkA b4 (ints (RecT.mk a1 a2 a3 0 BallotT.zero ChangeT.zero ViewT.zero).flat) 108, blkA b2 (ints RecT.zero.flat) 108]
 refine TL.nil ?_
 refine TE.draw (fun _ s => ⟨Frm.of s, s.block 1 (lb rfl) rfl, trivial⟩) ?_
 refine TD.all [4] (by kernel_rfl) rfl ?_
 refine AllT.cons rfl ?_ ?_
 refine TL.store (vs := ints (RecT.mk a1 a2 a3 0 BallotT.zero ChangeT.zero ViewT.zero).flat) (i := 2) (H' := [blkA rb [v3] 176, blkA b4 (ints (RecT.mk a1 a2 a3 0 BallotT.zero ChangeT.zero ViewT.zero).flat) 108, blkA b2 (ints (RecT.mk a1 a2 a3 0 BallotT.zero ChangeT.zero ViewT.zero).flat) 108]) (Want.plain rfl) rfl rfl rfl rfl rfl (by rw [(RecT.len (RecT.mk a1 a2 a3 0 BallotT.zero ChangeT.zero ViewT.zero))]; exact sz108) (ints_one _) rfl rfl (by have h0 := (RecT.len RecT.zero); have h1 := (RecT.len (RecT.mk a1 a2 a3 0 BallotT.zero ChangeT.zero ViewT.zero)); omega) (wwhole ((RecT.len RecT.zero).trans (RecT.len (RecT.mk a1 a2 a3 0 BallotT.zero ChangeT.zero ViewT.zero)).symm)) rfl ?_
 refine TL.nil ?_
 refine TE.draw (fun _ s => ⟨Frm.of s, s.block 1 (lb rfl) rfl, trivial⟩) ?_
 refine ta 5 rfl (PV.assign rfl rfl) ?_
 refine TD.done (by kernel_rfl) ?_
 refine TE.next J11 ?_
 clear J11
 refine TC.ret ?_
 refine TE.blockRet ?_
 refine TE.passRet ?_
 clear J3
 refine TE.retCT (H' := [blkA rb [v3] 176]) rfl rfl rfl Tryz.underlying108 rfl sz108 (Rd.own 2 rfl rfl) (RecT.len (RecT.mk a1 a2 a3 0 BallotT.zero ChangeT.zero ViewT.zero)) (fun _ s => sep_keep [0] rfl s) ?_
 exact ⟨((RecT.mk a1 a2 a3 0 BallotT.zero ChangeT.zero ViewT.zero), (rightR a3)), _, _, rfl, rfl, by simp [readRecP, kRow, kAsk, pr, pb_some hp1, pb_some hp2, pb_some hp3, h11, h20, MsgT.zero, RecT.zero, *], (ht1.trans (ht2.trans ht3))⟩
 exact AllT.nil
 exact AllT.nil
 refine sg' ?_
 refine nx J8 ?_
 clear J8
 refine TC.no rfl ?_
 refine sr fun _ J12 => ?_
 refine tp (PV.eql rfl rfl rfl) ?_
 refine TL.dec (fun h32 => ?_) (fun h32 => ?_)
 refine sg' ?_
 refine nx J12 ?_
 clear J12
 refine TC.yes rfl ?_
 refine TC.region ?_
 refine mv ?_
 refine TL.callP (A := [blkA rb [v1] 176]) (B := [blkA b4 (ints (RecT.mk a1 0 RowT.zero 0 BallotT.zero ChangeT.zero ViewT.zero).flat) 108, blkA b2 (ints RecT.zero.flat) 108]) (Want.plain rfl) rfl rfl rfl nm99 rfl (small_does rb v1 r1 (5)) (fun _ s => sep_selR [1] rfl s) (fun _ d _ => (hf1).more d) (fun cP HP hP => ?_) (fun vR HR hR => ?_)
 obtain ⟨vP, rfl, rfl, hpP⟩ := hP
 change TE _ _ _ _ _ _ _ [blkA rb [vP] 176, blkA b4 (ints (RecT.mk a1 0 RowT.zero 0 BallotT.zero ChangeT.zero ViewT.zero).flat) 108, blkA b2 (ints RecT.zero.flat) 108]
 refine TE.blockPanic ?_
 refine TE.passPanic ?_
 clear J3
 refine TE.weak (Sub.refl _) (fun _ s => sep_keep [0] rfl s) ?_
 refine TE.panicked ?_
 exact ⟨_, rfl, rfl, by simp [readRecP, kRow, kAsk, pb_some hp1, pb_none hpP, h11, h20, h32, *]⟩
 obtain ⟨a2, r2, v2, rfl, rfl, hp2, ht2⟩ := hR
 change TL _ _ _ _ _ _ _ _ _ [blkA rb [v2] 176, blkA b4 (ints (RecT.mk a1 0 RowT.zero 0 BallotT.zero ChangeT.zero ViewT.zero).flat) 108, blkA b2 (ints RecT.zero.flat) 108]
 have hf2 := ht2 _ hf1
 refine tp (PV.fieldAddr (r := 1) rfl Tryz.underlying108 rfl sz3 rfl rfl) ?_
 refine TL.store1 (i := 1) (H' := [blkA rb [v2] 176, blkA b4 (ints (RecT.mk a1 a2 RowT.zero 0 BallotT.zero ChangeT.zero ViewT.zero).flat) 108, blkA b2 (ints RecT.zero.flat) 108]) (Want.plain rfl) rfl rfl rfl rfl rfl sz3 rfl rfl (by have h0 := (RecT.len (RecT.mk a1 0 RowT.zero 0 BallotT.zero ChangeT.zero ViewT.zero)); omega) (RecT.set_whose (RecT.mk a1 0 RowT.zero 0 BallotT.zero ChangeT.zero ViewT.zero) rfl _) rfl ?_
 refine TL.nil ?_
 refine TE.blockEnd ?_
 refine TE.next J3 ?_
 clear J3
 refine sr fun _ J13 => ?_
 refine tp (PV.loadN (vs := ints (RecT.mk a1 a2 RowT.zero 0 BallotT.zero ChangeT.zero ViewT.zero).flat) rfl Tryz.underlying108 rfl sz108 rfl (Rd.own 1 rfl rfl) (RecT.len (RecT.mk a1 a2 RowT.zero 0 BallotT.zero ChangeT.zero ViewT.zero)) (whole (RecT.len (RecT.mk a1 a2 RowT.zero 0 BallotT.zero ChangeT.zero ViewT.zero)))) ?_
 refine TL.store (vs := ints (RecT.mk a1 a2 RowT.zero 0 BallotT.zero ChangeT.zero ViewT.zero).flat) (i := 2) (H' := [blkA rb [v2] 176, blkA b4 (ints (RecT.mk a1 a2 RowT.zero 0 BallotT.zero ChangeT.zero ViewT.zero).flat) 108, blkA b2 (ints (RecT.mk a1 a2 RowT.zero 0 BallotT.zero ChangeT.zero ViewT.zero).flat) 108]) (Want.plain rfl) rfl rfl rfl rfl rfl (by rw [(RecT.len (RecT.mk a1 a2 RowT.zero 0 BallotT.zero ChangeT.zero ViewT.zero))]; exact sz108) (ints_one _) rfl rfl (by have h0 := (RecT.len RecT.zero); have h1 := (RecT.len (RecT.mk a1 a2 RowT.zero 0 BallotT.zero ChangeT.zero ViewT.zero)); omega) (wwhole ((RecT.len RecT.zero).trans (RecT.len (RecT.mk a1 a2 RowT.zero 0 BallotT.zero ChangeT.zero ViewT.zero)).symm)) rfl ?_
 refine sg' ?_
 refine nx J13 ?_
 clear J13
 refine TC.ret ?_
 refine TE.retCT (H' := [blkA rb [v2] 176]) rfl rfl rfl Tryz.underlying108 rfl sz108 (Rd.own 2 rfl rfl) (RecT.len (RecT.mk a1 a2 RowT.zero 0 BallotT.zero ChangeT.zero ViewT.zero)) (fun _ s => sep_keep [0] rfl s) ?_
 exact ⟨((RecT.mk a1 a2 RowT.zero 0 BallotT.zero ChangeT.zero ViewT.zero), true), _, _, rfl, rfl, by simp [readRecP, kRow, kAsk, pr, pb_some hp1, pb_some hp2, h11, h20, h32, MsgT.zero, RecT.zero, *], (ht1.trans ht2)⟩
 refine sg' ?_
 refine nx J12 ?_
 clear J12
 refine TC.no rfl ?_
 refine sr fun _ J14 => ?_
 refine tp (PV.eql rfl rfl rfl) ?_
 refine TL.dec (fun h37 => ?_) (fun h37 => ?_)
 refine sg' ?_
 refine nx J14 ?_
 clear J14
 refine TC.yes rfl ?_
 refine sr fun _ J15 => ?_
 refine mv ?_
 refine TL.callP (A := [blkA rb [v1] 176]) (B := [blkA b4 (ints (RecT.mk a1 0 RowT.zero 0 BallotT.zero ChangeT.zero ViewT.zero).flat) 108, blkA b2 (ints RecT.zero.flat) 108]) (Want.plain rfl) rfl rfl rfl nm101 rfl (num_does rb v1 r1 ) (fun _ s => sep_selR [1] rfl s) (fun _ d _ => (hf1).more d) (fun cP HP hP => ?_) (fun vR HR hR => ?_)
 obtain ⟨vP, rfl, rfl, hpP⟩ := hP
 change TE _ _ _ _ _ _ _ [blkA rb [vP] 176, blkA b4 (ints (RecT.mk a1 0 RowT.zero 0 BallotT.zero ChangeT.zero ViewT.zero).flat) 108, blkA b2 (ints RecT.zero.flat) 108]
 refine TE.passPanic ?_
 clear J15
 refine TE.blockPanic ?_
 refine TE.passPanic ?_
 clear J3
 refine TE.weak (Sub.refl _) (fun _ s => sep_keep [0] rfl s) ?_
 refine TE.panicked ?_
 exact ⟨_, rfl, rfl, by simp [readRecP, kRow, kAsk, pb_some hp1, pb_none hpP, h11, h20, h32, h37, *]⟩
 obtain ⟨a2, r2, v2, rfl, rfl, hp2, ht2⟩ := hR
 change TL _ _ _ _ _ _ _ _ _ [blkA rb [v2] 176, blkA b4 (ints (RecT.mk a1 0 RowT.zero 0 BallotT.zero ChangeT.zero ViewT.zero).flat) 108, blkA b2 (ints RecT.zero.flat) 108]
 have hf2 := ht2 _ hf1
 refine tp (PV.fieldAddr (r := 176) rfl Tryz.underlying108 rfl sz3 rfl rfl) ?_
 refine TL.store1 (i := 1) (H' := [blkA rb [v2] 176, blkA b4 (ints (RecT.mk a1 0 RowT.zero a2 BallotT.zero ChangeT.zero ViewT.zero).flat) 108, blkA b2 (ints RecT.zero.flat) 108]) (Want.plain rfl) rfl rfl rfl rfl rfl sz3 rfl rfl (by have h0 := (RecT.len (RecT.mk a1 0 RowT.zero 0 BallotT.zero ChangeT.zero ViewT.zero)); omega) (RecT.set_epoch (RecT.mk a1 0 RowT.zero 0 BallotT.zero ChangeT.zero ViewT.zero) rfl _) rfl ?_
 refine nx J15 ?_
 clear J15
 refine TC.region ?_
 refine mv ?_
 refine TL.callP (A := [blkA rb [v2] 176]) (B := [blkA b4 (ints (RecT.mk a1 0 RowT.zero a2 BallotT.zero ChangeT.zero ViewT.zero).flat) 108, blkA b2 (ints RecT.zero.flat) 108]) (Want.plain rfl) rfl rfl rfl nm102 rfl (rballot_does rb v2 r2 ) (fun _ s => s) (fun _ d _ => (hf2).more d) (fun cP HP hP => ?_) (fun vR HR hR => ?_)
 obtain ⟨vP, rfl, rfl, hpP⟩ := hP
 change TE _ _ _ _ _ _ _ [blkA rb [vP] 176, blkA b4 (ints (RecT.mk a1 0 RowT.zero a2 BallotT.zero ChangeT.zero ViewT.zero).flat) 108, blkA b2 (ints RecT.zero.flat) 108]
 refine TE.blockPanic ?_
 refine TE.passPanic ?_
 clear J3
 refine TE.weak (Sub.refl _) (fun _ s => sep_keep [0] rfl s) ?_
 refine TE.panicked ?_
 exact ⟨_, rfl, rfl, by simp [readRecP, kRow, kAsk, pb_some hp1, pb_some hp2, pb_none hpP, h11, h20, h32, h37, *]⟩
 obtain ⟨a3, r3, v3, rfl, rfl, hp3, ht3⟩ := hR
 change TL _ _ _ _ _ _ _ _ _ [blkA rb [v3] 176, blkA b4 (ints (RecT.mk a1 0 RowT.zero a2 BallotT.zero ChangeT.zero ViewT.zero).flat) 108, blkA b2 (ints RecT.zero.flat) 108]
 have hf3 := ht3 _ hf2
 refine tp (PV.fieldAddr (r := 177) rfl Tryz.underlying108 rfl sz50 rfl rfl) ?_
 refine TL.store (vs := ints a3.flat) (i := 1) (H' := [blkA rb [v3] 176, blkA b4 (ints (RecT.mk a1 0 RowT.zero a2 a3 ChangeT.zero ViewT.zero).flat) 108, blkA b2 (ints RecT.zero.flat) 108]) (Want.plain rfl) rfl rfl rfl rfl rfl (by rw [(BallotT.len a3)]; exact sz50) (ints_one _) rfl rfl (by have h0 := (RecT.len (RecT.mk a1 0 RowT.zero a2 BallotT.zero ChangeT.zero ViewT.zero)); have h1 := (BallotT.len a3); omega) (RecT.wr_ballot_ (RecT.mk a1 0 RowT.zero a2 BallotT.zero ChangeT.zero ViewT.zero) 0 rfl (by have h1 := (BallotT.len a3); omega) (wwhole ((BallotT.len BallotT.zero).trans (BallotT.len a3).symm))) rfl ?_
 refine TL.nil ?_
 refine TE.blockEnd ?_
 refine TE.next J3 ?_
 clear J3
 refine sr fun _ J16 => ?_
 refine tp (PV.loadN (vs := ints (RecT.mk a1 0 RowT.zero a2 a3 ChangeT.zero ViewT.zero).flat) rfl Tryz.underlying108 rfl sz108 rfl (Rd.own 1 rfl rfl) (RecT.len (RecT.mk a1 0 RowT.zero a2 a3 ChangeT.zero ViewT.zero)) (whole (RecT.len (RecT.mk a1 0 RowT.zero a2 a3 ChangeT.zero ViewT.zero)))) ?_
 refine TL.store (vs := ints (RecT.mk a1 0 RowT.zero a2 a3 ChangeT.zero ViewT.zero).flat) (i := 2) (H' := [blkA rb [v3] 176, blkA b4 (ints (RecT.mk a1 0 RowT.zero a2 a3 ChangeT.zero ViewT.zero).flat) 108, blkA b2 (ints (RecT.mk a1 0 RowT.zero a2 a3 ChangeT.zero ViewT.zero).flat) 108]) (Want.plain rfl) rfl rfl rfl rfl rfl (by rw [(RecT.len (RecT.mk a1 0 RowT.zero a2 a3 ChangeT.zero ViewT.zero))]; exact sz108) (ints_one _) rfl rfl (by have h0 := (RecT.len RecT.zero); have h1 := (RecT.len (RecT.mk a1 0 RowT.zero a2 a3 ChangeT.zero ViewT.zero)); omega) (wwhole ((RecT.len RecT.zero).trans (RecT.len (RecT.mk a1 0 RowT.zero a2 a3 ChangeT.zero ViewT.zero)).symm)) rfl ?_
 refine sg' ?_
 refine nx J16 ?_
 clear J16
 refine TC.ret ?_
 refine TE.retCT (H' := [blkA rb [v3] 176]) rfl rfl rfl Tryz.underlying108 rfl sz108 (Rd.own 2 rfl rfl) (RecT.len (RecT.mk a1 0 RowT.zero a2 a3 ChangeT.zero ViewT.zero)) (fun _ s => sep_keep [0] rfl s) ?_
 exact ⟨((RecT.mk a1 0 RowT.zero a2 a3 ChangeT.zero ViewT.zero), true), _, _, rfl, rfl, by simp [readRecP, kRow, kAsk, pr, pb_some hp1, pb_some hp2, pb_some hp3, h11, h20, h32, h37, MsgT.zero, RecT.zero, *], (ht1.trans (ht2.trans ht3))⟩
 refine sg' ?_
 refine nx J14 ?_
 clear J14
 refine TC.no rfl ?_
 refine sr fun _ J17 => ?_
 refine tp (PV.eql rfl rfl rfl) ?_
 refine TL.dec (fun h45 => ?_) (fun h45 => ?_)
 refine sg' ?_
 refine nx J17 ?_
 clear J17
 refine TC.yes rfl ?_
 refine sr fun _ J18 => ?_
 refine mv ?_
 refine TL.callP (A := [blkA rb [v1] 176]) (B := [blkA b4 (ints (RecT.mk a1 0 RowT.zero 0 BallotT.zero ChangeT.zero ViewT.zero).flat) 108, blkA b2 (ints RecT.zero.flat) 108]) (Want.plain rfl) rfl rfl rfl nm101 rfl (num_does rb v1 r1 ) (fun _ s => sep_selR [1] rfl s) (fun _ d _ => (hf1).more d) (fun cP HP hP => ?_) (fun vR HR hR => ?_)
 obtain ⟨vP, rfl, rfl, hpP⟩ := hP
 change TE _ _ _ _ _ _ _ [blkA rb [vP] 176, blkA b4 (ints (RecT.mk a1 0 RowT.zero 0 BallotT.zero ChangeT.zero ViewT.zero).flat) 108, blkA b2 (ints RecT.zero.flat) 108]
 refine TE.passPanic ?_
 clear J18
 refine TE.blockPanic ?_
 refine TE.passPanic ?_
 clear J3
 refine TE.weak (Sub.refl _) (fun _ s => sep_keep [0] rfl s) ?_
 refine TE.panicked ?_
 exact ⟨_, rfl, rfl, by simp [readRecP, kRow, kAsk, pb_some hp1, pb_none hpP, h11, h20, h32, h37, h45, *]⟩
 obtain ⟨a2, r2, v2, rfl, rfl, hp2, ht2⟩ := hR
 change TL _ _ _ _ _ _ _ _ _ [blkA rb [v2] 176, blkA b4 (ints (RecT.mk a1 0 RowT.zero 0 BallotT.zero ChangeT.zero ViewT.zero).flat) 108, blkA b2 (ints RecT.zero.flat) 108]
 have hf2 := ht2 _ hf1
 refine tp (PV.fieldAddr (r := 176) rfl Tryz.underlying108 rfl sz3 rfl rfl) ?_
 refine TL.store1 (i := 1) (H' := [blkA rb [v2] 176, blkA b4 (ints (RecT.mk a1 0 RowT.zero a2 BallotT.zero ChangeT.zero ViewT.zero).flat) 108, blkA b2 (ints RecT.zero.flat) 108]) (Want.plain rfl) rfl rfl rfl rfl rfl sz3 rfl rfl (by have h0 := (RecT.len (RecT.mk a1 0 RowT.zero 0 BallotT.zero ChangeT.zero ViewT.zero)); omega) (RecT.set_epoch (RecT.mk a1 0 RowT.zero 0 BallotT.zero ChangeT.zero ViewT.zero) rfl _) rfl ?_
 refine nx J18 ?_
 clear J18
 refine sr fun _ J19 => ?_
 refine mv ?_
 refine TL.callP (A := [blkA rb [v2] 176]) (B := [blkA b4 (ints (RecT.mk a1 0 RowT.zero a2 BallotT.zero ChangeT.zero ViewT.zero).flat) 108, blkA b2 (ints RecT.zero.flat) 108]) (Want.plain rfl) rfl rfl rfl nm102 rfl (rballot_does rb v2 r2 ) (fun _ s => s) (fun _ d _ => (hf2).more d) (fun cP HP hP => ?_) (fun vR HR hR => ?_)
 obtain ⟨vP, rfl, rfl, hpP⟩ := hP
 change TE _ _ _ _ _ _ _ [blkA rb [vP] 176, blkA b4 (ints (RecT.mk a1 0 RowT.zero a2 BallotT.zero ChangeT.zero ViewT.zero).flat) 108, blkA b2 (ints RecT.zero.flat) 108]
 refine TE.passPanic ?_
 clear J19
 refine TE.blockPanic ?_
 refine TE.passPanic ?_
 clear J3
 refine TE.weak (Sub.refl _) (fun _ s => sep_keep [0] rfl s) ?_
 refine TE.panicked ?_
 exact ⟨_, rfl, rfl, by simp [readRecP, kRow, kAsk, pb_some hp1, pb_some hp2, pb_none hpP, h11, h20, h32, h37, h45, *]⟩
 obtain ⟨a3, r3, v3, rfl, rfl, hp3, ht3⟩ := hR
 change TL _ _ _ _ _ _ _ _ _ [blkA rb [v3] 176, blkA b4 (ints (RecT.mk a1 0 RowT.zero a2 BallotT.zero ChangeT.zero ViewT.zero).flat) 108, blkA b2 (ints RecT.zero.flat) 108]
 have hf3 := ht3 _ hf2
 refine tp (PV.fieldAddr (r := 177) rfl Tryz.underlying108 rfl sz50 rfl rfl) ?_
 refine TL.store (vs := ints a3.flat) (i := 1) (H' := [blkA rb [v3] 176, blkA b4 (ints (RecT.mk a1 0 RowT.zero a2 a3 ChangeT.zero ViewT.zero).flat) 108, blkA b2 (ints RecT.zero.flat) 108]) (Want.plain rfl) rfl rfl rfl rfl rfl (by rw [(BallotT.len a3)]; exact sz50) (ints_one _) rfl rfl (by have h0 := (RecT.len (RecT.mk a1 0 RowT.zero a2 BallotT.zero ChangeT.zero ViewT.zero)); have h1 := (BallotT.len a3); omega) (RecT.wr_ballot_ (RecT.mk a1 0 RowT.zero a2 BallotT.zero ChangeT.zero ViewT.zero) 0 rfl (by have h1 := (BallotT.len a3); omega) (wwhole ((BallotT.len BallotT.zero).trans (BallotT.len a3).symm))) rfl ?_
 refine nx J19 ?_
 clear J19
 refine TC.region ?_
 refine mv ?_
 refine TL.callP (A := [blkA rb [v3] 176]) (B := [blkA b4 (ints (RecT.mk a1 0 RowT.zero a2 a3 ChangeT.zero ViewT.zero).flat) 108, blkA b2 (ints RecT.zero.flat) 108]) (Want.plain rfl) rfl rfl rfl nm103 rfl (rchange_does rb v3 r3 ) (fun _ s => s) (fun _ d _ => (hf3).more d) (fun cP HP hP => ?_) (fun vR HR hR => ?_)
 obtain ⟨vP, rfl, rfl, hpP⟩ := hP
 change TE _ _ _ _ _ _ _ [blkA rb [vP] 176, blkA b4 (ints (RecT.mk a1 0 RowT.zero a2 a3 ChangeT.zero ViewT.zero).flat) 108, blkA b2 (ints RecT.zero.flat) 108]
 refine TE.blockPanic ?_
 refine TE.passPanic ?_
 clear J3
 refine TE.weak (Sub.refl _) (fun _ s => sep_keep [0] rfl s) ?_
 refine TE.panicked ?_
 exact ⟨_, rfl, rfl, by simp [readRecP, kRow, kAsk, pb_some hp1, pb_some hp2, pb_some hp3, pb_none hpP, h11, h20, h32, h37, h45, *]⟩
 obtain ⟨a4, r4, v4, rfl, rfl, hp4, ht4⟩ := hR
 change TL _ _ _ _ _ _ _ _ _ [blkA rb [v4] 176, blkA b4 (ints (RecT.mk a1 0 RowT.zero a2 a3 ChangeT.zero ViewT.zero).flat) 108, blkA b2 (ints RecT.zero.flat) 108]
 have hf4 := ht4 _ hf3
 refine tp (PV.fieldAddr (r := 179) rfl Tryz.underlying108 rfl sz36 rfl rfl) ?_
 refine TL.store (vs := ints a4.flat) (i := 1) (H' := [blkA rb [v4] 176, blkA b4 (ints (RecT.mk a1 0 RowT.zero a2 a3 a4 ViewT.zero).flat) 108, blkA b2 (ints RecT.zero.flat) 108]) (Want.plain rfl) rfl rfl rfl rfl rfl (by rw [(ChangeT.len a4)]; exact sz36) (ints_one _) rfl rfl (by have h0 := (RecT.len (RecT.mk a1 0 RowT.zero a2 a3 ChangeT.zero ViewT.zero)); have h1 := (ChangeT.len a4); omega) (RecT.wr_change_ (RecT.mk a1 0 RowT.zero a2 a3 ChangeT.zero ViewT.zero) 0 rfl (by have h1 := (ChangeT.len a4); omega) (wwhole ((ChangeT.len ChangeT.zero).trans (ChangeT.len a4).symm))) rfl ?_
 refine TL.nil ?_
 refine TE.blockEnd ?_
 refine TE.next J3 ?_
 clear J3
 refine sr fun _ J20 => ?_
 refine tp (PV.loadN (vs := ints (RecT.mk a1 0 RowT.zero a2 a3 a4 ViewT.zero).flat) rfl Tryz.underlying108 rfl sz108 rfl (Rd.own 1 rfl rfl) (RecT.len (RecT.mk a1 0 RowT.zero a2 a3 a4 ViewT.zero)) (whole (RecT.len (RecT.mk a1 0 RowT.zero a2 a3 a4 ViewT.zero)))) ?_
 refine TL.store (vs := ints (RecT.mk a1 0 RowT.zero a2 a3 a4 ViewT.zero).flat) (i := 2) (H' := [blkA rb [v4] 176, blkA b4 (ints (RecT.mk a1 0 RowT.zero a2 a3 a4 ViewT.zero).flat) 108, blkA b2 (ints (RecT.mk a1 0 RowT.zero a2 a3 a4 ViewT.zero).flat) 108]) (Want.plain rfl) rfl rfl rfl rfl rfl (by rw [(RecT.len (RecT.mk a1 0 RowT.zero a2 a3 a4 ViewT.zero))]; exact sz108) (ints_one _) rfl rfl (by have h0 := (RecT.len RecT.zero); have h1 := (RecT.len (RecT.mk a1 0 RowT.zero a2 a3 a4 ViewT.zero)); omega) (wwhole ((RecT.len RecT.zero).trans (RecT.len (RecT.mk a1 0 RowT.zero a2 a3 a4 ViewT.zero)).symm)) rfl ?_
 refine sg' ?_
 refine nx J20 ?_
 clear J20
 refine TC.ret ?_
 refine TE.retCT (H' := [blkA rb [v4] 176]) rfl rfl rfl Tryz.underlying108 rfl sz108 (Rd.own 2 rfl rfl) (RecT.len (RecT.mk a1 0 RowT.zero a2 a3 a4 ViewT.zero)) (fun _ s => sep_keep [0] rfl s) ?_
 exact ⟨((RecT.mk a1 0 RowT.zero a2 a3 a4 ViewT.zero), true), _, _, rfl, rfl, by simp [readRecP, kRow, kAsk, pr, pb_some hp1, pb_some hp2, pb_some hp3, pb_some hp4, h11, h20, h32, h37, h45, MsgT.zero, RecT.zero, *], (ht1.trans (ht2.trans (ht3.trans ht4)))⟩
 refine sg' ?_
 refine nx J17 ?_
 clear J17
 refine TC.no rfl ?_
 refine sr fun _ J21 => ?_
 refine tp (PV.eql rfl rfl rfl) ?_
 refine TL.dec (fun h56 => ?_) (fun h56 => ?_)
 refine sg' ?_
 refine nx J21 ?_
 clear J21
 refine TC.yes rfl ?_
 refine sr fun _ J22 => ?_
 refine mv ?_
 refine TL.callP (A := [blkA rb [v1] 176]) (B := [blkA b4 (ints (RecT.mk a1 0 RowT.zero 0 BallotT.zero ChangeT.zero ViewT.zero).flat) 108, blkA b2 (ints RecT.zero.flat) 108]) (Want.plain rfl) rfl rfl rfl nm104 rfl (rview_does rb v1 r1 ) (fun _ s => sep_selR [1] rfl s) (fun _ d _ => (hf1).more d) (fun cP HP hP => ?_) (fun vR HR hR => ?_)
 obtain ⟨vP, rfl, rfl, hpP⟩ := hP
 change TE _ _ _ _ _ _ _ [blkA rb [vP] 176, blkA b4 (ints (RecT.mk a1 0 RowT.zero 0 BallotT.zero ChangeT.zero ViewT.zero).flat) 108, blkA b2 (ints RecT.zero.flat) 108]
 refine TE.passPanic ?_
 clear J22
 refine TE.blockPanic ?_
 refine TE.passPanic ?_
 clear J3
 refine TE.weak (Sub.refl _) (fun _ s => sep_keep [0] rfl s) ?_
 refine TE.panicked ?_
 exact ⟨_, rfl, rfl, by simp [readRecP, kRow, kAsk, pb_some hp1, pb_none hpP, h11, h20, h32, h37, h45, h56, *]⟩
 obtain ⟨a2, r2, v2, rfl, rfl, hp2, ht2⟩ := hR
 change TL _ _ _ _ _ _ _ _ _ [blkA rb [v2] 176, blkA b4 (ints (RecT.mk a1 0 RowT.zero 0 BallotT.zero ChangeT.zero ViewT.zero).flat) 108, blkA b2 (ints RecT.zero.flat) 108]
 have hf2 := ht2 _ hf1
 refine tp (PV.fieldAddr (r := 182) rfl Tryz.underlying108 rfl sz52 rfl rfl) ?_
 refine TL.store (vs := ints a2.flat) (i := 1) (H' := [blkA rb [v2] 176, blkA b4 (ints (RecT.mk a1 0 RowT.zero 0 BallotT.zero ChangeT.zero a2).flat) 108, blkA b2 (ints RecT.zero.flat) 108]) (Want.plain rfl) rfl rfl rfl rfl rfl (by rw [(ViewT.len a2)]; exact sz52) (ints_one _) rfl rfl (by have h0 := (RecT.len (RecT.mk a1 0 RowT.zero 0 BallotT.zero ChangeT.zero ViewT.zero)); have h1 := (ViewT.len a2); omega) (RecT.wr_view_ (RecT.mk a1 0 RowT.zero 0 BallotT.zero ChangeT.zero ViewT.zero) 0 rfl (by have h1 := (ViewT.len a2); omega) (wwhole ((ViewT.len ViewT.zero).trans (ViewT.len a2).symm))) rfl ?_
 refine nx J22 ?_
 clear J22
 refine TC.seq fun _ J23 => ?_
 refine TC.draw (fun w => Frm F w ∧ w.heap[b4]? = some (.cells (ints (RecT.mk a1 0 RowT.zero 0 BallotT.zero ChangeT.zero a2).flat).toArray 108 (0, 0)) ∧ True) mixed rfl (fun _ s => ⟨Frm.of s, s.block 1 (lb rfl) rfl, trivial⟩) ?_
 refine ta 0 rfl (PV.loadN (vs := ints (RecT.mk a1 0 RowT.zero 0 BallotT.zero ChangeT.zero a2).flat) rfl Tryz.underlying108 rfl sz108 rfl (fun _ h => h.2.1) (RecT.len (RecT.mk a1 0 RowT.zero 0 BallotT.zero ChangeT.zero a2)) (whole (RecT.len (RecT.mk a1 0 RowT.zero 0 BallotT.zero ChangeT.zero a2)))) ?_
 refine ta 1 rfl (PV.fieldAddr (r := 182) rfl Tryz.underlying108 rfl sz52 rfl rfl) ?_
 refine ta 2 rfl (PV.loadN (vs := ints a2.flat) rfl Tryz.underlying52 rfl sz52 rfl (fun _ h => h.2.1) (ViewT.len a2) (RecT.sub_view (RecT.mk a1 0 RowT.zero 0 BallotT.zero ChangeT.zero a2) 0 rfl (by decide) (whole (ViewT.len a2)))) ?_
 refine TD.all [3] (by kernel_rfl) rfl ?_
 refine AllT.cons rfl ?_ ?_
 refine TL.callR (A := []) (Want.plain rfl) rfl rfl rfl nm105 rfl (viewRight_does a2 (view_rng hp2)) (fun _ s => s) (fun _ _ _ => trivial) (fun vR HR hR => ?_)
 obtain ⟨rfl, rfl⟩ := hR
 change TL _ _ _ _ _ _ _ _ _ [blkA rb [v2] 176, blkA b4 (ints (RecT.mk a1 0 RowT.zero 0 BallotT.zero ChangeT.zero a2).flat) 108, blkA b2 (ints RecT.zero.flat) 108]
 refine TL.nil ?_
 refine TE.draw (fun _ s => ⟨Frm.of s, s.block 1 (lb rfl) rfl, trivial⟩) ?_
 refine TD.all [4] (by kernel_rfl) rfl ?_
 refine AllT.cons rfl ?_ ?_
 refine TL.store (vs := ints (RecT.mk a1 0 RowT.zero 0 BallotT.zero ChangeT.zero a2).flat) (i := 2) (H' := [blkA rb [v2] 176, blkA b4 (ints (RecT.mk a1 0 RowT.zero 0 BallotT.zero ChangeT.zero a2).flat) 108, blkA b2 (ints (RecT.mk a1 0 RowT.zero 0 BallotT.zero ChangeT.zero a2).flat) 108]) (Want.plain rfl) rfl rfl rfl rfl rfl (by rw [(RecT.len (RecT.mk a1 0 RowT.zero 0 BallotT.zero ChangeT.zero a2))]; exact sz108) (ints_one _) rfl rfl (by have h0 := (RecT.len RecT.zero); have h1 := (RecT.len (RecT.mk a1 0 RowT.zero 0 BallotT.zero ChangeT.zero a2)); omega) (wwhole ((RecT.len RecT.zero).trans (RecT.len (RecT.mk a1 0 RowT.zero 0 BallotT.zero ChangeT.zero a2)).symm)) rfl ?_
 refine TL.nil ?_
 refine TE.draw (fun _ s => ⟨Frm.of s, s.block 1 (lb rfl) rfl, trivial⟩) ?_
 refine ta 5 rfl (PV.assign rfl rfl) ?_
 refine TD.done (by kernel_rfl) ?_
 refine TE.next J23 ?_
 clear J23
 refine TC.ret ?_
 refine TE.blockRet ?_
 refine TE.passRet ?_
 clear J3
 refine TE.retCT (H' := [blkA rb [v2] 176]) rfl rfl rfl Tryz.underlying108 rfl sz108 (Rd.own 2 rfl rfl) (RecT.len (RecT.mk a1 0 RowT.zero 0 BallotT.zero ChangeT.zero a2)) (fun _ s => sep_keep [0] rfl s) ?_
 exact ⟨((RecT.mk a1 0 RowT.zero 0 BallotT.zero ChangeT.zero a2), (rightV a2)), _, _, rfl, rfl, by simp [readRecP, kRow, kAsk, pr, pb_some hp1, pb_some hp2, h11, h20, h32, h37, h45, h56, MsgT.zero, RecT.zero, *], (ht1.trans ht2)⟩
 exact AllT.nil
 exact AllT.nil
 refine sg' ?_
 refine nx J21 ?_
 clear J21
 refine TC.no rfl ?_
 refine TC.skip ?_
 refine TE.blockEnd ?_
 refine TE.next J3 ?_
 clear J3
 refine sr fun _ J24 => ?_
 refine tp (PV.loadN (vs := ints (RecT.mk a1 0 RowT.zero 0 BallotT.zero ChangeT.zero ViewT.zero).flat) rfl Tryz.underlying108 rfl sz108 rfl (Rd.own 0 rfl rfl) (RecT.len (RecT.mk a1 0 RowT.zero 0 BallotT.zero ChangeT.zero ViewT.zero)) (whole (RecT.len (RecT.mk a1 0 RowT.zero 0 BallotT.zero ChangeT.zero ViewT.zero)))) ?_
 refine TL.store (vs := ints (RecT.mk a1 0 RowT.zero 0 BallotT.zero ChangeT.zero ViewT.zero).flat) (i := 2) (H' := [blkA b4 (ints (RecT.mk a1 0 RowT.zero 0 BallotT.zero ChangeT.zero ViewT.zero).flat) 108, blkA rb [v1] 176, blkA b2 (ints (RecT.mk a1 0 RowT.zero 0 BallotT.zero ChangeT.zero ViewT.zero).flat) 108]) (Want.plain rfl) rfl rfl rfl rfl rfl (by rw [(RecT.len (RecT.mk a1 0 RowT.zero 0 BallotT.zero ChangeT.zero ViewT.zero))]; exact sz108) (ints_one _) rfl rfl (by have h0 := (RecT.len RecT.zero); have h1 := (RecT.len (RecT.mk a1 0 RowT.zero 0 BallotT.zero ChangeT.zero ViewT.zero)); omega) (wwhole ((RecT.len RecT.zero).trans (RecT.len (RecT.mk a1 0 RowT.zero 0 BallotT.zero ChangeT.zero ViewT.zero)).symm)) rfl ?_
 refine sg' ?_
 refine nx J24 ?_
 clear J24
 refine TC.ret ?_
 refine TE.retCT (H' := [blkA rb [v1] 176]) rfl rfl rfl Tryz.underlying108 rfl sz108 (Rd.own 2 rfl rfl) (RecT.len (RecT.mk a1 0 RowT.zero 0 BallotT.zero ChangeT.zero ViewT.zero)) (fun _ s => sep_keep [1] rfl s) ?_
 exact ⟨((RecT.mk a1 0 RowT.zero 0 BallotT.zero ChangeT.zero ViewT.zero), true), _, _, rfl, rfl, by simp [readRecP, kRow, kAsk, pr, pb_some hp1, h11, h20, h32, h37, h45, h56, MsgT.zero, RecT.zero, *], ht1⟩
theorem rec1_does (rb mb gb : Nat) (v : Value) (bs : List UInt8) (m0 : RecT) (g0 : Bool) :
    Does Tryz.prog 73 #[(.pointer (some ⟨rb, 0, none⟩)), (.pointer (some ⟨mb, 0, none⟩)), (.pointer (some ⟨gb, 0, none⟩))] (IsB v bs) [blkA rb [v] 176, blkA mb (ints m0.flat) 108, blkA gb [(.bool (g0))] 4] (RetP (fun _ H => ∃ x' r a, H = blkA rb [x'] 176 :: [blkA mb (ints a.1.flat) 108, blkA gb [.bool a.2] 4] ∧ Tail v bs x' r ∧ readRecP bs = some (a, r)) (fun c H => c = giveUp ∧ ∃ (x' : Value) (_ : Unit), H = blkA rb [x'] 176 :: [blkA mb (ints m0.flat) 108, blkA gb [.bool g0] 4] ∧ readRecP bs = none)) := by
 refine Does.body (vs := [(.pointer (some ⟨rb, 0, none⟩)), (.pointer (some ⟨mb, 0, none⟩)), (.pointer (some ⟨gb, 0, none⟩))]) (n := 9) Tryz.func73 rfl rfl rfl (fun w0 F hF => ?_)
 refine TC.region ?_
 refine mv ?_
 refine TL.callP (A := [blkA rb [v] 176]) (B := [blkA mb (ints m0.flat) 108, blkA gb [(.bool (g0))] 4]) (Want.plain rfl) rfl rfl rfl nm74 rfl (readRec_does rb v bs) (fun _ s => s) (fun _ d _ => (hF).more d) (fun cP HP hP => ?_) (fun vR HR hR => ?_)
 obtain ⟨vP, rfl, rfl, hpP⟩ := hP
 change TE _ _ _ _ _ _ _ [blkA rb [vP] 176, blkA mb (ints m0.flat) 108, blkA gb [(.bool (g0))] 4]
 refine TE.weak (Sub.refl _) (fun _ s => sep_keep [0, 0, 0] rfl s) ?_
 refine TE.panicked ?_
 exact ⟨rfl, _, (), rfl, hpP⟩
 obtain ⟨a1, r1, v1, rfl, rfl, hp1, ht1⟩ := hR
 change TL _ _ _ _ _ _ _ _ _ [blkA rb [v1] 176, blkA mb (ints m0.flat) 108, blkA gb [(.bool (g0))] 4]
 refine mv ?_
 refine tp (PV.extract (vs := [(.agg (ints a1.1.flat).toArray), (.bool (a1.2))]) rfl rfl rfl) ?_
 refine tp (PV.extract (vs := [(.agg (ints a1.1.flat).toArray), (.bool (a1.2))]) rfl rfl rfl) ?_
 refine TL.store (vs := ints a1.1.flat) (i := 1) (H' := [blkA rb [v1] 176, blkA mb (ints a1.1.flat) 108, blkA gb [(.bool (g0))] 4]) (Want.plain rfl) rfl rfl rfl rfl rfl (by rw [(RecT.len a1.1)]; exact sz108) (ints_one _) rfl rfl (by have h0 := (RecT.len m0); have h1 := (RecT.len a1.1); omega) (wwhole ((RecT.len m0).trans (RecT.len a1.1).symm)) rfl ?_
 refine TL.store1 (i := 2) (H' := [blkA rb [v1] 176, blkA mb (ints a1.1.flat) 108, blkA gb [(.bool (a1.2))] 4]) (Want.plain rfl) rfl rfl rfl rfl rfl sz4 rfl rfl (lb rfl) rfl rfl ?_
 refine TL.nil ?_
 refine TE.weak (Sub.refl _) (fun _ s => sep_keep [0, 0, 0] rfl s) ?_
 refine TE.end0 rfl ?_
 exact ⟨_, _, _, rfl, ht1, hp1⟩
theorem readRecord_does (x : Value) (bs : List UInt8) :
    Does Tryz.prog 36 #[x] (IsB x bs) [] (Ret (fun r' H => r' = .tuple #[.agg (ints (decR bs).1.flat).toArray, .int .i64 (decR bs).2] ∧ H = [])) := by
 refine Does.body (vs := [x]) (n := 18) Tryz.func36 rfl rfl rfl (fun w0 F hF => ?_)
 refine sr fun _ J1 => ?_
 refine TL.alloc (Want.plain rfl) rfl rfl rfl z108 (fun b2 => ?_)
 change TL _ _ _ _ _ _ _ _ _ [blkA b2 (ints RecT.zero.flat) 108]
 refine sg' ?_
 refine nx J1 ?_
 clear J1
 refine sr fun _ J2 => ?_
 refine TL.alloc (Want.plain rfl) rfl rfl rfl z108 (fun b4 => ?_)
 change TL _ _ _ _ _ _ _ _ _ [blkA b4 (ints RecT.zero.flat) 108, blkA b2 (ints RecT.zero.flat) 108]
 refine nx J2 ?_
 clear J2
 refine sr fun _ J3 => ?_
 refine TL.alloc (Want.plain rfl) rfl rfl rfl z4 (fun b5 => ?_)
 change TL _ _ _ _ _ _ _ _ _ [blkA b5 [(.bool false)] 4, blkA b4 (ints RecT.zero.flat) 108, blkA b2 (ints RecT.zero.flat) 108]
 refine TL.store1 (i := 0) (H' := [blkA b5 [(.bool false)] 4, blkA b4 (ints RecT.zero.flat) 108, blkA b2 (ints RecT.zero.flat) 108]) (Want.plain rfl) rfl rfl rfl rfl rfl sz4 rfl rfl (lb rfl) rfl rfl ?_
 refine nx J3 ?_
 clear J3
 refine sr fun _ J4 => ?_
 refine mv ?_
 refine tp (PV.mkFunc rfl rfl) ?_
 refine TL.callR (A := [blkA b4 (ints RecT.zero.flat) 108, blkA b5 [(.bool false)] 4]) (Want.plain rfl) rfl rfl rfl nm72 rfl (read_with (bs := bs) (C := [blkA b4 (ints RecT.zero.flat) 108, blkA b5 [(.bool false)] 4]) (caps := [(.pointer (some ⟨b4, 0, none⟩)), (.pointer (some ⟨b5, 0, none⟩))]) (A := fun a : RecT × Bool => [blkA b4 (ints a.1.flat) 108, blkA b5 [.bool a.2] 4]) (G := fun _ : Unit => [blkA b4 (ints RecT.zero.flat) 108, blkA b5 [(.bool false)] 4]) (φ := fun a r => readRecP bs = some (a, r)) (ψ := fun _ => readRecP bs = none) (fun _ h => h) (fun _ _ h d => h.more d) nm73 (fun rb => rec1_does rb b4 b5 x bs RecT.zero false)) (fun _ s => sep_selR [1, 0] rfl s) (fun _ d _ => (hF).more d) (fun vR HR hR => ?_)
 rcases hR with ⟨r, ⟨m, g⟩, rfl, rfl, hs⟩ | ⟨_, rfl, rfl, hs⟩
 change TL _ _ _ _ _ _ _ _ _ [blkA b4 (ints m.flat) 108, blkA b5 [(.bool (g))] 4, blkA b2 (ints RecT.zero.flat) 108]
 refine TL.dec (fun h9 => ?_) (fun h9 => ?_)
 refine sg' ?_
 refine nx J4 ?_
 clear J4
 refine TC.seq fun _ J5 => ?_
 refine sr fun _ J6 => ?_
 refine mv ?_
 refine tp (PV.not (r := false) rfl rfl rfl) ?_
 refine mv ?_
 refine tq (PV.load1 (v := (.bool (g))) rfl Tryz.underlying4 rfl rfl (Rd.own 1 rfl rfl) rfl) ?_
 refine TL.decB (fun h13 => ?_) (fun h13 => ?_)
 refine tq (PV.not (r := false) rfl rfl rfl) ?_
 refine tp (PV.pick rfl rfl rfl) ?_
 refine nx J6 ?_
 clear J6
 refine TC.no rfl ?_
 refine TC.skip ?_
 refine TE.next J5 ?_
 clear J5
 refine sr fun _ J7 => ?_
 refine tp (PV.loadN (vs := ints m.flat) rfl Tryz.underlying108 rfl sz108 rfl (Rd.own 0 rfl rfl) (RecT.len m) (whole (RecT.len m))) ?_
 refine TL.store (vs := ints m.flat) (i := 2) (H' := [blkA b4 (ints m.flat) 108, blkA b5 [(.bool (g))] 4, blkA b2 (ints m.flat) 108]) (Want.plain rfl) rfl rfl rfl rfl rfl (by rw [(RecT.len m)]; exact sz108) (ints_one _) rfl rfl (by have h0 := (RecT.len RecT.zero); have h1 := (RecT.len m); omega) (wwhole ((RecT.len RecT.zero).trans (RecT.len m).symm)) rfl ?_
 refine sg' ?_
 refine nx J7 ?_
 clear J7
 refine TC.ret ?_
 refine TE.retCT (H' := []) rfl rfl rfl Tryz.underlying108 rfl sz108 (Rd.own 2 rfl rfl) (RecT.len m) (fun _ s => sep_keep [] rfl s) ?_
 exact ⟨by simp [decR, *], rfl⟩
 refine tq (PV.not (r := true) rfl rfl rfl) ?_
 refine tp (PV.pick rfl rfl rfl) ?_
 refine nx J6 ?_
 clear J6
 refine TC.yes rfl ?_
 refine sr fun _ J8 => ?_
 refine tp (PV.build (cells := (ints RecT.zero.flat).toArray) rfl rfl (by as_aux_lemma => kernel_rfl)) ?_
 refine TL.store (vs := ints RecT.zero.flat) (i := 2) (H' := [blkA b4 (ints m.flat) 108, blkA b5 [(.bool (g))] 4, blkA b2 (ints RecT.zero.flat) 108]) (Want.plain rfl) rfl rfl rfl rfl rfl (by rw [(RecT.len RecT.zero)]; exact sz108) (ints_one _) rfl rfl (by have h0 := (RecT.len RecT.zero); have h1 := (RecT.len RecT.zero); omega) (wwhole ((RecT.len RecT.zero).trans (RecT.len RecT.zero).symm)) rfl ?_
 refine sg' ?_
 refine nx J8 ?_
 clear J8
 refine TC.ret ?_
 refine TE.passRet ?_
 clear J5
 refine TE.retCT (H' := []) rfl rfl rfl Tryz.underlying108 rfl sz108 (Rd.own 2 rfl rfl) (RecT.len RecT.zero) (fun _ s => sep_keep [] rfl s) ?_
 exact ⟨by simp [decR, *], rfl⟩
 refine sg' ?_
 refine nx J4 ?_
 clear J4
 refine TC.seq fun _ J9 => ?_
 refine sr fun _ J10 => ?_
 refine mv ?_
 refine tp (PV.not (r := true) rfl rfl rfl) ?_
 refine mv ?_
 refine TL.unmet (b := true) rfl rfl rfl rfl (lb rfl) ?_
 refine TL.unmet (b := true) rfl rfl rfl rfl (lb rfl) ?_
 refine tp (PV.pick rfl rfl rfl) ?_
 refine nx J10 ?_
 clear J10
 refine TC.yes rfl ?_
 refine sr fun _ J11 => ?_
 refine tp (PV.build (cells := (ints RecT.zero.flat).toArray) rfl rfl (by as_aux_lemma => kernel_rfl)) ?_
 refine TL.store (vs := ints RecT.zero.flat) (i := 2) (H' := [blkA b4 (ints m.flat) 108, blkA b5 [(.bool (g))] 4, blkA b2 (ints RecT.zero.flat) 108]) (Want.plain rfl) rfl rfl rfl rfl rfl (by rw [(RecT.len RecT.zero)]; exact sz108) (ints_one _) rfl rfl (by have h0 := (RecT.len RecT.zero); have h1 := (RecT.len RecT.zero); omega) (wwhole ((RecT.len RecT.zero).trans (RecT.len RecT.zero).symm)) rfl ?_
 refine sg' ?_
 refine nx J11 ?_
 clear J11
 refine TC.ret ?_
 refine TE.passRet ?_
 clear J9
 refine TE.retCT (H' := []) rfl rfl rfl Tryz.underlying108 rfl sz108 (Rd.own 2 rfl rfl) (RecT.len RecT.zero) (fun _ s => sep_keep [] rfl s) ?_
 exact ⟨by simp [decR, *], rfl⟩
 change TL _ _ _ _ _ _ _ _ _ [blkA b4 (ints RecT.zero.flat) 108, blkA b5 [(.bool false)] 4, blkA b2 (ints RecT.zero.flat) 108]
 refine sg' ?_
 refine nx J4 ?_
 clear J4
 refine TC.seq fun _ J12 => ?_
 refine sr fun _ J13 => ?_
 refine mv ?_
 refine tp (PV.not (r := true) rfl rfl rfl) ?_
 refine mv ?_
 refine TL.unmet (b := true) rfl rfl rfl rfl (lb rfl) ?_
 refine TL.unmet (b := true) rfl rfl rfl rfl (lb rfl) ?_
 refine tp (PV.pick rfl rfl rfl) ?_
 refine nx J13 ?_
 clear J13
 refine TC.yes rfl ?_
 refine sr fun _ J14 => ?_
 refine tp (PV.build (cells := (ints RecT.zero.flat).toArray) rfl rfl (by as_aux_lemma => kernel_rfl)) ?_
 refine TL.store (vs := ints RecT.zero.flat) (i := 2) (H' := [blkA b4 (ints RecT.zero.flat) 108, blkA b5 [(.bool false)] 4, blkA b2 (ints RecT.zero.flat) 108]) (Want.plain rfl) rfl rfl rfl rfl rfl (by rw [(RecT.len RecT.zero)]; exact sz108) (ints_one _) rfl rfl (by have h0 := (RecT.len RecT.zero); have h1 := (RecT.len RecT.zero); omega) (wwhole ((RecT.len RecT.zero).trans (RecT.len RecT.zero).symm)) rfl ?_
 refine sg' ?_
 refine nx J14 ?_
 clear J14
 refine TC.ret ?_
 refine TE.passRet ?_
 clear J12
 refine TE.retCT (H' := []) rfl rfl rfl Tryz.underlying108 rfl sz108 (Rd.own 2 rfl rfl) (RecT.len RecT.zero) (fun _ s => sep_keep [] rfl s) ?_
 exact ⟨by simp [decR, *], rfl⟩
end Go.Proofs.YtfceaphohlbnbaaGreat
end

section
namespace Go.Proofs.YtfceaphohlbnbaaGreat

open Go Leg Codec Api Dsk Wal

set_option linter.unusedSimpArgs false
set_option linter.unusedVariables false

set_option maxRecDepth 100000

set_option maxHeartbeats 8000000

theorem restore_does (r : Nat) (x : RepT) (m : RecT) (hk : m.kind ≠ 3 ∧ m.kind ≠ 4) (hw : WF m.row.flat) :
    Does Tryz.prog 37 #[(.pointer (some ⟨r, 0, none⟩)), (.agg (ints m.flat).toArray)] (fun _ => True) [blkA r (RepT.cells x) 104] (Ret (fun _ H => H = [blkA r (RepT.cells (restF x m)) 104])) := by
 refine Does.body (vs := [(.pointer (some ⟨r, 0, none⟩)), (.agg (ints m.flat).toArray)]) (n := 93) Tryz.func37 rfl rfl rfl (fun w0 F hF => ?_)
 refine sr fun _ J1 => ?_
 refine TL.box (Want.plain rfl) rfl rfl rfl rfl (fun b3 => ?_)
 change TL _ _ _ _ _ _ _ _ _ [blkA b3 (ints m.flat) 108, blkA r (RepT.cells x) 104]
 refine nx J1 ?_
 refine sr fun _ J2 => ?_
 refine tp (PV.fieldAddr (r := 0) rfl Tryz.underlying108 rfl sz3 rfl rfl) ?_
 refine tp (PV.load1 (v := (.int .i64 (m.kind))) rfl Tryz.underlying3 rfl rfl (Rd.own 0 rfl rfl) (RecT.at_kind m rfl)) ?_
 refine nx J2 ?_
 refine TC.block ?_
 refine sr fun _ J3 => ?_
 refine tp (PV.eql rfl rfl rfl) ?_
 refine TL.dec (fun h7 => ?_) (fun h7 => ?_)
 refine sg' ?_
 refine nx J3 ?_
 refine TC.yes rfl ?_
 refine TC.region ?_
 refine mv ?_
 refine mv ?_
 refine mv ?_
 refine tp (PV.fieldAddr (r := 2) rfl Tryz.underlying108 rfl sz48 rfl rfl) ?_
 refine tp (PV.loadN (vs := ints m.row.flat) rfl Tryz.underlying48 rfl sz48 rfl (Rd.own 0 rfl rfl) (RowT.len m.row) (RecT.sub_row m 0 rfl (by decide) (whole (RowT.len m.row)))) ?_
 refine tp (PV.nilCheck rfl rfl) ?_
 refine tp (PV.fieldAddr (r := 9) rfl Tryz.underlying104 rfl sz48 rfl rfl) ?_
 refine TL.store (vs := ints m.row.flat) (i := 1) (H' := [blkA b3 (ints m.flat) 108, blkA r (RepT.cells (RepT.mk x.id x.log x.view m.row x.mirror x.acc x.round x.vote x.book x.busy x.kept x.waits x.ops x.replies x.told x.last)) 104]) (Want.plain rfl) rfl rfl rfl rfl rfl (by rw [(RowT.len m.row)]; exact sz48) (ints_one _) rfl rfl (by have h0 := (RepT.len x); have h1 := (RowT.len m.row); omega) (RepT.wr_own_ x 0 rfl (by have h1 := (RowT.len m.row); omega) (wwhole ((RowT.len x.own).trans (RowT.len m.row).symm))) rfl ?_
 refine tp (PV.nilCheck rfl rfl) ?_
 refine tp (PV.fieldAddr (r := 1938) rfl Tryz.underlying104 rfl sz4 rfl rfl) ?_
 refine TL.store1 (i := 1) (H' := [blkA b3 (ints m.flat) 108, blkA r (RepT.cells (RepT.mk x.id x.log x.view m.row x.mirror x.acc x.round x.vote x.book true x.kept x.waits x.ops x.replies x.told x.last)) 104]) (Want.plain rfl) rfl rfl rfl rfl rfl sz4 rfl rfl (by have h0 := (RepT.len (RepT.mk x.id x.log x.view m.row x.mirror x.acc x.round x.vote x.book x.busy x.kept x.waits x.ops x.replies x.told x.last)); omega) (RepT.set_busy (RepT.mk x.id x.log x.view m.row x.mirror x.acc x.round x.vote x.book x.busy x.kept x.waits x.ops x.replies x.told x.last) rfl _) rfl ?_
 refine tp (PV.nilCheck rfl rfl) ?_
 refine tp (PV.fieldAddr (r := 1939) rfl Tryz.underlying104 rfl sz3 rfl rfl) ?_
 refine TL.store1 (i := 1) (H' := [blkA b3 (ints m.flat) 108, blkA r (RepT.cells (RepT.mk x.id x.log x.view m.row x.mirror x.acc x.round x.vote x.book true 0 x.waits x.ops x.replies x.told x.last)) 104]) (Want.plain rfl) rfl rfl rfl rfl rfl sz3 rfl rfl (by have h0 := (RepT.len (RepT.mk x.id x.log x.view m.row x.mirror x.acc x.round x.vote x.book true x.kept x.waits x.ops x.replies x.told x.last)); omega) (RepT.set_kept (RepT.mk x.id x.log x.view m.row x.mirror x.acc x.round x.vote x.book true x.kept x.waits x.ops x.replies x.told x.last) rfl _) rfl ?_
 refine TL.nil ?_
 refine TE.blockEnd ?_
 refine TE.weak (Sub.refl _) (fun _ s => sep_keep [1] rfl s) ?_
 refine TE.end0 rfl ?_
 exact by rw [restF, if_pos h7]; rfl
 refine sg' ?_
 refine nx J3 ?_
 refine TC.no rfl ?_
 refine sr fun _ J4 => ?_
 refine tp (PV.eql rfl rfl rfl) ?_
 refine TL.dec (fun h20 => ?_) (fun h20 => ?_)
 refine sg' ?_
 refine nx J4 ?_
 refine TC.yes rfl ?_
 refine TC.draw (fun w => Frm F w ∧ w.heap[b3]? = some (.cells (ints m.flat).toArray 108 (0, 0)) ∧ True) mixed rfl (fun _ s => ⟨Frm.of s, s.block 0 (lb rfl) rfl, trivial⟩) ?_
 refine ta 0 rfl (PV.move rfl rfl) ?_
 refine ta 1 rfl (PV.nilCheck rfl rfl) ?_
 refine ta 2 rfl (PV.fieldAddr (r := 183) rfl Tryz.underlying104 rfl sz77 rfl rfl) ?_
 refine ta 3 rfl (PV.fieldAddr (r := 1) rfl Tryz.underlying108 rfl sz3 rfl rfl) ?_
 refine ta 4 rfl (PV.load1 (v := (.int .i64 (m.whose))) rfl Tryz.underlying3 rfl rfl (fun _ h => h.2.1) (RecT.at_whose m rfl)) ?_
 refine ta 5 rfl (PV.fieldAddr (r := 2) rfl Tryz.underlying108 rfl sz48 rfl rfl) ?_
 refine ta 6 rfl (PV.loadN (vs := ints m.row.flat) rfl Tryz.underlying48 rfl sz48 rfl (fun _ h => h.2.1) (RowT.len m.row) (RecT.sub_row m 0 rfl (by decide) (whole (RowT.len m.row)))) ?_
 refine TD.all [7] (by kernel_rfl) rfl ?_
 refine AllT.cons rfl ?_ ?_
 refine TL.callR (A := [blkA r (RepT.cells x) 104]) (Want.plain rfl) rfl rfl rfl nm28 rfl (mirKeep_does r 183 104 (fun u => RepT.cells { x with mirror := u }) (RepT.arnd_mirror x) x.mirror m.whose m.row hw) (fun _ s => sep_selR [1] rfl s) (fun _ _ _ => trivial) (fun vR HR hR => ?_)
 obtain ⟨rfl, rfl⟩ := hR
 change TL _ _ _ _ _ _ _ _ _ [blkA r (RepT.cells (RepT.mk x.id x.log x.view x.own ((mirKeep x.mirror m.whose m.row).1) x.acc x.round x.vote x.book x.busy x.kept x.waits x.ops x.replies x.told x.last)) 104, blkA b3 (ints m.flat) 108]
 refine TL.nil ?_
 refine TE.draw (fun _ s => ⟨Frm.of s, s.block 1 (lb rfl) rfl, trivial⟩) ?_
 refine TD.done (by kernel_rfl) ?_
 refine TE.blockEnd ?_
 refine TE.weak (Sub.refl _) (fun _ s => sep_keep [0] rfl s) ?_
 refine TE.end0 rfl ?_
 exact by rw [restF, if_neg h7, if_pos h20]; rfl
 exact AllT.nil
 refine sg' ?_
 refine nx J4 ?_
 refine TC.no rfl ?_
 refine sr fun _ J5 => ?_
 refine tp (PV.eql rfl rfl rfl) ?_
 refine TL.dec (fun h30 => ?_) (fun h30 => ?_)
 refine sg' ?_
 refine nx J5 ?_
 refine TC.yes rfl ?_
 refine TC.draw (fun w => Frm F w ∧ w.heap[b3]? = some (.cells (ints m.flat).toArray 108 (0, 0)) ∧ True) mixed rfl (fun _ s => ⟨Frm.of s, s.block 0 (lb rfl) rfl, trivial⟩) ?_
 refine ta 0 rfl (PV.move rfl rfl) ?_
 refine ta 1 rfl (PV.nilCheck rfl rfl) ?_
 refine ta 2 rfl (PV.fieldAddr (r := 183) rfl Tryz.underlying104 rfl sz77 rfl rfl) ?_
 refine ta 3 rfl (PV.fieldAddr (r := 1) rfl Tryz.underlying108 rfl sz3 rfl rfl) ?_
 refine ta 4 rfl (PV.load1 (v := (.int .i64 (m.whose))) rfl Tryz.underlying3 rfl rfl (fun _ h => h.2.1) (RecT.at_whose m rfl)) ?_
 refine TD.all [5] (by kernel_rfl) rfl ?_
 refine AllT.cons rfl ?_ ?_
 refine TL.callR (A := [blkA r (RepT.cells x) 104]) (Want.plain rfl) rfl rfl rfl nm25 rfl (mirSeal_does r 183 104 (fun u => RepT.cells { x with mirror := u }) (RepT.arnd_mirror x) x.mirror m.whose) (fun _ s => sep_selR [1] rfl s) (fun _ _ _ => trivial) (fun vR HR hR => ?_)
 obtain ⟨rfl, rfl⟩ := hR
 change TL _ _ _ _ _ _ _ _ _ [blkA r (RepT.cells (RepT.mk x.id x.log x.view x.own (mirClose x.mirror m.whose) x.acc x.round x.vote x.book x.busy x.kept x.waits x.ops x.replies x.told x.last)) 104, blkA b3 (ints m.flat) 108]
 refine TL.nil ?_
 refine TE.draw (fun _ s => ⟨Frm.of s, s.block 1 (lb rfl) rfl, trivial⟩) ?_
 refine TD.done (by kernel_rfl) ?_
 refine TE.blockEnd ?_
 refine TE.weak (Sub.refl _) (fun _ s => sep_keep [0] rfl s) ?_
 refine TE.end0 rfl ?_
 exact by rw [restF, if_neg h7, if_neg h20, if_pos h30]; rfl
 exact AllT.nil
 refine sg' ?_
 refine nx J5 ?_
 refine TC.no rfl ?_
 refine sr fun _ J6 => ?_
 refine tp (PV.eql rfl rfl rfl) ?_
 refine TL.dec (fun h38 => ?_) (fun h38 => ?_)
 · exact absurd h38 hk.1
 refine sg' ?_
 refine nx J6 ?_
 refine TC.no rfl ?_
 refine sr fun _ J7 => ?_
 refine tp (PV.eql rfl rfl rfl) ?_
 refine TL.dec (fun h57 => ?_) (fun h57 => ?_)
 · exact absurd h57 hk.2
 refine sg' ?_
 refine nx J7 ?_
 refine TC.no rfl ?_
 refine sr fun _ J8 => ?_
 refine tp (PV.eql rfl rfl rfl) ?_
 refine TL.dec (fun h88 => ?_) (fun h88 => ?_)
 refine sg' ?_
 refine nx J8 ?_
 refine TC.yes rfl ?_
 refine TC.region ?_
 refine mv ?_
 refine tp (PV.fieldAddr (r := 182) rfl Tryz.underlying108 rfl sz52 rfl rfl) ?_
 refine tp (PV.loadN (vs := ints m.view.flat) rfl Tryz.underlying52 rfl sz52 rfl (Rd.own 0 rfl rfl) (ViewT.len m.view) (RecT.sub_view m 0 rfl (by decide) (whole (ViewT.len m.view)))) ?_
 refine TL.callR (A := [blkA r (RepT.cells x) 104]) (Want.plain rfl) rfl rfl rfl nm35 rfl (enter_does r x m.view) (fun _ s => sep_selR [1] rfl s) (fun _ _ _ => trivial) (fun vR HR hR => ?_)
 obtain rfl := hR
 change TL _ _ _ _ _ _ _ _ _ [blkA r (RepT.cells (enterF x m.view)) 104, blkA b3 (ints m.flat) 108]
 refine TL.nil ?_
 refine TE.blockEnd ?_
 refine TE.weak (Sub.refl _) (fun _ s => sep_keep [0] rfl s) ?_
 refine TE.end0 rfl ?_
 exact by rw [restF, if_neg h7, if_neg h20, if_neg h30, if_pos h88]; rfl
 refine sg' ?_
 refine nx J8 ?_
 refine TC.no rfl ?_
 refine TC.skip ?_
 refine TE.blockEnd ?_
 refine TE.weak (Sub.refl _) (fun _ s => sep_keep [1] rfl s) ?_
 refine TE.end0 rfl ?_
 exact by rw [restF, if_neg h7, if_neg h20, if_neg h30, if_neg h88]; rfl
theorem startR_does (i : Int) (d : Nat) (rs : List RecT) (hok : ∀ m ∈ rs, RcOk m) :
    Does Tryz.prog 10 #[(.int .i64 (i)), (.pointer (some ⟨d, 0, none⟩))] (fun _ => True) [dkL d ((rs.map encR))] (Ret (fun r' H => ∃ r lg, r' = .tuple #[.pointer (some ⟨r, 0, none⟩), .int .i64 0] ∧ H = [blkA r (RepT.cells (rs.foldl restF (newRep i lg))) 104, lgL lg d (rs.map encR), dkL d (rs.map encR)])) := by
 refine Does.body (vs := [(.int .i64 (i)), (.pointer (some ⟨d, 0, none⟩))]) (n := 50) Tryz.func10 rfl rfl rfl (fun w0 F hF => ?_)
 refine sr fun _ J1 => ?_
 refine sg' ?_
 refine sg' ?_
 refine nx J1 ?_
 refine TC.seq fun _ J2 => ?_
 refine sr fun _ J3 => ?_
 refine mv ?_
 refine tp (PV.ptrNil rfl Tryz.underlying28 rfl rfl) ?_
 refine nx J3 ?_
 refine TC.no rfl ?_
 refine TC.skip ?_
 refine TE.next J2 ?_
 refine sr fun _ J4 => ?_
 refine mv ?_
 refine TL.callR (A := [dkL d ((rs.map encR))]) (Want.plain rfl) rfl rfl rfl nm34 rfl (openL_does d (rs.map encR)) (fun _ s => s) (fun _ _ _ => trivial) (fun vR HR hR => ?_)
 obtain ⟨lg, vr, rfl, rfl⟩ := hR
 change TL _ _ _ _ _ _ _ _ _ [lgP lg d ((((rs.map encR)).length : Nat) : Int) ((sizeS ((rs.map encR)) : Nat) : Int), rcP vr (rs.map encR), dkL d ((rs.map encR))]
 refine TL.fact (p := SlLen vr (rs.map encR).length ∧ vr.oneCell' = true) (fun w m => by obtain ⟨h, _, _, hs⟩ := m; obtain ⟨_, _, _, _, a, _⟩ := sep_get 1 (lb rfl) hs; exact sep_recsLen a) (fun ⟨hsl, hvr⟩ => ?_)
 rw [List.length_map] at hsl
 refine mv ?_
 refine tp (PV.extract (vs := [(.pointer (some ⟨lg, 0, none⟩)), vr, (.int .i64 0)]) rfl rfl rfl) ?_
 refine tp (PV.extract (vs := [(.pointer (some ⟨lg, 0, none⟩)), vr, (.int .i64 0)]) rfl rfl rfl) ?_
 refine tp (PV.extract (vs := [(.pointer (some ⟨lg, 0, none⟩)), vr, (.int .i64 0)]) rfl rfl rfl) ?_
 refine sg' ?_
 refine sg' ?_
 refine sg' ?_
 refine nx J4 ?_
 refine TC.seq fun _ J5 => ?_
 refine sr fun _ J6 => ?_
 refine mv ?_
 refine tp (PV.neq rfl rfl rfl) ?_
 refine nx J6 ?_
 refine TC.no rfl ?_
 refine TC.skip ?_
 refine TE.next J5 ?_
 refine sr fun _ J7 => ?_
 refine mv ?_
 refine mv ?_
 refine tp (PV.buildSegs (cs := RepT.cells (RepT.mk i (.pointer (some ⟨lg, 0, none⟩)) ViewT.zero RowT.zero MirT.zero AccT.zero 0 (.pointer none) BookT.zero false 0 0 0 (.slice none 0 0) (#v[0, 0, 0, 0, 0]) (#v[RowT.zero, RowT.zero, RowT.zero, RowT.zero, RowT.zero]))) (segs := [[Value.int .i64 0], [(.pointer none)], ints ViewT.zero.flat, ints RowT.zero.flat, MirT.cells MirT.zero, ints AccT.zero.flat, [Value.int .i64 0], [(.pointer none)], ints BookT.zero.flat, [Value.bool false], [Value.int .i64 0], [Value.int .i64 0], [Value.int .i64 0], [(.slice none 0 0)], ints (#v[0, 0, 0, 0, 0]).toList, ints ((#v[RowT.zero, RowT.zero, RowT.zero, RowT.zero, RowT.zero]).toList.flatMap RowT.flat)]) (res := [[Value.int .i64 i], [(.pointer (some ⟨lg, 0, none⟩))], ints ViewT.zero.flat, ints RowT.zero.flat, MirT.cells MirT.zero, ints AccT.zero.flat, [Value.int .i64 0], [(.pointer none)], ints BookT.zero.flat, [Value.bool false], [Value.int .i64 0], [Value.int .i64 0], [Value.int .i64 0], [(.slice none 0 0)], ints (#v[0, 0, 0, 0, 0]).toList, ints ((#v[RowT.zero, RowT.zero, RowT.zero, RowT.zero, RowT.zero]).toList.flatMap RowT.flat)]) (parts := [(0, [Value.int .i64 i]), (1, [(.pointer (some ⟨lg, 0, none⟩))])]) rfl rfl Tryz.underlying104 (by kernel_rfl) (by kernel_rfl) rfl (putSegs_step rfl ((rfl : [Value.int .i64 i].length = 1).trans (rfl : [Value.int .i64 0].length = 1).symm) (putSegs_step rfl ((rfl : [(.pointer (some ⟨lg, 0, none⟩))].length = 1).trans (rfl : [(.pointer none)].length = 1).symm) putSegs_nil)) (RepT.eq (RepT.mk i (.pointer (some ⟨lg, 0, none⟩)) ViewT.zero RowT.zero MirT.zero AccT.zero 0 (.pointer none) BookT.zero false 0 0 0 (.slice none 0 0) (#v[0, 0, 0, 0, 0]) (#v[RowT.zero, RowT.zero, RowT.zero, RowT.zero, RowT.zero]))).symm) ?_
 refine TL.box (Want.plain rfl) rfl rfl rfl rfl (fun b28 => ?_)
 change TL _ _ _ _ _ _ _ _ _ [blkA b28 (RepT.cells (RepT.mk i (.pointer (some ⟨lg, 0, none⟩)) ViewT.zero RowT.zero MirT.zero AccT.zero 0 (.pointer none) BookT.zero false 0 0 0 (.slice none 0 0) (#v[0, 0, 0, 0, 0]) (#v[RowT.zero, RowT.zero, RowT.zero, RowT.zero, RowT.zero]))) 104, lgP lg d ((((rs.map encR)).length : Nat) : Int) ((sizeS ((rs.map encR)) : Nat) : Int), rcP vr (rs.map encR), dkL d ((rs.map encR))]
 refine sg' ?_
 refine nx J7 ?_
 refine sr fun _ J8 => ?_
 refine mv ?_
 refine TL.callR (A := []) (Want.plain rfl) rfl rfl rfl nm24 rfl (first_does ) (fun _ s => s) (fun _ _ _ => trivial) (fun vR HR hR => ?_)
 obtain ⟨rfl, rfl⟩ := hR
 change TL _ _ _ _ _ _ _ _ _ [blkA b28 (RepT.cells (RepT.mk i (.pointer (some ⟨lg, 0, none⟩)) ViewT.zero RowT.zero MirT.zero AccT.zero 0 (.pointer none) BookT.zero false 0 0 0 (.slice none 0 0) (#v[0, 0, 0, 0, 0]) (#v[RowT.zero, RowT.zero, RowT.zero, RowT.zero, RowT.zero]))) 104, lgP lg d ((((rs.map encR)).length : Nat) : Int) ((sizeS ((rs.map encR)) : Nat) : Int), rcP vr (rs.map encR), dkL d ((rs.map encR))]
 refine TL.callR (A := [blkA b28 (RepT.cells (RepT.mk i (.pointer (some ⟨lg, 0, none⟩)) ViewT.zero RowT.zero MirT.zero AccT.zero 0 (.pointer none) BookT.zero false 0 0 0 (.slice none 0 0) (#v[0, 0, 0, 0, 0]) (#v[RowT.zero, RowT.zero, RowT.zero, RowT.zero, RowT.zero]))) 104]) (Want.plain rfl) rfl rfl rfl nm35 rfl (enter_does b28 (RepT.mk i (.pointer (some ⟨lg, 0, none⟩)) ViewT.zero RowT.zero MirT.zero AccT.zero 0 (.pointer none) BookT.zero false 0 0 0 (.slice none 0 0) (#v[0, 0, 0, 0, 0]) (#v[RowT.zero, RowT.zero, RowT.zero, RowT.zero, RowT.zero])) firstV) (fun _ s => s) (fun _ _ _ => trivial) (fun vR HR hR => ?_)
 obtain rfl := hR
 change TL _ _ _ _ _ _ _ _ _ [blkA b28 (RepT.cells (restL (newRep i lg) rs 0)) 104, lgP lg d ((((rs.map encR)).length : Nat) : Int) ((sizeS ((rs.map encR)) : Nat) : Int), rcP vr (rs.map encR), dkL d ((rs.map encR))]
 refine nx J8 ?_
 refine TC.seq fun _ J9 => ?_
 refine sr fun _ J10 => ?_
 refine mv ?_
 refine tp (PV.lenV rfl Tryz.underlying97 rfl hsl) ?_
 refine mv ?_
 refine nx J10 ?_
 refine TC.block ?_
 refine TC.loop (α := (Nat)) (fun k => k ≤ rs.length) (fun k => [(9, (.pointer (some ⟨b28, 0, none⟩))), (32, vr), (33, (.int .i64 (((rs.length : Nat) : Int)))), (34, (.int .i64 (((k : Nat) : Int))))]) (fun k => [blkA b28 (RepT.cells (restL (newRep i lg) rs k)) 104, lgP lg d ((((rs.map encR)).length : Nat) : Int) ((sizeS ((rs.map encR)) : Nat) : Int), rcP vr (rs.map encR), dkL d ((rs.map encR))]) (fun k => rs.length - k) 0
     (Nat.zero_le _) (Sub.r (Sub.r (Sub.r (Sub.cons rfl (by congr 1) (Sub.nil _)))))
     (fun _ s => sep_keep [0, 0, 0, 0] rfl s) (fun k hinv => ?_)
 obtain hk := hinv
 refine sr fun _ J11 => ?_
 refine tp (PV.lss rfl rfl rfl) ?_
 refine TL.dec (fun h35 => ?_) (fun h35 => ?_)
 refine TL.mono (fun _ s => sep_selR [2] rfl s) ?_
 refine TL.recsOpen (fun us => ?_)
 change TL _ _ _ _ _ _ _ _ _ [own vr ((rs.map encR).length) (us) 106 1, bunch us (rs.map encR) 5, blkA b28 (RepT.cells (restL (newRep i lg) rs k)) 104, lgP lg d ((((rs.map encR)).length : Nat) : Int) ((sizeS ((rs.map encR)) : Nat) : Int), dkL d ((rs.map encR))]
 refine TL.fact (p := us.length = (rs.map encR).length * 1) (fun w m => m.own_len (i := 0) (lb rfl) rfl) (fun hul => ?_)
 rw [List.length_map, Nat.mul_one] at hul
 have hkl : k < (rs.map encR).length := by rw [List.length_map]; omega
 have hkr : k < rs.length := by omega
 have hsk : (rs.map encR)[k] = encR rs[k] := List.getElem_map _
 have hrk := hok rs[k] (List.getElem_mem hkr)
 refine TL.ownAt 0 rfl rfl (by rw [List.length_map]; omega) (fun g cap hv hcap => ?_)
 rw [List.length_map] at hv hcap
 have hvq : vr = .slice (some ⟨g, 0, none⟩) (rs.map encR).length cap := by rw [List.length_map]; exact hv
 refine nx J11 ?_
 refine TC.seq fun _ J12 => ?_
 refine TC.yes rfl ?_
 refine TC.skip ?_
 refine TE.next J12 ?_
 refine TC.seq fun _ J13 => ?_
 refine TC.block ?_
 refine sr fun _ J14 => ?_
 refine tp (PV.indexSlV (r := k) hv rfl Tryz.underlying97 sz106 rfl rfl (by omega) (by omega) (by omega)) ?_
 refine tp (PV.load1X (v := (us.getD k undef)) rfl Tryz.underlying106 rfl rfl (RdX.own 0 rfl hvq rfl) (by simp [List.getD_eq_getElem?_getD, show k < us.length by omega])) ?_
 refine sg' ?_
 refine nx J14 ?_
 refine sr fun _ J15 => ?_
 refine mv ?_
 refine TL.callR (A := []) (Want.plain rfl) rfl rfl rfl nm36 rfl (readRecord_does (us.getD k undef) (encR rs[k])) (fun _ s => s) (fun g d s => hsk ▸ isB_bunch 1 hkl rfl rfl g d s) (fun vR HR hR => ?_)
 obtain ⟨hv1, rfl⟩ := hR
 rw [hrk.dec] at hv1
 subst hv1
 change TL _ _ _ _ _ _ _ _ _ [own vr ((rs.map encR).length) (us) 106 1, bunch us (rs.map encR) 5, blkA b28 (RepT.cells (restL (newRep i lg) rs k)) 104, lgP lg d ((((rs.map encR)).length : Nat) : Int) ((sizeS ((rs.map encR)) : Nat) : Int), dkL d ((rs.map encR))]
 refine mv ?_
 refine tp (PV.extract (vs := [(.agg (ints (rs[k]).flat).toArray), (.int .i64 0)]) rfl rfl rfl) ?_
 refine tp (PV.extract (vs := [(.agg (ints (rs[k]).flat).toArray), (.int .i64 0)]) rfl rfl rfl) ?_
 refine TL.alloc (Want.plain rfl) rfl rfl rfl z108 (fun b12 => ?_)
 change TL _ _ _ _ _ _ _ _ _ [blkA b12 (ints RecT.zero.flat) 108, own vr ((rs.map encR).length) (us) 106 1, bunch us (rs.map encR) 5, blkA b28 (RepT.cells (restL (newRep i lg) rs k)) 104, lgP lg d ((((rs.map encR)).length : Nat) : Int) ((sizeS ((rs.map encR)) : Nat) : Int), dkL d ((rs.map encR))]
 refine TL.store (vs := ints (rs[k]).flat) (i := 0) (H' := [blkA b12 (ints (rs[k]).flat) 108, own vr ((rs.map encR).length) (us) 106 1, bunch us (rs.map encR) 5, blkA b28 (RepT.cells (restL (newRep i lg) rs k)) 104, lgP lg d ((((rs.map encR)).length : Nat) : Int) ((sizeS ((rs.map encR)) : Nat) : Int), dkL d ((rs.map encR))]) (Want.plain rfl) rfl rfl rfl rfl rfl (by rw [(RecT.len (rs[k]))]; exact sz108) (ints_one _) rfl rfl (by have h0 := (RecT.len RecT.zero); have h1 := (RecT.len (rs[k])); omega) (wwhole ((RecT.len RecT.zero).trans (RecT.len (rs[k])).symm)) rfl ?_
 refine sg' ?_
 refine nx J15 ?_
 refine TC.seq fun _ J16 => ?_
 refine sr fun _ J17 => ?_
 refine mv ?_
 refine tp (PV.neq rfl rfl rfl) ?_
 refine nx J17 ?_
 refine TC.no rfl ?_
 refine TC.skip ?_
 refine TE.next J16 ?_
 refine TC.region ?_
 refine mv ?_
 refine tp (PV.loadN (vs := ints (rs[k]).flat) rfl Tryz.underlying108 rfl sz108 rfl (Rd.own 0 rfl rfl) (RecT.len (rs[k])) (whole (RecT.len (rs[k])))) ?_
 refine TL.callR (A := [blkA b28 (RepT.cells (restL (newRep i lg) rs k)) 104]) (Want.plain rfl) rfl rfl rfl nm37 rfl (restore_does b28 (restL (newRep i lg) rs k) rs[k] hrk.kind hrk.wf) (fun _ s => sep_selR [3] rfl s) (fun _ _ _ => trivial) (fun vR HR hR => ?_)
 obtain rfl := hR
 change TL _ _ _ _ _ _ _ _ _ [blkA b28 (RepT.cells (restF (restL (newRep i lg) rs k) rs[k])) 104, blkA b12 (ints (rs[k]).flat) 108, own vr ((rs.map encR).length) (us) 106 1, bunch us (rs.map encR) 5, lgP lg d ((((rs.map encR)).length : Nat) : Int) ((sizeS ((rs.map encR)) : Nat) : Int), dkL d ((rs.map encR))]
 refine TL.nil ?_
 refine TE.blockEnd ?_
 refine TE.next J13 ?_
 refine TC.region ?_
 refine tp (PV.add rfl rfl rfl (wrap_i64 (by omega) (by omega))) ?_
 refine mv ?_
 refine TL.nil ?_
 exact TE.round ((k + 1) : (Nat)) (by omega) (by show rs.length - (k + 1) < rs.length - k; omega)
   (Sub.r (Sub.r (Sub.r (Sub.cons rfl (by simp) (Sub.nil _)))))
   (fun _ s => by rw [restL_succ _ _ hkr]; exact sep_selR [1, 1, 0, 0] rfl (sep_close (p := fun us : List Value => [own vr (rs.map encR).length us 106 1, bunch us (rs.map encR) 5]) us (sep_keep [2, 2, 0, 1, 1] rfl s)))
 refine nx J11 ?_
 refine TC.seq fun _ J18 => ?_
 refine TC.no rfl ?_
 refine TC.exit ?_
 refine TE.pass ?_
 refine TE.pass ?_
 refine TE.hit ?_
 refine TE.next J9 ?_
 refine sr fun _ J19 => ?_
 refine mv ?_
 refine sg' ?_
 refine sg' ?_
 refine nx J19 ?_
 refine TC.ret ?_
 refine TE.weak (Sub.refl _) (fun _ s => sep_keep [0, 0, 1] rfl s) ?_
 refine TE.ret2 rfl rfl rfl ?_
 exact ⟨b28, lg, rfl, by rw [restL_all _ _ (by omega)]; rfl⟩
theorem crashL_does (d : Nat) (mask torn n : Int) (recs : List (List UInt8)) : Does Tryz.prog 31 #[.pointer (some ⟨d, 0, none⟩), .int .i64 mask, .int .i64 torn, .int .i64 n] (fun _ => True) [dkL d recs] (Ret (fun _ H => H = [dkL d recs])) := by
  refine Does.ex (A' := fun D : { D : DS // LogD D recs ∧ D.dn = false ∧ D.ar = false } => [dk d D.1]) (fun h s => sep_open s) fun ⟨D, hD, hd, ha⟩ => ?_
  obtain ⟨h1, h2, h3⟩ := hD.crash mask torn n
  refine Does.fold (dk_crash d D mask torn n hD.ok) fun e H hp => ?_
  cases e with
  | returned v =>
    obtain ⟨_, rfl⟩ := hp
    exact ⟨_, fun g s => sep_close (p := fun D : { D : DS // LogD D recs ∧ D.dn = false ∧ D.ar = false } => [dk d D.1]) ⟨_, h1, h3, h2⟩ s, rfl⟩
  | panicked c => exact hp.elim
  | outgrown => exact hp.elim

end Go.Proofs.YtfceaphohlbnbaaGreat
end

section
namespace Go.Proofs.YtfceaphohlbnbaaGreat

open Go Leg Codec Api Dsk Wal

set_option linter.unusedSimpArgs false
set_option linter.unusedVariables false

set_option maxRecDepth 100000

set_option maxHeartbeats 8000000

theorem sg48 : Tryz.prog.eqGuardType Tryz.prog.depth 48 = false := by kernel_rfl
theorem sk48 : Tryz.prog.keyTypeAt 8 48 = true := by kernel_rfl
theorem fI48 : flatI Tryz.prog 8 48 = some 174 := by kernel_rfl
theorem fC48 : (match Tryz.prog.underlying 48 with | some (.struct _) | some (.array _ _) => true | _ => false) = true := by kernel_rfl
theorem cC48 : Tryz.prog.cellsOf 48 = 174 := by kernel_rfl

theorem sg52 : Tryz.prog.eqGuardType Tryz.prog.depth 52 = false := by kernel_rfl
theorem sk52 : Tryz.prog.keyTypeAt 4 52 = true := by kernel_rfl
theorem fI52 : flatI Tryz.prog 4 52 = some 7 := by kernel_rfl
theorem fC52 : (match Tryz.prog.underlying 52 with | some (.struct _) | some (.array _ _) => true | _ => false) = true := by kernel_rfl
theorem cC52 : Tryz.prog.cellsOf 52 = 7 := by kernel_rfl

theorem takeS_does (r ob lg d : Nat) (y : RepT) (M : MirT) (rv : Value) (m : MsgT) (x : RowT) (rs : List RecT) (l : List SaidT) (hlog : y.log = .pointer (some ⟨lg, 0, none⟩)) (hid : y.id = 0) (hk : m.kind = 0) (hw : m.whose = 3) (hr : m.row = x) (hx : WF x.flat) (hroom : sizeS (rs.map encR) + 34 ≤ 2048) (hl : l.length ≤ 900000) :
  Does Tryz.prog 13 #[.pointer (some ⟨r, 0, none⟩), .iface 34 (.pointer (some ⟨ob, 0, none⟩)), .int .i64 3, .agg (ints m.flat).toArray] (fun _ => True) [blkA r (RepT.cells { withM y M with replies := rv }) 104, lgL lg d (rs.map encR), dkL d (rs.map encR), outP ob (l)] (Ret (fun _ H => ∃ l' : List SaidT, l'.length ≤ l.length + 1 ∧ H = [blkA r (RepT.cells { withM y (mirKeep M 3 x).1 with replies := rv }) 104, lgL lg d ((rowQ M 3 x rs).map encR), dkL d ((rowQ M 3 x rs).map encR), outP ob (l')])) := by
  have := take0_does r ob lg d { withM y M with replies := rv } 3 m (rs.map encR) l hlog hk hroom (by rw [hr]; exact hx) hl (by show (3 : Int) ≠ y.id; rw [hid]; decide)
  obtain ⟨e1, e2, e3⟩ := row_with { y with replies := rv } M 3 x rs
  rw [hw, hr] at this
  refine Does.fold this fun e H hp => ?_
  cases e with
  | returned v =>
    obtain rfl := hp
    refine ⟨_, fun _ s => s, l ++ rowO { withM y M with replies := rv } 3 3 x, by rw [List.length_append]; have := e3; exact Nat.add_le_add_left this _, ?_⟩
    rw [show rowX { withM y M with replies := rv } 3 3 x = withM { y with replies := rv } (mirKeep M 3 x).1 from e1, show rowC { withM y M with replies := rv } 3 3 x (rs.map encR) = (rowQ M 3 x rs).map encR from e2]
    rfl
  | panicked c => exact hp.elim
  | outgrown => exact hp.elim

theorem wf_firstV : WF firstV.flat := by
  have : ∀ n ∈ firstV.flat, (Lit.int IntKind.i64 n).wf = true := by decide +kernel
  intro n hn; exact this n hn

theorem replicaStarts_does (x : Value) (l0 : List (List Int)) (z : Value) (l1 : List RowT) (c3 : List Int) :
    Does Tryz.prog 7 #[x, z, (.agg #[(.int .i64 ((c3.getD 0 0))), (.int .i64 ((c3.getD 1 0))), (.int .i64 ((c3.getD 2 0)))])] (fun g => IsL 4 EA x l0 g ∧ IsL 174 ER z l1 g) [] (Ret (fun r' H => r' = .bool true ∧ H = [])) := by
 refine Does.body (vs := [x, z, (.agg #[(.int .i64 ((c3.getD 0 0))), (.int .i64 ((c3.getD 1 0))), (.int .i64 ((c3.getD 2 0)))])]) (n := 151) Tryz.func7 rfl rfl rfl (fun w0 F hF => ?_)
 refine sr fun _ J1 => ?_
 refine TL.box (Want.plain rfl) rfl rfl rfl rfl (fun b5 => ?_)
 change TL _ _ _ _ _ _ _ _ _ [blkA b5 [(.int .i64 ((c3.getD 0 0))), (.int .i64 ((c3.getD 1 0))), (.int .i64 ((c3.getD 2 0)))] 88]
 refine sg' ?_
 refine nx J1 ?_
 refine TC.seq fun _ J2 => ?_
 refine sr fun _ J3 => ?_
 refine TL.callR (A := []) (Want.plain rfl) rfl rfl rfl nm9 rfl (fit_does) (fun _ s => s) (fun _ _ _ => trivial) (fun vR HR hR => ?_)
 obtain ⟨rfl, rfl⟩ := hR
 change TL _ _ _ _ _ _ _ _ _ [blkA b5 [(.int .i64 ((c3.getD 0 0))), (.int .i64 ((c3.getD 1 0))), (.int .i64 ((c3.getD 2 0)))] 88]
 refine tp (PV.not (r := false) rfl rfl rfl) ?_
 refine nx J3 ?_
 refine TC.no rfl ?_
 refine TC.skip ?_
 refine TE.next J2 ?_
 refine TC.seq fun _ J4 => ?_
 refine sr fun _ J5 => ?_
 refine mv ?_
 refine tp (PV.lenV rfl Tryz.underlying60 rfl hF.1.len) ?_
 refine tp (PV.gtr rfl rfl rfl) ?_
 refine TL.dec (fun h27 => ?_) (fun h27 => ?_)
 refine mv ?_
 refine TL.unmet (b := true) rfl rfl rfl rfl (lb rfl) ?_
 refine TL.unmet (b := true) rfl rfl rfl rfl (lb rfl) ?_
 refine TL.unmet (b := true) rfl rfl rfl rfl (lb rfl) ?_
 refine tp (PV.pick rfl rfl rfl) ?_
 refine nx J5 ?_
 refine TC.yes rfl ?_
 refine sr fun _ J6 => ?_
 refine sg' ?_
 refine nx J6 ?_
 refine TC.ret ?_
 refine TE.passRet ?_
 refine TE.weak (Sub.refl _) (fun _ s => sep_keep [] rfl s) ?_
 refine TE.ret1 rfl rfl ?_
 exact ⟨rfl, rfl⟩
 refine mv ?_
 refine tq (PV.move rfl rfl) ?_
 refine tq (PV.lenV rfl Tryz.underlying68 rfl hF.2.len) ?_
 refine tq (PV.gtr rfl rfl rfl) ?_
 refine TL.dec (fun h31 => ?_) (fun h31 => ?_)
 refine tp (PV.pick rfl rfl rfl) ?_
 refine nx J5 ?_
 refine TC.yes rfl ?_
 refine sr fun _ J7 => ?_
 refine sg' ?_
 refine nx J7 ?_
 refine TC.ret ?_
 refine TE.passRet ?_
 refine TE.weak (Sub.refl _) (fun _ s => sep_keep [] rfl s) ?_
 refine TE.ret1 rfl rfl ?_
 exact ⟨rfl, rfl⟩
 refine tp (PV.pick rfl rfl rfl) ?_
 refine nx J5 ?_
 refine TC.no rfl ?_
 refine TC.skip ?_
 refine TE.next J4 ?_
 refine sr fun _ J8 => ?_
 refine TL.callR (A := []) (Want.plain rfl) rfl rfl rfl nm11 rfl (dkNew_does) (fun _ s => s) (fun _ _ _ => trivial) (fun vR HR hR => ?_)
 obtain ⟨d, rfl, rfl⟩ := hR
 change TL _ _ _ _ _ _ _ _ _ [dkL d ([]), blkA b5 [(.int .i64 ((c3.getD 0 0))), (.int .i64 ((c3.getD 1 0))), (.int .i64 ((c3.getD 2 0)))] 88]
 refine sg' ?_
 refine nx J8 ?_
 refine sr fun _ J9 => ?_
 refine mv ?_
 refine TL.callR (A := [dkL d ([])]) (Want.plain rfl) rfl rfl rfl nm10 rfl (start0_does 0 d) (fun _ s => s) (fun _ _ _ => trivial) (fun vR HR hR => ?_)
 obtain ⟨r, lg, rfl, rfl⟩ := hR
 change TL _ _ _ _ _ _ _ _ _ [blkA r (RepT.cells ({ newRep 0 lg with replies := (.slice none 0 0) })) 104, lgP lg d ((([]).length : Nat) : Int) ((sizeS ([]) : Nat) : Int), dkL d ([]), blkA b5 [(.int .i64 ((c3.getD 0 0))), (.int .i64 ((c3.getD 1 0))), (.int .i64 ((c3.getD 2 0)))] 88]
 have hL0 := Lone.new 0 lg 0
 have hrn : ([] : List ReplyT).length = 0 := rfl
 refine TL.ownNilI 92 3 (fun _ => ?_)
 change TL _ _ _ _ _ _ _ _ _ [own (.slice none 0 0) ((([] : List ReplyT)).length) (ints (List.flatMap ReplyT.flat (([] : List ReplyT)))) 92 3, blkA r (RepT.cells ({ newRep 0 lg with replies := (.slice none 0 0) })) 104, lgP lg d ((([]).length : Nat) : Int) ((sizeS ([]) : Nat) : Int), dkL d ([]), blkA b5 [(.int .i64 ((c3.getD 0 0))), (.int .i64 ((c3.getD 1 0))), (.int .i64 ((c3.getD 2 0)))] 88]
 refine mv ?_
 refine tp (PV.extract (vs := [(.pointer (some ⟨r, 0, none⟩)), (.int .i64 0)]) rfl rfl rfl) ?_
 refine tp (PV.extract (vs := [(.pointer (some ⟨r, 0, none⟩)), (.int .i64 0)]) rfl rfl rfl) ?_
 refine sg' ?_
 refine sg' ?_
 refine nx J9 ?_
 refine sr fun _ J10 => ?_
 refine TL.alloc (Want.plain rfl) rfl rfl rfl z32 (fun b10 => ?_)
 change TL _ _ _ _ _ _ _ _ _ [blkA b10 [(.slice none 0 0)] 32, own (.slice none 0 0) ((([] : List ReplyT)).length) (ints (List.flatMap ReplyT.flat (([] : List ReplyT)))) 92 3, blkA r (RepT.cells ({ newRep 0 lg with replies := (.slice none 0 0) })) 104, lgP lg d ((([]).length : Nat) : Int) ((sizeS ([]) : Nat) : Int), dkL d ([]), blkA b5 [(.int .i64 ((c3.getD 0 0))), (.int .i64 ((c3.getD 1 0))), (.int .i64 ((c3.getD 2 0)))] 88]
 refine nx J10 ?_
 refine TC.seq fun _ J11 => ?_
 refine sr fun _ J12 => ?_
 refine outNew ?_
 change TL _ _ _ _ _ _ _ _ _ [outP b10 ([]), own (.slice none 0 0) ((([] : List ReplyT)).length) (ints (List.flatMap ReplyT.flat (([] : List ReplyT)))) 92 3, blkA r (RepT.cells ({ newRep 0 lg with replies := (.slice none 0 0) })) 104, lgP lg d ((([]).length : Nat) : Int) ((sizeS ([]) : Nat) : Int), dkL d ([]), blkA b5 [(.int .i64 ((c3.getD 0 0))), (.int .i64 ((c3.getD 1 0))), (.int .i64 ((c3.getD 2 0)))] 88]
 refine mv ?_
 refine tp (PV.lenV rfl Tryz.underlying60 rfl hF.1.len) ?_
 refine mv ?_
 refine nx J12 ?_
 refine TC.block ?_
 refine TC.loop (α := (Nat) × (RepT) × (Value) × (List RecT) × (List ReplyT) × (List SaidT)) (fun ⟨i, y, rv, rs, rp, l⟩ => i ≤ l0.length ∧ rv.oneCell' = true ∧ (∃ c, RunI y lg i c) ∧ y.mirror = MirT.zero ∧ KeptBy rs y.own MirT.zero ∧ sizeS (rs.map encR) ≤ 7 * i ∧ rp.length ≤ 3 * i ∧ l.length ≤ 12 * i) (fun ⟨i, y, rv, rs, rp, l⟩ => [(1, z), (5, (.pointer (some ⟨b5, 0, none⟩))), (6, (.bool false)), (7, (.pointer (some ⟨d, 0, none⟩))), (8, (.pointer (some ⟨r, 0, none⟩))), (10, (.pointer (some ⟨b10, 0, none⟩))), (39, x), (40, (.int .i64 (((l0.length : Nat) : Int)))), (41, (.int .i64 (((i : Nat) : Int))))]) (fun ⟨i, y, rv, rs, rp, l⟩ => [blkA r (RepT.cells ({ y with replies := rv })) 104, lgP lg d ((((rs).map encR).length : Nat) : Int) ((sizeS ((rs).map encR) : Nat) : Int), dkL d ((rs).map encR), own rv ((rp).length) (ints (List.flatMap ReplyT.flat (rp))) 92 3, outP b10 (l), blkA b5 [(.int .i64 ((c3.getD 0 0))), (.int .i64 ((c3.getD 1 0))), (.int .i64 ((c3.getD 2 0)))] 88]) (fun ⟨i, y, rv, rs, rp, l⟩ => l0.length - i) (0, newRep 0 lg, .slice none 0 0, [], [], [])
     ⟨Nat.zero_le _, rfl, ⟨_, RunI.new lg⟩, rfl, KeptBy.nil, Nat.le_refl 0, Nat.le_refl 0, Nat.le_refl 0⟩ (Sub.r (Sub.r (Sub.r (Sub.r (Sub.r (Sub.r (Sub.r (Sub.r (Sub.cons rfl (by congr 1) (Sub.nil _))))))))))
     (fun _ s => sep_keep [2, 2, 2, 1, 0, 0] rfl s) (fun ⟨i, y, rv, rs, rp, l⟩ hinv => ?_)
 obtain ⟨hi, hrv, ⟨c, hI⟩, hmz, hQ, hsz, hrp, hl⟩ := hinv
 refine sr fun _ J13 => ?_
 refine tp (PV.lss rfl rfl rfl) ?_
 refine TL.dec (fun h42 => ?_) (fun h42 => ?_)
 obtain ⟨b_a, off_a, cap_a, cs_a, T_a, z_a, us_a, hv_a, hc_a, hb_a, hl_a, hs_a, hE_a⟩ := IsL.at hF.1 (j := i) (by omega)
 obtain ⟨a0, a1, a2, a3, e_a⟩ := four hE_a.2
 replace hs_a := hs_a.trans (hE_a.1.trans (congrArg ints e_a))
 refine nx J13 ?_
 refine TC.seq fun _ J14 => ?_
 refine TC.yes rfl ?_
 refine TC.skip ?_
 refine TE.next J14 ?_
 refine TC.seq fun _ J15 => ?_
 refine TC.block ?_
 refine sr fun _ J16 => ?_
 refine mv ?_
 refine tp (PV.indexSlV (r := off_a + i * 4) hv_a rfl Tryz.underlying60 sz63 rfl rfl (by omega) (by omega) (by omega)) ?_
 refine tp (PV.loadNX (vs := [(.int .i64 (a0)), (.int .i64 (a1)), (.int .i64 (a2)), (.int .i64 (a3))]) rfl Tryz.underlying63 rfl sz63 rfl (RdX.frm hb_a (fun _ h => Frm.of h)) rfl hs_a) ?_
 refine TL.alloc (Want.plain rfl) rfl rfl rfl z63 (fun b12 => ?_)
 change TL _ _ _ _ _ _ _ _ _ [blkA b12 [(.int .i64 0), (.int .i64 0), (.int .i64 0), (.int .i64 0)] 63, blkA r (RepT.cells ({ y with replies := rv })) 104, lgP lg d ((((rs).map encR).length : Nat) : Int) ((sizeS ((rs).map encR) : Nat) : Int), dkL d ((rs).map encR), own rv ((rp).length) (ints (List.flatMap ReplyT.flat (rp))) 92 3, outP b10 (l), blkA b5 [(.int .i64 ((c3.getD 0 0))), (.int .i64 ((c3.getD 1 0))), (.int .i64 ((c3.getD 2 0)))] 88]
 refine sg' ?_
 refine TL.store (vs := [(.int .i64 (a0)), (.int .i64 (a1)), (.int .i64 (a2)), (.int .i64 (a3))]) (i := 0) (H' := [blkA b12 [(.int .i64 (a0)), (.int .i64 (a1)), (.int .i64 (a2)), (.int .i64 (a3))] 63, blkA r (RepT.cells ({ y with replies := rv })) 104, lgP lg d ((((rs).map encR).length : Nat) : Int) ((sizeS ((rs).map encR) : Nat) : Int), dkL d ((rs).map encR), own rv ((rp).length) (ints (List.flatMap ReplyT.flat (rp))) 92 3, outP b10 (l), blkA b5 [(.int .i64 ((c3.getD 0 0))), (.int .i64 ((c3.getD 1 0))), (.int .i64 ((c3.getD 2 0)))] 88]) (Want.plain rfl) rfl rfl rfl rfl rfl sz63 (by simp [Value.oneCell']) rfl rfl (lbe rfl) rfl rfl ?_
 refine nx J16 ?_
 refine sr fun _ J17 => ?_
 refine mv ?_
 refine tp (PV.mkIface rfl Tryz.underlying34 rfl rfl) ?_
 refine tp (PV.fieldAddr (r := 0) rfl Tryz.underlying63 rfl sz3 rfl rfl) ?_
 refine tp (PV.load1 (v := (.int .i64 (a0))) rfl Tryz.underlying3 rfl rfl (Rd.own 0 rfl rfl) rfl) ?_
 refine tp (PV.and (r := (a0 % 4)) rfl rfl rfl (mask (k := 2) (by decide) _)) ?_
 refine tp (PV.rem (r := ((a0 % 4) % 3)) rfl rfl rfl (by omega) (rem_pos (by omega))) ?_
 refine tp (PV.fieldAddr (r := 1) rfl Tryz.underlying63 rfl sz3 rfl rfl) ?_
 refine tp (PV.load1 (v := (.int .i64 (a1))) rfl Tryz.underlying3 rfl rfl (Rd.own 0 rfl rfl) rfl) ?_
 refine tp (PV.fieldAddr (r := 2) rfl Tryz.underlying63 rfl sz3 rfl rfl) ?_
 refine tp (PV.load1 (v := (.int .i64 (a2))) rfl Tryz.underlying3 rfl rfl (Rd.own 0 rfl rfl) rfl) ?_
 refine tp (PV.and (r := (a2 % 1024)) rfl rfl rfl (mask (k := 10) (by decide) _)) ?_
 refine tp (PV.fieldAddr (r := 3) rfl Tryz.underlying63 rfl sz3 rfl rfl) ?_
 refine tp (PV.load1 (v := (.int .i64 (a3))) rfl Tryz.underlying3 rfl rfl (Rd.own 0 rfl rfl) rfl) ?_
 refine tp (PV.buildSegs (cs := ints (OpT.mk ((a0 % 4) % 3) 0 a3 a1 (a2 % 1024) ChangeT.zero 0 0 0).flat) (segs := [[Value.int .i64 0], [Value.int .i64 0], [Value.int .i64 0], [Value.int .i64 0], [Value.int .i64 0], ints ChangeT.zero.flat, [Value.int .i64 0], [Value.int .i64 0], [Value.int .i64 0]]) (res := [[Value.int .i64 ((a0 % 4) % 3)], [Value.int .i64 0], [Value.int .i64 a3], [Value.int .i64 a1], [Value.int .i64 (a2 % 1024)], ints ChangeT.zero.flat, [Value.int .i64 0], [Value.int .i64 0], [Value.int .i64 0]]) (parts := [(0, [Value.int .i64 ((a0 % 4) % 3)]), (3, [Value.int .i64 a1]), (4, [Value.int .i64 (a2 % 1024)]), (2, [Value.int .i64 a3])]) rfl rfl Tryz.underlying38 (by kernel_rfl) (by kernel_rfl) rfl (putSegs_step rfl ((rfl : [Value.int .i64 ((a0 % 4) % 3)].length = 1).trans (rfl : [Value.int .i64 0].length = 1).symm) (putSegs_step rfl ((rfl : [Value.int .i64 a1].length = 1).trans (rfl : [Value.int .i64 0].length = 1).symm) (putSegs_step rfl ((rfl : [Value.int .i64 (a2 % 1024)].length = 1).trans (rfl : [Value.int .i64 0].length = 1).symm) (putSegs_step rfl ((rfl : [Value.int .i64 a3].length = 1).trans (rfl : [Value.int .i64 0].length = 1).symm) putSegs_nil)))) (OpT.eq (OpT.mk ((a0 % 4) % 3) 0 a3 a1 (a2 % 1024) ChangeT.zero 0 0 0)).symm) ?_
 generalize ho : (OpT.mk ((a0 % 4) % 3) 0 a3 a1 (a2 % 1024) ChangeT.zero 0 0 0) = o
 have hok : 0 ≤ o.kind ∧ o.kind < 3 := by subst ho; exact ⟨by show (0 : Int) ≤ a0 % 4 % 3; omega, by show a0 % 4 % 3 < (3 : Int); omega⟩
 refine TL.callR (A := [blkA r (RepT.cells ({ y with replies := rv })) 104, lgP lg d ((((rs).map encR).length : Nat) : Int) ((sizeS ((rs).map encR) : Nat) : Int), dkL d ((rs).map encR), own rv ((rp).length) (ints (List.flatMap ReplyT.flat (rp))) 92 3, outP b10 (l)]) (Want.plain rfl) rfl rfl rfl nm12 rfl (clientL_does r b10 lg d y rv o (rs.map encR) rp l hI.lone (by decide) (by omega) (by omega) (by omega) (by omega) (fun _ => by omega)) (fun _ s => sep_selR [1, 1, 1, 1, 1] rfl s) (fun _ _ _ => trivial) (fun vR HR hR => ?_)
 obtain ⟨_, vc, hvc, hH⟩ := hR
 rw [clientQ_enc] at hH
 subst hH
 change TL _ _ _ _ _ _ _ _ _ [blkA r (RepT.cells ({ clientX y o with replies := vc })) 104, lgP lg d ((((clientQ y o rs).map encR).length : Nat) : Int) ((sizeS ((clientQ y o rs).map encR) : Nat) : Int), dkL d ((clientQ y o rs).map encR), own vc ((clientR y o (rp)).length) (ints (List.flatMap ReplyT.flat (clientR y o (rp)))) 92 3, outP b10 (l ++ clientO y o), blkA b12 [(.int .i64 (a0)), (.int .i64 (a1)), (.int .i64 (a2)), (.int .i64 (a3))] 63, blkA b5 [(.int .i64 ((c3.getD 0 0))), (.int .i64 ((c3.getD 1 0))), (.int .i64 ((c3.getD 2 0)))] 88]
 obtain ⟨hI2, hQ2⟩ := client_kept2 hI (by omega) o (by omega) hQ
 have hm2 : (clientX y o).mirror = MirT.zero := (client_mirror y o).trans hmz
 have hol := clientO_len y o
 have hrl := clientR_len y o rp
 have hsl : sizeS ((clientQ y o rs).map encR) ≤ sizeS (rs.map encR) + 7 := by rw [← clientQ_enc]; exact clientC_size hI.lone (by omega) o
 refine nx J17 ?_
 refine sr fun _ J18 => ?_
 refine mv ?_
 refine tp (PV.and (r := (((i : Nat) : Int) % 2)) rfl rfl rfl (mask (k := 1) (by decide) _)) ?_
 refine tp (PV.eql rfl rfl rfl) ?_
 refine TL.dec (fun h63 => ?_) (fun h63 => ?_)
 refine nx J18 ?_
 refine TC.yes rfl ?_
 refine TC.region ?_
 refine mv ?_
 refine TL.callR (A := [blkA r (RepT.cells ({ clientX y o with replies := vc })) 104, own vc ((clientR y o (rp)).length) (ints (List.flatMap ReplyT.flat (clientR y o (rp)))) 92 3, outP b10 (l ++ clientO y o)]) (Want.plain rfl) rfl rfl rfl nm17 rfl (keepL_does r b10 lg (clientX y o) vc 0 (clientR y o (rp)) (l ++ clientO y o) hI2.lone (by decide) (by omega) (by simp only [List.length_append, List.length_nil]; omega) (by omega)) (fun _ s => sep_selR [0, 2, 2] rfl s) (fun _ _ _ => trivial) (fun vR HR hR => ?_)
 obtain ⟨vq1, hvq1, rfl⟩ := hR
 change TL _ _ _ _ _ _ _ _ _ [blkA r (RepT.cells ({ keepX (clientX y o) 0 with replies := vq1 })) 104, own vq1 ((keepR (clientX y o) 0 (clientR y o (rp))).length) (ints (List.flatMap ReplyT.flat (keepR (clientX y o) 0 (clientR y o (rp))))) 92 3, outP b10 (l ++ clientO y o ++ keepO (clientX y o) 0), lgP lg d ((((clientQ y o rs).map encR).length : Nat) : Int) ((sizeS ((clientQ y o rs).map encR) : Nat) : Int), dkL d ((clientQ y o rs).map encR), blkA b12 [(.int .i64 (a0)), (.int .i64 (a1)), (.int .i64 (a2)), (.int .i64 (a3))] 63, blkA b5 [(.int .i64 ((c3.getD 0 0))), (.int .i64 ((c3.getD 1 0))), (.int .i64 ((c3.getD 2 0)))] 88]
 have hLvq1 := hI2.lone.keep
 have hovq1 := keepO_len (clientX y o) 0
 have hrvq1 := keepR_len (clientX y o) 0 (clientR y o (rp))
 obtain ⟨c3, hI3⟩ := hI2.keepAny
 have hm3 : (keepX (clientX y o) 0).mirror = MirT.zero := (keep_mirror _ _).trans hm2
 refine TL.nil ?_
 refine TE.blockEnd ?_
 refine TE.next J15 ?_
 refine TC.region ?_
 refine tp (PV.add rfl rfl rfl (wrap_i64 (by omega) (by omega))) ?_
 refine mv ?_
 refine TL.nil ?_
 exact TE.round ((i + 1, keepX (clientX y o) 0, vq1, clientQ y o rs, keepR (clientX y o) 0 (clientR y o (rp)), l ++ clientO y o ++ keepO (clientX y o) 0) : (Nat) × (RepT) × (Value) × (List RecT) × (List ReplyT) × (List SaidT)) ⟨by omega, hvq1, ⟨c3, hI3⟩, hm3, by rw [keep_own]; exact hQ2, by omega, by omega, by rw [List.length_append, List.length_append]; omega⟩ (by show l0.length - (i + 1) < l0.length - i; omega)
   (Sub.r (Sub.r (Sub.r (Sub.r (Sub.r (Sub.r (Sub.r (Sub.r (Sub.cons rfl (by simp) (Sub.nil _))))))))))
   (fun _ s => sep_keep [0, 2, 2, 0, 0, 1] rfl s)
 refine nx J18 ?_
 refine TC.no rfl ?_
 refine TC.skip ?_
 refine TE.blockEnd ?_
 refine TE.next J15 ?_
 refine TC.region ?_
 refine tp (PV.add rfl rfl rfl (wrap_i64 (by omega) (by omega))) ?_
 refine mv ?_
 refine TL.nil ?_
 exact TE.round ((i + 1, clientX y o, vc, clientQ y o rs, clientR y o (rp), l ++ clientO y o) : (Nat) × (RepT) × (Value) × (List RecT) × (List ReplyT) × (List SaidT)) ⟨by omega, hvc, ⟨c, hI2⟩, hm2, hQ2, by omega, by omega, (by rw [List.length_append]; omega)⟩ (by show l0.length - (i + 1) < l0.length - i; omega)
   (Sub.r (Sub.r (Sub.r (Sub.r (Sub.r (Sub.r (Sub.r (Sub.r (Sub.cons rfl (by simp) (Sub.nil _))))))))))
   (fun _ s => sep_keep [0, 0, 0, 0, 0, 1] rfl s)
 have hlog := hI.lone.log
 have hid0 := hI.lone.id
 have hwo := hI.lone.wf (by omega)
 have hv0 := hI.lone.own.ver.1
 skip
 refine nx J13 ?_
 refine TC.seq fun _ J19 => ?_
 refine TC.no rfl ?_
 refine TC.exit ?_
 refine TE.pass ?_
 refine TE.pass ?_
 refine TE.hit ?_
 refine TE.next J11 ?_
 refine TC.seq fun _ J20 => ?_
 refine sr fun _ J21 => ?_
 refine mv ?_
 refine tp (PV.lenV rfl Tryz.underlying68 rfl hF.2.len) ?_
 refine mv ?_
 refine nx J21 ?_
 refine TC.block ?_
 refine TC.loop (α := (Nat) × (MirT) × (List RecT) × (List SaidT)) (fun ⟨i, M, rs, l⟩ => i ≤ l1.length ∧ MirOk M ∧ KeptBy rs y.own M ∧ sizeS (rs.map encR) ≤ 280 + 34 * i ∧ l.length ≤ 480 + i) (fun ⟨i, M, rs, l⟩ => [(5, (.pointer (some ⟨b5, 0, none⟩))), (6, (.bool false)), (7, (.pointer (some ⟨d, 0, none⟩))), (8, (.pointer (some ⟨r, 0, none⟩))), (10, (.pointer (some ⟨b10, 0, none⟩))), (67, z), (68, (.int .i64 (((l1.length : Nat) : Int)))), (69, (.int .i64 (((i : Nat) : Int))))]) (fun ⟨i, M, rs, l⟩ => [blkA r (RepT.cells ({ withM y M with replies := rv })) 104, lgP lg d ((((rs).map encR).length : Nat) : Int) ((sizeS ((rs).map encR) : Nat) : Int), dkL d ((rs).map encR), own rv ((rp).length) (ints (List.flatMap ReplyT.flat (rp))) 92 3, outP b10 (l), blkA b5 [(.int .i64 ((c3.getD 0 0))), (.int .i64 ((c3.getD 1 0))), (.int .i64 ((c3.getD 2 0)))] 88]) (fun ⟨i, M, rs, l⟩ => l1.length - i) (0, MirT.zero, rs, l)
     ⟨Nat.zero_le _, MirOk.zero, hQ, by omega, by omega⟩ (Sub.r (Sub.r (Sub.r (Sub.r (Sub.r (Sub.r (Sub.r (Sub.cons rfl (by congr 1) (Sub.nil _)))))))))
     (fun _ s => by dsimp only; rw [show withM y MirT.zero = y from by rw [← hmz]; rfl]; exact sep_keep [0, 0, 0, 0, 0, 0] rfl s) (fun ⟨i, M, rs, l⟩ hinv => ?_)
 obtain ⟨hi2, hM, hQ, hsz2, hl2⟩ := hinv
 refine sr fun _ J22 => ?_
 refine tp (PV.lss rfl rfl rfl) ?_
 refine TL.dec (fun h70 => ?_) (fun h70 => ?_)
 obtain ⟨b_b, off_b, cap_b, cs_b, T_b, z_b, us_b, hv_b, hc_b, hb_b, hl_b, hs_b, hE_b⟩ := IsL.at hF.2 (j := i) (by omega)
 replace hE_b : us_b = ints l1[i].flat ∧ WF l1[i].flat := hE_b
 refine nx J22 ?_
 refine TC.seq fun _ J23 => ?_
 refine TC.yes rfl ?_
 refine TC.skip ?_
 refine TE.next J23 ?_
 refine TC.seq fun _ J24 => ?_
 refine TC.block ?_
 refine sr fun _ J25 => ?_
 refine tp (PV.indexSlV (r := off_b + i * 174) hv_b rfl Tryz.underlying68 sz48 rfl rfl (by omega) (by omega) (by omega)) ?_
 refine tp (PV.loadNX (vs := ints (l1[i]).flat) rfl Tryz.underlying48 rfl sz48 rfl (RdX.frm hb_b (fun _ h => Frm.of h)) (RowT.len _) (hs_b.trans hE_b.1)) ?_
 refine TL.alloc (Want.plain rfl) rfl rfl rfl z48 (fun b14 => ?_)
 change TL _ _ _ _ _ _ _ _ _ [blkA b14 (ints RowT.zero.flat) 48, blkA r (RepT.cells ({ withM y M with replies := rv })) 104, lgP lg d ((((rs).map encR).length : Nat) : Int) ((sizeS ((rs).map encR) : Nat) : Int), dkL d ((rs).map encR), own rv ((rp).length) (ints (List.flatMap ReplyT.flat (rp))) 92 3, outP b10 (l), blkA b5 [(.int .i64 ((c3.getD 0 0))), (.int .i64 ((c3.getD 1 0))), (.int .i64 ((c3.getD 2 0)))] 88]
 refine TL.store (vs := ints (l1[i]).flat) (i := 0) (H' := [blkA b14 (ints (l1[i]).flat) 48, blkA r (RepT.cells ({ withM y M with replies := rv })) 104, lgP lg d ((((rs).map encR).length : Nat) : Int) ((sizeS ((rs).map encR) : Nat) : Int), dkL d ((rs).map encR), own rv ((rp).length) (ints (List.flatMap ReplyT.flat (rp))) 92 3, outP b10 (l), blkA b5 [(.int .i64 ((c3.getD 0 0))), (.int .i64 ((c3.getD 1 0))), (.int .i64 ((c3.getD 2 0)))] 88]) (Want.plain rfl) rfl rfl rfl rfl rfl (by rw [(RowT.len (l1[i]))]; exact sz48) (ints_one _) rfl rfl (by have h0 := (RowT.len RowT.zero); have h1 := (RowT.len (l1[i])); omega) (wwhole ((RowT.len RowT.zero).trans (RowT.len (l1[i])).symm)) rfl ?_
 refine nx J25 ?_
 refine TC.region ?_
 refine mv ?_
 refine tp (PV.mkIface rfl Tryz.underlying34 rfl rfl) ?_
 refine tp (PV.loadN (vs := ints (l1[i]).flat) rfl Tryz.underlying48 rfl sz48 rfl (Rd.own 0 rfl rfl) (RowT.len (l1[i])) (whole (RowT.len (l1[i])))) ?_
 refine tp (PV.buildSegs (cs := ints (MsgT.mk 0 3 (l1[i]) 0 0 BallotT.zero BallotT.zero ChangeT.zero ViewT.zero).flat) (segs := [[Value.int .i64 0], [Value.int .i64 0], ints RowT.zero.flat, [Value.int .i64 0], [Value.int .i64 0], ints BallotT.zero.flat, ints BallotT.zero.flat, ints ChangeT.zero.flat, ints ViewT.zero.flat]) (res := [[Value.int .i64 0], [Value.int .i64 3], ints (l1[i]).flat, [Value.int .i64 0], [Value.int .i64 0], ints BallotT.zero.flat, ints BallotT.zero.flat, ints ChangeT.zero.flat, ints ViewT.zero.flat]) (parts := [(0, [Value.int .i64 0]), (1, [Value.int .i64 3]), (2, ints (l1[i]).flat)]) rfl rfl Tryz.underlying54 (by kernel_rfl) (by kernel_rfl) rfl (putSegs_step rfl ((rfl : [Value.int .i64 0].length = 1).trans (rfl : [Value.int .i64 0].length = 1).symm) (putSegs_step rfl ((rfl : [Value.int .i64 3].length = 1).trans (rfl : [Value.int .i64 0].length = 1).symm) (putSegs_step rfl ((RowT.len (l1[i])).trans (RowT.len RowT.zero).symm) putSegs_nil))) (MsgT.eq (MsgT.mk 0 3 (l1[i]) 0 0 BallotT.zero BallotT.zero ChangeT.zero ViewT.zero)).symm) ?_
 refine TL.callR (A := [blkA r (RepT.cells ({ withM y M with replies := rv })) 104, lgP lg d ((((rs).map encR).length : Nat) : Int) ((sizeS ((rs).map encR) : Nat) : Int), dkL d ((rs).map encR), outP b10 (l)]) (Want.plain rfl) rfl rfl rfl nm13 rfl (takeS_does r b10 lg d y M rv (MsgT.mk 0 3 (l1[i]) 0 0 BallotT.zero BallotT.zero ChangeT.zero ViewT.zero) l1[i] rs (l) hlog hid0 rfl rfl rfl hE_b.2 (by omega) (by omega)) (fun _ s => sep_selR [1, 1, 1, 2] rfl s) (fun _ _ _ => trivial) (fun vR HR hR => ?_)
 obtain ⟨l2, hl2, rfl⟩ := hR
 change TL _ _ _ _ _ _ _ _ _ [blkA r (RepT.cells ({ withM y (mirKeep M 3 l1[i]).1 with replies := rv })) 104, lgP lg d ((((rowQ M 3 l1[i] rs).map encR).length : Nat) : Int) ((sizeS ((rowQ M 3 l1[i] rs).map encR) : Nat) : Int), dkL d ((rowQ M 3 l1[i] rs).map encR), outP b10 (l2), blkA b14 (ints (l1[i]).flat) 48, own rv ((rp).length) (ints (List.flatMap ReplyT.flat (rp))) 92 3, blkA b5 [(.int .i64 ((c3.getD 0 0))), (.int .i64 ((c3.getD 1 0))), (.int .i64 ((c3.getD 2 0)))] 88]
 have hQ2 := hQ.take (w := 3) (by decide) hE_b.2
 have hM2 := hM.keep 3 hE_b.2
 have hsl : sizeS ((rowQ M 3 l1[i] rs).map encR) ≤ sizeS (rs.map encR) + 34 := by
   have e := (row_with y M 3 l1[i] rs).2.1
   rw [← e]
   exact rowC_size _ _ _ _ _
 refine TL.nil ?_
 refine TE.blockEnd ?_
 refine TE.next J24 ?_
 refine TC.region ?_
 refine tp (PV.add rfl rfl rfl (wrap_i64 (by omega) (by omega))) ?_
 refine mv ?_
 refine TL.nil ?_
 exact TE.round ((i + 1, (mirKeep M 3 l1[i]).1, rowQ M 3 l1[i] rs, l2) : (Nat) × (MirT) × (List RecT) × (List SaidT)) ⟨by omega, hM2, hQ2, by omega, by omega⟩ (by show l1.length - (i + 1) < l1.length - i; omega)
   (Sub.r (Sub.r (Sub.r (Sub.r (Sub.r (Sub.r (Sub.r (Sub.cons rfl (by simp) (Sub.nil _)))))))))
   (fun _ s => sep_keep [0, 0, 0, 2, 0, 1] rfl s)
 refine nx J22 ?_
 refine TC.seq fun _ J26 => ?_
 refine TC.no rfl ?_
 refine TC.exit ?_
 refine TE.pass ?_
 refine TE.pass ?_
 refine TE.hit ?_
 refine TE.next J20 ?_
 refine sr fun _ J27 => ?_
 refine mv ?_
 refine TL.callR (A := [blkA r (RepT.cells ({ withM y M with replies := rv })) 104]) (Want.plain rfl) rfl rfl rfl nm18 rfl (rOwn_does r { withM y M with replies := rv }) (fun _ s => s) (fun _ _ _ => trivial) (fun vR HR hR => ?_)
 obtain ⟨hv, rfl⟩ := hR
 rw [show ({ withM y M with replies := rv } : RepT).own = y.own from rfl] at hv
 subst hv
 change TL _ _ _ _ _ _ _ _ _ [blkA r (RepT.cells ({ withM y M with replies := rv })) 104, lgP lg d ((((rs).map encR).length : Nat) : Int) ((sizeS ((rs).map encR) : Nat) : Int), dkL d ((rs).map encR), own rv ((rp).length) (ints (List.flatMap ReplyT.flat (rp))) 92 3, outP b10 (l), blkA b5 [(.int .i64 ((c3.getD 0 0))), (.int .i64 ((c3.getD 1 0))), (.int .i64 ((c3.getD 2 0)))] 88]
 refine mv ?_
 refine TL.callR (A := [blkA r (RepT.cells ({ withM y M with replies := rv })) 104]) (Want.plain rfl) rfl rfl rfl nm27 rfl (rView_does r { withM y M with replies := rv }) (fun _ s => s) (fun _ _ _ => trivial) (fun vR HR hR => ?_)
 obtain ⟨hv, rfl⟩ := hR
 rw [show ({ withM y M with replies := rv } : RepT).view = firstV from (by first | exact hI.lone.view | rfl)] at hv
 subst hv
 change TL _ _ _ _ _ _ _ _ _ [blkA r (RepT.cells ({ withM y M with replies := rv })) 104, lgP lg d ((((rs).map encR).length : Nat) : Int) ((sizeS ((rs).map encR) : Nat) : Int), dkL d ((rs).map encR), own rv ((rp).length) (ints (List.flatMap ReplyT.flat (rp))) 92 3, outP b10 (l), blkA b5 [(.int .i64 ((c3.getD 0 0))), (.int .i64 ((c3.getD 1 0))), (.int .i64 ((c3.getD 2 0)))] 88]
 refine TL.alloc (Want.plain rfl) rfl rfl rfl z48 (fun b15 => ?_)
 change TL _ _ _ _ _ _ _ _ _ [blkA b15 (ints RowT.zero.flat) 48, blkA r (RepT.cells ({ withM y M with replies := rv })) 104, lgP lg d ((((rs).map encR).length : Nat) : Int) ((sizeS ((rs).map encR) : Nat) : Int), dkL d ((rs).map encR), own rv ((rp).length) (ints (List.flatMap ReplyT.flat (rp))) 92 3, outP b10 (l), blkA b5 [(.int .i64 ((c3.getD 0 0))), (.int .i64 ((c3.getD 1 0))), (.int .i64 ((c3.getD 2 0)))] 88]
 refine TL.alloc (Want.plain rfl) rfl rfl rfl z52 (fun b16 => ?_)
 change TL _ _ _ _ _ _ _ _ _ [blkA b16 (ints ViewT.zero.flat) 52, blkA b15 (ints RowT.zero.flat) 48, blkA r (RepT.cells ({ withM y M with replies := rv })) 104, lgP lg d ((((rs).map encR).length : Nat) : Int) ((sizeS ((rs).map encR) : Nat) : Int), dkL d ((rs).map encR), own rv ((rp).length) (ints (List.flatMap ReplyT.flat (rp))) 92 3, outP b10 (l), blkA b5 [(.int .i64 ((c3.getD 0 0))), (.int .i64 ((c3.getD 1 0))), (.int .i64 ((c3.getD 2 0)))] 88]
 refine TL.store (vs := ints y.own.flat) (i := 1) (H' := [blkA b16 (ints ViewT.zero.flat) 52, blkA b15 (ints y.own.flat) 48, blkA r (RepT.cells ({ withM y M with replies := rv })) 104, lgP lg d ((((rs).map encR).length : Nat) : Int) ((sizeS ((rs).map encR) : Nat) : Int), dkL d ((rs).map encR), own rv ((rp).length) (ints (List.flatMap ReplyT.flat (rp))) 92 3, outP b10 (l), blkA b5 [(.int .i64 ((c3.getD 0 0))), (.int .i64 ((c3.getD 1 0))), (.int .i64 ((c3.getD 2 0)))] 88]) (Want.plain rfl) rfl rfl rfl rfl rfl (by rw [(RowT.len y.own)]; exact sz48) (ints_one _) rfl rfl (by have h0 := (RowT.len RowT.zero); have h1 := (RowT.len y.own); omega) (wwhole ((RowT.len RowT.zero).trans (RowT.len y.own).symm)) rfl ?_
 refine TL.store (vs := ints firstV.flat) (i := 0) (H' := [blkA b16 (ints firstV.flat) 52, blkA b15 (ints y.own.flat) 48, blkA r (RepT.cells ({ withM y M with replies := rv })) 104, lgP lg d ((((rs).map encR).length : Nat) : Int) ((sizeS ((rs).map encR) : Nat) : Int), dkL d ((rs).map encR), own rv ((rp).length) (ints (List.flatMap ReplyT.flat (rp))) 92 3, outP b10 (l), blkA b5 [(.int .i64 ((c3.getD 0 0))), (.int .i64 ((c3.getD 1 0))), (.int .i64 ((c3.getD 2 0)))] 88]) (Want.plain rfl) rfl rfl rfl rfl rfl (by rw [(ViewT.len firstV)]; exact sz52) (ints_one _) rfl rfl (by have h0 := (ViewT.len ViewT.zero); have h1 := (ViewT.len firstV); omega) (wwhole ((ViewT.len ViewT.zero).trans (ViewT.len firstV).symm)) rfl ?_
 refine nx J27 ?_
 refine sr fun _ J28 => ?_
 refine mv ?_
 refine TL.callR (A := [blkA r (RepT.cells ({ withM y M with replies := rv })) 104]) (Want.plain rfl) rfl rfl rfl nm29 rfl (rMirrored_does r { withM y M with replies := rv } 3) (fun _ s => sep_selR [2] rfl s) (fun _ _ _ => trivial) (fun vR HR hR => ?_)
 obtain ⟨hv, rfl⟩ := hR
 rw [show ({ withM y M with replies := rv } : RepT).mirror = M from rfl] at hv
 subst hv
 change TL _ _ _ _ _ _ _ _ _ [blkA r (RepT.cells ({ withM y M with replies := rv })) 104, blkA b16 (ints firstV.flat) 52, blkA b15 (ints y.own.flat) 48, lgP lg d ((((rs).map encR).length : Nat) : Int) ((sizeS ((rs).map encR) : Nat) : Int), dkL d ((rs).map encR), own rv ((rp).length) (ints (List.flatMap ReplyT.flat (rp))) 92 3, outP b10 (l), blkA b5 [(.int .i64 ((c3.getD 0 0))), (.int .i64 ((c3.getD 1 0))), (.int .i64 ((c3.getD 2 0)))] 88]
 refine mv ?_
 refine tp (PV.extract (vs := [(.agg (ints (mirRow M 3).flat).toArray), (.bool (mirSealed M 3))]) rfl rfl rfl) ?_
 refine tp (PV.extract (vs := [(.agg (ints (mirRow M 3).flat).toArray), (.bool (mirSealed M 3))]) rfl rfl rfl) ?_
 refine TL.alloc (Want.plain rfl) rfl rfl rfl z48 (fun b17 => ?_)
 change TL _ _ _ _ _ _ _ _ _ [blkA b17 (ints RowT.zero.flat) 48, blkA r (RepT.cells ({ withM y M with replies := rv })) 104, blkA b16 (ints firstV.flat) 52, blkA b15 (ints y.own.flat) 48, lgP lg d ((((rs).map encR).length : Nat) : Int) ((sizeS ((rs).map encR) : Nat) : Int), dkL d ((rs).map encR), own rv ((rp).length) (ints (List.flatMap ReplyT.flat (rp))) 92 3, outP b10 (l), blkA b5 [(.int .i64 ((c3.getD 0 0))), (.int .i64 ((c3.getD 1 0))), (.int .i64 ((c3.getD 2 0)))] 88]
 refine TL.store (vs := ints (mirRow M 3).flat) (i := 0) (H' := [blkA b17 (ints (mirRow M 3).flat) 48, blkA r (RepT.cells ({ withM y M with replies := rv })) 104, blkA b16 (ints firstV.flat) 52, blkA b15 (ints y.own.flat) 48, lgP lg d ((((rs).map encR).length : Nat) : Int) ((sizeS ((rs).map encR) : Nat) : Int), dkL d ((rs).map encR), own rv ((rp).length) (ints (List.flatMap ReplyT.flat (rp))) 92 3, outP b10 (l), blkA b5 [(.int .i64 ((c3.getD 0 0))), (.int .i64 ((c3.getD 1 0))), (.int .i64 ((c3.getD 2 0)))] 88]) (Want.plain rfl) rfl rfl rfl rfl rfl (by rw [(RowT.len (mirRow M 3))]; exact sz48) (ints_one _) rfl rfl (by have h0 := (RowT.len RowT.zero); have h1 := (RowT.len (mirRow M 3)); omega) (wwhole ((RowT.len RowT.zero).trans (RowT.len (mirRow M 3)).symm)) rfl ?_
 refine sg' ?_
 refine nx J28 ?_
 refine sr fun _ J29 => ?_
 refine mv ?_
 refine tp (PV.indexArr (r := 0) rfl Tryz.underlying88 sz3 rfl rfl (lz rfl) (lz rfl) rfl) ?_
 refine tp (PV.load1 (v := (.int .i64 ((c3.getD 0 0)))) rfl Tryz.underlying3 rfl rfl (Rd.own 8 rfl rfl) rfl) ?_
 refine tp (PV.indexArr (r := 1) rfl Tryz.underlying88 sz3 rfl rfl (lz rfl) (lz rfl) rfl) ?_
 refine tp (PV.load1 (v := (.int .i64 ((c3.getD 1 0)))) rfl Tryz.underlying3 rfl rfl (Rd.own 8 rfl rfl) rfl) ?_
 refine tp (PV.indexArr (r := 2) rfl Tryz.underlying88 sz3 rfl rfl (lz rfl) (lz rfl) rfl) ?_
 refine tp (PV.load1 (v := (.int .i64 ((c3.getD 2 0)))) rfl Tryz.underlying3 rfl rfl (Rd.own 8 rfl rfl) rfl) ?_
 refine TL.callR (A := [dkL d ((rs).map encR)]) (Want.plain rfl) rfl rfl rfl nm31 rfl (crashL_does d (c3.getD 0 0) (c3.getD 1 0) (c3.getD 2 0) ((rs).map encR)) (fun _ s => sep_selR [5] rfl s) (fun _ _ _ => trivial) (fun vR HR hR => ?_)
 obtain rfl := hR
 change TL _ _ _ _ _ _ _ _ _ [dkL d ((rs).map encR), blkA b17 (ints (mirRow M 3).flat) 48, blkA r (RepT.cells ({ withM y M with replies := rv })) 104, blkA b16 (ints firstV.flat) 52, blkA b15 (ints y.own.flat) 48, lgP lg d ((((rs).map encR).length : Nat) : Int) ((sizeS ((rs).map encR) : Nat) : Int), own rv ((rp).length) (ints (List.flatMap ReplyT.flat (rp))) 92 3, outP b10 (l), blkA b5 [(.int .i64 ((c3.getD 0 0))), (.int .i64 ((c3.getD 1 0))), (.int .i64 ((c3.getD 2 0)))] 88]
 refine nx J29 ?_
 refine sr fun _ J30 => ?_
 refine mv ?_
 refine TL.callR (A := [dkL d ((rs).map encR)]) (Want.plain rfl) rfl rfl rfl nm10 rfl (startR_does 0 d rs hQ.2) (fun _ s => s) (fun _ _ _ => trivial) (fun vR HR hR => ?_)
 obtain ⟨r2, lg2, rfl, rfl⟩ := hR
 rw [hQ.1]
 change TL _ _ _ _ _ _ _ _ _ [blkA r2 (RepT.cells (stY lg2 y.own M)) 104, lgP lg2 d (((rs.map encR).length : Nat) : Int) ((sizeS (rs.map encR) : Nat) : Int), dkL d ((rs).map encR), blkA b17 (ints (mirRow M 3).flat) 48, blkA r (RepT.cells ({ withM y M with replies := rv })) 104, blkA b16 (ints firstV.flat) 52, blkA b15 (ints y.own.flat) 48, lgP lg d ((((rs).map encR).length : Nat) : Int) ((sizeS ((rs).map encR) : Nat) : Int), own rv ((rp).length) (ints (List.flatMap ReplyT.flat (rp))) 92 3, outP b10 (l), blkA b5 [(.int .i64 ((c3.getD 0 0))), (.int .i64 ((c3.getD 1 0))), (.int .i64 ((c3.getD 2 0)))] 88]
 refine TL.ownNilI 92 3 (fun _ => ?_)
 refine mv ?_
 refine tp (PV.extract (vs := [(.pointer (some ⟨r2, 0, none⟩)), (.int .i64 0)]) rfl rfl rfl) ?_
 refine tp (PV.extract (vs := [(.pointer (some ⟨r2, 0, none⟩)), (.int .i64 0)]) rfl rfl rfl) ?_
 refine sg' ?_
 refine sg' ?_
 refine nx J30 ?_
 refine TC.seq fun _ J31 => ?_
 refine sr fun _ J32 => ?_
 refine mv ?_
 refine tp (PV.neq rfl rfl rfl) ?_
 refine mv ?_
 refine tq (PV.move rfl rfl) ?_
 refine tq (PV.ptrNil rfl Tryz.underlying24 rfl rfl) ?_
 refine tp (PV.pick rfl rfl rfl) ?_
 refine nx J32 ?_
 refine TC.no rfl ?_
 refine TC.skip ?_
 refine TE.next J31 ?_
 refine sr fun _ J33 => ?_
 refine mv ?_
 refine TL.callR (A := [blkA r2 (RepT.cells (stY lg2 y.own M)) 104]) (Want.plain rfl) rfl rfl rfl nm29 rfl (rMirrored_does r2 (stY lg2 y.own M) 3) (fun _ s => sep_selR [1] rfl s) (fun _ _ _ => trivial) (fun vR HR hR => ?_)
 obtain ⟨hv, rfl⟩ := hR
 rw [show ((stY lg2 y.own M) : RepT).mirror = M from rfl] at hv
 subst hv
 change TL _ _ _ _ _ _ _ _ _ [blkA r2 (RepT.cells (stY lg2 y.own M)) 104, own (.slice none 0 0) (([] : List ReplyT).length) (ints (List.flatMap ReplyT.flat [])) 92 3, lgP lg2 d (((rs.map encR).length : Nat) : Int) ((sizeS (rs.map encR) : Nat) : Int), dkL d ((rs).map encR), blkA b17 (ints (mirRow M 3).flat) 48, blkA r (RepT.cells ({ withM y M with replies := rv })) 104, blkA b16 (ints firstV.flat) 52, blkA b15 (ints y.own.flat) 48, lgP lg d ((((rs).map encR).length : Nat) : Int) ((sizeS ((rs).map encR) : Nat) : Int), own rv ((rp).length) (ints (List.flatMap ReplyT.flat (rp))) 92 3, outP b10 (l), blkA b5 [(.int .i64 ((c3.getD 0 0))), (.int .i64 ((c3.getD 1 0))), (.int .i64 ((c3.getD 2 0)))] 88]
 refine mv ?_
 refine tp (PV.extract (vs := [(.agg (ints (mirRow M 3).flat).toArray), (.bool (mirSealed M 3))]) rfl rfl rfl) ?_
 refine tp (PV.extract (vs := [(.agg (ints (mirRow M 3).flat).toArray), (.bool (mirSealed M 3))]) rfl rfl rfl) ?_
 refine TL.alloc (Want.plain rfl) rfl rfl rfl z48 (fun b21 => ?_)
 change TL _ _ _ _ _ _ _ _ _ [blkA b21 (ints RowT.zero.flat) 48, blkA r2 (RepT.cells (stY lg2 y.own M)) 104, own (.slice none 0 0) (([] : List ReplyT).length) (ints (List.flatMap ReplyT.flat [])) 92 3, lgP lg2 d (((rs.map encR).length : Nat) : Int) ((sizeS (rs.map encR) : Nat) : Int), dkL d ((rs).map encR), blkA b17 (ints (mirRow M 3).flat) 48, blkA r (RepT.cells ({ withM y M with replies := rv })) 104, blkA b16 (ints firstV.flat) 52, blkA b15 (ints y.own.flat) 48, lgP lg d ((((rs).map encR).length : Nat) : Int) ((sizeS ((rs).map encR) : Nat) : Int), own rv ((rp).length) (ints (List.flatMap ReplyT.flat (rp))) 92 3, outP b10 (l), blkA b5 [(.int .i64 ((c3.getD 0 0))), (.int .i64 ((c3.getD 1 0))), (.int .i64 ((c3.getD 2 0)))] 88]
 refine TL.store (vs := ints (mirRow M 3).flat) (i := 0) (H' := [blkA b21 (ints (mirRow M 3).flat) 48, blkA r2 (RepT.cells (stY lg2 y.own M)) 104, own (.slice none 0 0) (([] : List ReplyT).length) (ints (List.flatMap ReplyT.flat [])) 92 3, lgP lg2 d (((rs.map encR).length : Nat) : Int) ((sizeS (rs.map encR) : Nat) : Int), dkL d ((rs).map encR), blkA b17 (ints (mirRow M 3).flat) 48, blkA r (RepT.cells ({ withM y M with replies := rv })) 104, blkA b16 (ints firstV.flat) 52, blkA b15 (ints y.own.flat) 48, lgP lg d ((((rs).map encR).length : Nat) : Int) ((sizeS ((rs).map encR) : Nat) : Int), own rv ((rp).length) (ints (List.flatMap ReplyT.flat (rp))) 92 3, outP b10 (l), blkA b5 [(.int .i64 ((c3.getD 0 0))), (.int .i64 ((c3.getD 1 0))), (.int .i64 ((c3.getD 2 0)))] 88]) (Want.plain rfl) rfl rfl rfl rfl rfl (by rw [(RowT.len (mirRow M 3))]; exact sz48) (ints_one _) rfl rfl (by have h0 := (RowT.len RowT.zero); have h1 := (RowT.len (mirRow M 3)); omega) (wwhole ((RowT.len RowT.zero).trans (RowT.len (mirRow M 3)).symm)) rfl ?_
 refine sg' ?_
 refine nx J33 ?_
 refine TC.seq fun _ J34 => ?_
 refine TC.seq fun _ J35 => ?_
 refine TC.draw (fun w => Frm F w ∧ w.heap[b15]? = some (.cells (ints y.own.flat).toArray 48 (0, 0)) ∧ w.heap[b16]? = some (.cells (ints firstV.flat).toArray 52 (0, 0)) ∧ w.heap[b17]? = some (.cells (ints (mirRow M 3).flat).toArray 48 (0, 0)) ∧ w.heap[b21]? = some (.cells (ints (mirRow M 3).flat).toArray 48 (0, 0)) ∧ True) mixed rfl (fun _ s => ⟨Frm.of s, s.block 8 (lb rfl) rfl, s.block 7 (lb rfl) rfl, s.block 5 (lb rfl) rfl, s.block 0 (lb rfl) rfl, trivial⟩) ?_
 refine ta 0 rfl (PV.move rfl rfl) ?_
 refine ta 2 rfl (PV.loadN (vs := ints y.own.flat) rfl Tryz.underlying48 rfl sz48 rfl (fun _ h => h.2.1) (RowT.len y.own) (whole (RowT.len y.own))) ?_
 refine TD.all [1] (by kernel_rfl) rfl ?_
 refine AllT.cons rfl ?_ ?_
 refine TL.callR (A := [blkA r2 (RepT.cells (stY lg2 y.own M)) 104]) (Want.plain rfl) rfl rfl rfl nm18 rfl (rOwn_does r2 (stY lg2 y.own M)) (fun _ s => sep_selR [1] rfl s) (fun _ _ _ => trivial) (fun vR HR hR => ?_)
 obtain ⟨hv, rfl⟩ := hR
 rw [show ((stY lg2 y.own M) : RepT).own = y.own from rfl] at hv
 subst hv
 change TL _ _ _ _ _ _ _ _ _ [blkA r2 (RepT.cells (stY lg2 y.own M)) 104, blkA b21 (ints (mirRow M 3).flat) 48, own (.slice none 0 0) (([] : List ReplyT).length) (ints (List.flatMap ReplyT.flat [])) 92 3, lgP lg2 d (((rs.map encR).length : Nat) : Int) ((sizeS (rs.map encR) : Nat) : Int), dkL d ((rs).map encR), blkA b17 (ints (mirRow M 3).flat) 48, blkA r (RepT.cells ({ withM y M with replies := rv })) 104, blkA b16 (ints firstV.flat) 52, blkA b15 (ints y.own.flat) 48, lgP lg d ((((rs).map encR).length : Nat) : Int) ((sizeS ((rs).map encR) : Nat) : Int), own rv ((rp).length) (ints (List.flatMap ReplyT.flat (rp))) 92 3, outP b10 (l), blkA b5 [(.int .i64 ((c3.getD 0 0))), (.int .i64 ((c3.getD 1 0))), (.int .i64 ((c3.getD 2 0)))] 88]
 refine TL.nil ?_
 refine TE.draw (fun _ s => ⟨Frm.of s, s.block 8 (lb rfl) rfl, s.block 7 (lb rfl) rfl, s.block 5 (lb rfl) rfl, s.block 1 (lb rfl) rfl, trivial⟩) ?_
 refine ta 3 rfl (PV.neqAgg (a := y.own.flat) (b := y.own.flat) (m := 8) (c := 174) sg48 sk48 rfl fI48 (ints_len (RowT.len y.own)) (ints_len (RowT.len y.own)) ⟨formed_ag fC48 cC48 (ints_len (RowT.len y.own)), formed_ag fC48 cC48 (ints_len (RowT.len y.own))⟩ hwo hwo rfl rfl rfl) ?_
 refine TD.dec (fun h115 => ?_) (fun h115 => ?_)
 · exact absurd rfl h115
 refine ta 4 rfl (PV.move rfl rfl) ?_
 refine tb 5 rfl (PV.move rfl rfl) ?_
 refine tb 7 rfl (PV.loadN (vs := ints firstV.flat) rfl Tryz.underlying52 rfl sz52 rfl (fun _ h => h.2.2.1) (ViewT.len firstV) (whole (ViewT.len firstV))) ?_
 refine TD.all [6] (by kernel_rfl) rfl ?_
 refine AllT.cons rfl ?_ ?_
 refine TL.callR (A := [blkA r2 (RepT.cells (stY lg2 y.own M)) 104]) (Want.met rfl rfl rfl) rfl rfl rfl nm27 rfl (rView_does r2 (stY lg2 y.own M)) (fun _ s => s) (fun _ _ _ => trivial) (fun vR HR hR => ?_)
 obtain ⟨hv, rfl⟩ := hR
 rw [show ((stY lg2 y.own M) : RepT).view = firstV from (by first | exact hI.lone.view | rfl)] at hv
 subst hv
 change TL _ _ _ _ _ _ _ _ _ [blkA r2 (RepT.cells (stY lg2 y.own M)) 104, blkA b21 (ints (mirRow M 3).flat) 48, own (.slice none 0 0) (([] : List ReplyT).length) (ints (List.flatMap ReplyT.flat [])) 92 3, lgP lg2 d (((rs.map encR).length : Nat) : Int) ((sizeS (rs.map encR) : Nat) : Int), dkL d ((rs).map encR), blkA b17 (ints (mirRow M 3).flat) 48, blkA r (RepT.cells ({ withM y M with replies := rv })) 104, blkA b16 (ints firstV.flat) 52, blkA b15 (ints y.own.flat) 48, lgP lg d ((((rs).map encR).length : Nat) : Int) ((sizeS ((rs).map encR) : Nat) : Int), own rv ((rp).length) (ints (List.flatMap ReplyT.flat (rp))) 92 3, outP b10 (l), blkA b5 [(.int .i64 ((c3.getD 0 0))), (.int .i64 ((c3.getD 1 0))), (.int .i64 ((c3.getD 2 0)))] 88]
 refine TL.nil ?_
 refine TE.draw (fun _ s => ⟨Frm.of s, s.block 8 (lb rfl) rfl, s.block 7 (lb rfl) rfl, s.block 5 (lb rfl) rfl, s.block 1 (lb rfl) rfl, trivial⟩) ?_
 refine tb 8 rfl (PV.neqAgg (a := firstV.flat) (b := firstV.flat) (m := 4) (c := 7) sg52 sk52 rfl fI52 (ints_len (ViewT.len firstV)) (ints_len (ViewT.len firstV)) ⟨formed_ag fC52 cC52 (ints_len (ViewT.len firstV)), formed_ag fC52 cC52 (ints_len (ViewT.len firstV))⟩ wf_firstV wf_firstV rfl rfl rfl) ?_
 refine TD.dec (fun h120 => ?_) (fun h120 => ?_)
 · exact absurd rfl h120
 refine ta 9 rfl (PV.pick rfl rfl rfl) ?_
 refine ta 10 rfl (PV.move rfl rfl) ?_
 refine tb 11 rfl (PV.loadN (vs := ints (mirRow M 3).flat) rfl Tryz.underlying48 rfl sz48 rfl (fun _ h => h.2.2.2.2.1) (RowT.len (mirRow M 3)) (whole (RowT.len (mirRow M 3)))) ?_
 refine tb 12 rfl (PV.loadN (vs := ints (mirRow M 3).flat) rfl Tryz.underlying48 rfl sz48 rfl (fun _ h => h.2.2.2.1) (RowT.len (mirRow M 3)) (whole (RowT.len (mirRow M 3)))) ?_
 refine tb 13 rfl (PV.neqAgg (a := (mirRow M 3).flat) (b := (mirRow M 3).flat) (m := 8) (c := 174) sg48 sk48 rfl fI48 (ints_len (RowT.len (mirRow M 3))) (ints_len (RowT.len (mirRow M 3))) ⟨formed_ag fC48 cC48 (ints_len (RowT.len (mirRow M 3))), formed_ag fC48 cC48 (ints_len (RowT.len (mirRow M 3)))⟩ (hM 3) (hM 3) rfl rfl rfl) ?_
 refine TD.dec (fun h125 => ?_) (fun h125 => ?_)
 · exact absurd rfl h125
 refine ta 14 rfl (PV.pick rfl rfl rfl) ?_
 refine ta 15 rfl (PV.move rfl rfl) ?_
 refine tb 16 rfl (PV.move rfl rfl) ?_
 refine tb 17 rfl (PV.move rfl rfl) ?_
 refine tb 18 rfl (PV.neqBo rfl Tryz.underlying4 rfl rfl) ?_
 refine TD.decB (fun h130 => ?_) (fun h130 => ?_)
 · exact absurd h130 (by simp)
 refine ta 19 rfl (PV.pick rfl rfl rfl) ?_
 refine ta 20 rfl (PV.move rfl rfl) ?_
 refine tb 21 rfl (PV.move rfl rfl) ?_
 refine tb 23 rfl (PV.fieldAddr (r := 0) rfl Tryz.underlying48 rfl sz3 rfl rfl) ?_
 refine tb 24 rfl (PV.load1 (v := (.int .i64 (y.own.version))) rfl Tryz.underlying3 rfl rfl (fun _ h => h.2.1) (RowT.at_version y.own rfl)) ?_
 refine tb 25 rfl (PV.gtr rfl rfl rfl) ?_
 refine TD.all [22] (by kernel_rfl) rfl ?_
 refine AllT.cons rfl ?_ ?_
 refine TL.callR (A := [blkA r2 (RepT.cells (stY lg2 y.own M)) 104]) (Want.met rfl rfl rfl) rfl rfl rfl nm14 rfl (rBusy_does r2 (stY lg2 y.own M)) (fun _ s => s) (fun _ _ _ => trivial) (fun vR HR hR => ?_)
 obtain ⟨hv, rfl⟩ := hR
 rw [show ((stY lg2 y.own M) : RepT).busy = decide (0 < y.own.version) from rfl] at hv
 subst hv
 change TL _ _ _ _ _ _ _ _ _ [blkA r2 (RepT.cells (stY lg2 y.own M)) 104, blkA b21 (ints (mirRow M 3).flat) 48, own (.slice none 0 0) (([] : List ReplyT).length) (ints (List.flatMap ReplyT.flat [])) 92 3, lgP lg2 d (((rs.map encR).length : Nat) : Int) ((sizeS (rs.map encR) : Nat) : Int), dkL d ((rs).map encR), blkA b17 (ints (mirRow M 3).flat) 48, blkA r (RepT.cells ({ withM y M with replies := rv })) 104, blkA b16 (ints firstV.flat) 52, blkA b15 (ints y.own.flat) 48, lgP lg d ((((rs).map encR).length : Nat) : Int) ((sizeS ((rs).map encR) : Nat) : Int), own rv ((rp).length) (ints (List.flatMap ReplyT.flat (rp))) 92 3, outP b10 (l), blkA b5 [(.int .i64 ((c3.getD 0 0))), (.int .i64 ((c3.getD 1 0))), (.int .i64 ((c3.getD 2 0)))] 88]
 refine TL.nil ?_
 refine TE.draw (fun _ s => ⟨Frm.of s, s.block 8 (lb rfl) rfl, s.block 7 (lb rfl) rfl, s.block 5 (lb rfl) rfl, s.block 1 (lb rfl) rfl, trivial⟩) ?_
 refine tb 26 rfl (PV.neqBo rfl Tryz.underlying4 rfl rfl) ?_
 refine TD.decB (fun h138 => ?_) (fun h138 => ?_)
 · exact absurd h138 (by simp)
 refine ta 27 rfl (PV.pick rfl rfl rfl) ?_
 refine ta 28 rfl (PV.move rfl rfl) ?_
 refine tb 29 rfl (PV.move rfl rfl) ?_
 refine TD.all [30] (by kernel_rfl) rfl ?_
 refine AllT.cons rfl ?_ ?_
 refine TL.callR (A := [blkA r2 (RepT.cells (stY lg2 y.own M)) 104, own (.slice none 0 0) (([] : List ReplyT).length) (ints (List.flatMap ReplyT.flat [])) 92 3]) (Want.met rfl rfl rfl) rfl rfl rfl nm15 rfl (replies_does r2 (stY lg2 y.own M) [] (by decide)) (fun _ s => sep_selR [0, 1] rfl s) (fun _ _ _ => trivial) (fun vR HR hR => ?_)
 obtain ⟨_, rfl, rfl⟩ := hR
 revert vR
 intro uz
 change TL _ _ _ _ _ _ _ _ _ [blkA r2 (RepT.cells (stY lg2 y.own M)) 104, own (.slice none 0 0) (([] : List ReplyT).length) (ints (List.flatMap ReplyT.flat [])) 92 3, own uz (0) (ints (List.flatMap ReplyT.flat [])) 92 3, blkA b21 (ints (mirRow M 3).flat) 48, lgP lg2 d (((rs.map encR).length : Nat) : Int) ((sizeS (rs.map encR) : Nat) : Int), dkL d ((rs).map encR), blkA b17 (ints (mirRow M 3).flat) 48, blkA r (RepT.cells ({ withM y M with replies := rv })) 104, blkA b16 (ints firstV.flat) 52, blkA b15 (ints y.own.flat) 48, lgP lg d ((((rs).map encR).length : Nat) : Int) ((sizeS ((rs).map encR) : Nat) : Int), own rv ((rp).length) (ints (List.flatMap ReplyT.flat (rp))) 92 3, outP b10 (l), blkA b5 [(.int .i64 ((c3.getD 0 0))), (.int .i64 ((c3.getD 1 0))), (.int .i64 ((c3.getD 2 0)))] 88]
 refine TL.ownLen 2 rfl rfl (fun hluz _ => ?_)
 refine TL.nil ?_
 refine TE.draw (fun _ s => ⟨Frm.of s, s.block 9 (lb rfl) rfl, s.block 8 (lb rfl) rfl, s.block 6 (lb rfl) rfl, s.block 3 (lb rfl) rfl, trivial⟩) ?_
 refine tb 31 rfl (PV.lenV rfl Tryz.underlying55 rfl hluz) ?_
 refine tb 32 rfl (PV.neq rfl rfl rfl) ?_
 refine ta 33 rfl (PV.pick rfl rfl rfl) ?_
 refine TD.done (by kernel_rfl) ?_
 refine TE.next J35 ?_
 refine TC.no rfl ?_
 refine TC.skip ?_
 refine TE.next J34 ?_
 refine sr fun _ J36 => ?_
 refine mv ?_
 refine TL.callR (A := [blkA r2 (RepT.cells (stY lg2 y.own M)) 104, own (.slice none 0 0) (([] : List ReplyT).length) (ints (List.flatMap ReplyT.flat [])) 92 3, outP b10 (l)]) (Want.plain rfl) rfl rfl rfl nm17 rfl (keepL_does r2 b10 lg2 (stY lg2 y.own M) (.slice none 0 0) 0 [] (l) (stY_lone hI.lone.own lg2 M) (by decide) (by omega) (by omega) (by decide)) (fun _ s => sep_selR [0, 0, 10] rfl s) (fun _ _ _ => trivial) (fun vR HR hR => ?_)
 obtain ⟨vz, hvz, rfl⟩ := hR
 change TL _ _ _ _ _ _ _ _ _ [blkA r2 (RepT.cells ({ keepX (stY lg2 y.own M) 0 with replies := vz })) 104, own vz ((keepR (stY lg2 y.own M) 0 ([])).length) (ints (List.flatMap ReplyT.flat (keepR (stY lg2 y.own M) 0 ([])))) 92 3, outP b10 (l ++ keepO (stY lg2 y.own M) 0), own uz (0) (ints (List.flatMap ReplyT.flat [])) 92 3, blkA b21 (ints (mirRow M 3).flat) 48, lgP lg2 d (((rs.map encR).length : Nat) : Int) ((sizeS (rs.map encR) : Nat) : Int), dkL d ((rs).map encR), blkA b17 (ints (mirRow M 3).flat) 48, blkA r (RepT.cells ({ withM y M with replies := rv })) 104, blkA b16 (ints firstV.flat) 52, blkA b15 (ints y.own.flat) 48, lgP lg d ((((rs).map encR).length : Nat) : Int) ((sizeS ((rs).map encR) : Nat) : Int), own rv ((rp).length) (ints (List.flatMap ReplyT.flat (rp))) 92 3, blkA b5 [(.int .i64 ((c3.getD 0 0))), (.int .i64 ((c3.getD 1 0))), (.int .i64 ((c3.getD 2 0)))] 88]
 refine nx J36 ?_
 refine sr fun _ J37 => ?_
 refine mv ?_
 refine TL.callR (A := [blkA r2 (RepT.cells ({ keepX (stY lg2 y.own M) 0 with replies := vz })) 104]) (Want.plain rfl) rfl rfl rfl nm14 rfl (rBusyL_does r2 (keepX (stY lg2 y.own M) 0) vz) (fun _ s => s) (fun _ _ _ => trivial) (fun vR HR hR => ?_)
 obtain ⟨hv, rfl⟩ := hR
 rw [stY_keep] at hv
 subst hv
 change TL _ _ _ _ _ _ _ _ _ [blkA r2 (RepT.cells ({ keepX (stY lg2 y.own M) 0 with replies := vz })) 104, own vz ((keepR (stY lg2 y.own M) 0 ([])).length) (ints (List.flatMap ReplyT.flat (keepR (stY lg2 y.own M) 0 ([])))) 92 3, outP b10 (l ++ keepO (stY lg2 y.own M) 0), own uz (0) (ints (List.flatMap ReplyT.flat [])) 92 3, blkA b21 (ints (mirRow M 3).flat) 48, lgP lg2 d (((rs.map encR).length : Nat) : Int) ((sizeS (rs.map encR) : Nat) : Int), dkL d ((rs).map encR), blkA b17 (ints (mirRow M 3).flat) 48, blkA r (RepT.cells ({ withM y M with replies := rv })) 104, blkA b16 (ints firstV.flat) 52, blkA b15 (ints y.own.flat) 48, lgP lg d ((((rs).map encR).length : Nat) : Int) ((sizeS ((rs).map encR) : Nat) : Int), own rv ((rp).length) (ints (List.flatMap ReplyT.flat (rp))) 92 3, blkA b5 [(.int .i64 ((c3.getD 0 0))), (.int .i64 ((c3.getD 1 0))), (.int .i64 ((c3.getD 2 0)))] 88]
 refine tp (PV.not (r := true) rfl rfl rfl) ?_
 refine sg' ?_
 refine nx J37 ?_
 refine TC.ret ?_
 refine TE.weak (Sub.refl _) (fun _ s => sep_keep [] rfl s) ?_
 refine TE.ret1 rfl rfl ?_
 exact ⟨rfl, rfl⟩
 exact AllT.nil
 exact AllT.nil
 exact AllT.nil
 exact AllT.nil
theorem replicaStarts_list (x z : Value) (l0 : List (List Int)) (l1 : List RowT) (c3 : List Int) (h : c3.length = 3) : Does Tryz.prog 7 #[x, z, .agg (ints c3).toArray] (fun g => IsL 4 EA x l0 g ∧ IsL 174 ER z l1 g) [] (Ret (fun r' H => r' = .bool true ∧ H = [])) := by
  obtain ⟨a, b, c, rfl⟩ := three h
  have e : (Value.agg (ints [a, b, c]).toArray) = .agg #[.int .i64 ([a, b, c].getD 0 0), .int .i64 ([a, b, c].getD 1 0), .int .i64 ([a, b, c].getD 2 0)] := rfl
  rw [e]
  exact replicaStarts_does x l0 z l1 [a, b, c]

end Go.Proofs.YtfceaphohlbnbaaGreat
end

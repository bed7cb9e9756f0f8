/-
  Logs in plain words: what Open and Put come to.
-/
import Derived.Test.YtdekgkmbcdlekaaWalP
import Derived.Test.YtdekgkmbcdlekaaLegS
namespace Wal
open Go Leg Codec Api Dsk

theorem isB_bunch (i : Nat) {us : List Value} {ls : List (List UInt8)} {e k : Nat} {B : List HP} {F : Hl} (hk : k < ls.length) (hi : Nat.blt i B.length = true) (hH : B.getD i (fun _ => True) = bunch us ls e) : ∀ g, Dj g F → sep B g → IsB (us.getD k undef) ls[k] (jn g F) := fun g d s => by
  obtain ⟨h1, h2, d', rfl, a, _⟩ := sep_get i (lb hi) s
  rw [hH] at a
  obtain ⟨hl, a⟩ := a
  obtain ⟨u, e1, k1, k2, dk, rfl, a3⟩ := bunch_at us ls e _ hl a k hk
  rw [List.getD_eq_getElem?_getD, e1]
  exact subB_isB a3 fun b o e => jn_some (jn_some (jn_some e))
theorem In.read {s ws : Secs} (h1 : In s) (h2 : In ws) (at' : Int) (h : ¬ (0 ≤ at' ∧ at' < 2048)) : ∀ k, k ≤ ws.length → readN s ws at' k = zs
  | 0, _ => by
    show sget s at' = zs
    induction s with
    | nil => rfl
    | cons p s ih =>
      obtain ⟨a, b⟩ := p
      simp only [sget]
      have hh := h1 (a, b) (by simp)
      rw [if_neg (fun e => h (by simp only at hh; omega))]
      exact ih fun q hq => h1 q (by simp [hq])
  | k + 1, hk => by
    simp only [readN]
    rw [if_neg, In.read h1 h2 at' h k (by omega)]
    intro e
    rw [wat_eq (by omega)] at e
    have hh := h2 ws[k] (List.getElem_mem _)
    exact h (by omega)
theorem DS.In.read {D : DS} (h : Wal.DS.In D) {at' : Int} (h2 : ¬ (0 ≤ at' ∧ at' < 2048)) : D.read at' = zs := Wal.In.read h.1 h.2 at' h2 _ (Nat.le_refl _)
theorem pieceP_zs (number place : Int) : pieceP zs number place = none := pieceP_end (by decide)
theorem moreP_some {rd : Int → Sec} {number at' all : Int} : ∀ (m : Nat) {b : List UInt8}, moreP rd number at' all m = some b → ∀ k, k < m → ∃ x, pieceP (rd (at' + k)) number k = some (x, all)
  | 0, _, _, k, hk => by omega
  | m + 1, b, h, k, hk => by
    simp only [moreP] at h
    split at h
    · cases h
    · rename_i b' hb
      split at h
      · cases h
      · rename_i x same hx
        split at h
        · rename_i hs
          by_cases e : k = m
          · subst e; exact ⟨x, by rw [hx, hs]⟩
          · exact moreP_some m hb k (by omega)
        · cases h
theorem standsP_facts {rd : Int → Sec} {number at' all : Int} {b : List UInt8} (hl : (rd at').length = 64) (h : standsP rd number at' = some (b, all)) : 0 < all ∧ all ≤ 255 ∧ ∀ k : Nat, (k : Int) < all → ∃ x, pieceP (rd (at' + k)) number k = some (x, all) := by
  unfold standsP at h
  split at h
  · cases h
  · rename_i x al hp
    obtain ⟨f1, f2, _⟩ := pieceP_facts hl hp
    obtain ⟨c, hc, e⟩ := Option.map_eq_some_iff.1 h
    injection e with e1 e2
    subst e1; subst e2
    exact ⟨f1, f2, fun k hk => moreP_some _ hc k (by omega)⟩
theorem standsP_room {D : DS} (hI : Wal.DS.In D) (hD : D.Ok) {number at' all : Int} {b : List UInt8} (h0 : 0 ≤ at') (h : standsP D.read number at' = some (b, all)) : at' + all ≤ 2048 := by
  obtain ⟨f1, f2, f3⟩ := standsP_facts (DS.read_len hD _) h
  obtain ⟨x, hx⟩ := f3 (all - 1).toNat (by omega)
  by_cases q : at' + all ≤ 2048
  · exact q
  · rw [DS.In.read hI (by omega), pieceP_zs] at hx; cases hx
theorem scan_stop {rd : Int → Sec} {f : Nat} {cnt used : Int} (h : standsP rd (cnt + 1) used = none) : scanP rd f cnt used = ([], used) := by
  cases f with
  | zero => rfl
  | succ f => simp only [scanP, h]
theorem scan_go {rd : Int → Sec} {f : Nat} {cnt used all : Int} {b : List UInt8} (h : standsP rd (cnt + 1) used = some (b, all)) : scanP rd (f + 1) cnt used = (b :: (scanP rd f (cnt + 1) (used + all)).1, (scanP rd f (cnt + 1) (used + all)).2) := by simp only [scanP, h]
/-- What is known while records are scanned. -/
def Scan (D : DS) (f : Nat) (rs : List (List UInt8)) (used : Int) : Prop :=
  scanP D.read fuel0 0 0 = (rs ++ (scanP D.read f rs.length used).1, (scanP D.read f rs.length used).2) ∧ 0 ≤ used ∧ used ≤ 2048 ∧ 2049 ≤ (f : Int) + used ∧ (rs.length : Int) ≤ used
theorem Scan.start (D : DS) : Scan D fuel0 [] 0 := by
  refine ⟨?_, by omega, by omega, by rw [fuel0_eq]; omega, by simp⟩
  have e : ((([] : List (List UInt8)).length : Nat) : Int) = 0 := rfl
  rw [List.nil_append, e]

theorem Scan.next {D : DS} (hI : Wal.DS.In D) (hD : D.Ok) {f : Nat} {rs : List (List UInt8)} {used all : Int} {b : List UInt8} (h : Scan D f rs used) (h2 : standsP D.read ((rs.length : Int) + 1) used = some (b, all)) : ∃ f', f = f' + 1 ∧ Scan D f' (rs ++ [b]) (used + all) := by
  obtain ⟨h1, h0, h3, h4, h5⟩ := h
  have hr := standsP_room hI hD h0 h2
  have hf := (standsP_facts (DS.read_len hD _) h2).1
  obtain ⟨f', rfl⟩ : ∃ f', f = f' + 1 := ⟨f - 1, by omega⟩
  refine ⟨f', rfl, ?_, by omega, by omega, by omega, by simp; omega⟩
  rw [h1, scan_go h2]
  simp
theorem Scan.stop {D : DS} {f : Nat} {rs : List (List UInt8)} {used : Int} (h : Scan D f rs used) (h2 : standsP D.read ((rs.length : Int) + 1) used = none) : scanP D.read fuel0 0 0 = (rs, used) := by
  rw [h.1, scan_stop h2]; simp
theorem wipe_end {D : DS} {at' : Int} (h : 2048 ≤ at') : wipeP (2048 - at').toNat at' D = (0, D) := by rw [show (2048 - at').toNat = 0 by omega]; rfl
theorem wipe_skip {D : DS} {at' : Int} (h : at' < 2048) (h2 : D.read at' = zs) : wipeP (2048 - at').toNat at' D = wipeP (2048 - (at' + 1)).toNat (at' + 1) D := by
  rw [show (2048 - at').toNat = (2048 - (at' + 1)).toNat + 1 by omega, wipeP, if_pos h2]
theorem wipe_go {D : DS} {at' : Int} (h : at' < 2048) (h2 : D.read at' ≠ zs) (h3 : (D.write at' []).1 = 0) : wipeP (2048 - at').toNat at' D = wipeP (2048 - (at' + 1)).toNat (at' + 1) (D.write at' []).2 := by
  rw [show (2048 - at').toNat = (2048 - (at' + 1)).toNat + 1 by omega, wipeP, if_neg h2, if_pos h3]
theorem wipe_fail {D : DS} {at' : Int} (h : at' < 2048) (h2 : D.read at' ≠ zs) (h3 : (D.write at' []).1 ≠ 0) : wipeP (2048 - at').toNat at' D = D.write at' [] := by
  rw [show (2048 - at').toNat = (2048 - (at' + 1)).toNat + 1 by omega, wipeP, if_neg h2, if_neg h3]
theorem open_fail1 {D D' : DS} {rs : List (List UInt8)} {used e : Int} (h : scanP D.read fuel0 0 0 = (rs, used)) (h2 : wipeP (2048 - used).toNat used D = (e, D')) (h3 : e ≠ 0) : openP D = ⟨e, [], 0, D'⟩ := by
  simp only [openP, h, h2]
  rw [if_pos h3]
theorem open_fail2 {D D' : DS} {rs : List (List UInt8)} {used : Int} (h : scanP D.read fuel0 0 0 = (rs, used)) (h2 : wipeP (2048 - used).toNat used D = (0, D')) (h3 : D'.sync.1 ≠ 0) : openP D = ⟨D'.sync.1, [], 0, D'.sync.2⟩ := by
  simp only [openP, h, h2, ne_eq, not_true_eq_false, if_false]
  rw [if_pos h3]
theorem open_ok {D D' : DS} {rs : List (List UInt8)} {used : Int} (h : scanP D.read fuel0 0 0 = (rs, used)) (h2 : wipeP (2048 - used).toNat used D = (0, D')) (h3 : D'.sync.1 = 0) : openP D = ⟨0, rs, used, D'.sync.2⟩ := by
  simp only [openP, h, h2, ne_eq, not_true_eq_false, if_false]
  rw [if_neg (by simp [h3])]
/-! ### Put -/
def writesP : List Sec → Int → DS → Int × DS
  | [], _, D => (0, D)
  | s :: ss, at', D => if (D.write at' s).1 = 0 then writesP ss (at' + 1) (D.write at' s).2 else D.write at' s
structure PutR where
  err : Int
  cnt : Nat
  used : Int
  D : DS
def putL (D : DS) (cnt : Nat) (used : Int) (bs : List UInt8) : PutR :=
  if 3000 < bs.length then ⟨2, cnt, used, D⟩
  else if (piecesN bs.length : Int) > 2048 - used then ⟨3, cnt, used, D⟩
  else
    let w := writesP (sectorsP ((cnt + 1 : Nat) : Int) bs) used D
    if w.1 ≠ 0 then ⟨w.1, cnt, used, w.2⟩ else if w.2.sync.1 ≠ 0 then ⟨w.2.sync.1, cnt, used, w.2.sync.2⟩ else ⟨0, cnt + 1, used + piecesN bs.length, w.2.sync.2⟩
theorem writes_step {ss : List Sec} {at' : Int} {D : DS} {k : Nat} (hk : k < ss.length) (h : (D.write (at' + k) ss[k]).1 = 0) : writesP (ss.drop k) (at' + k) D = writesP (ss.drop (k + 1)) (at' + (k + 1 : Nat)) (D.write (at' + k) ss[k]).2 := by
  rw [List.drop_eq_getElem_cons hk, writesP, if_pos h]
  congr 1
  omega
theorem writes_fail {ss : List Sec} {at' : Int} {D : DS} {k : Nat} (hk : k < ss.length) (h : (D.write (at' + k) ss[k]).1 ≠ 0) : writesP (ss.drop k) (at' + k) D = D.write (at' + k) ss[k] := by
  rw [List.drop_eq_getElem_cons hk, writesP, if_neg h]
section
variable {D D' : DS} {cnt : Nat} {used : Int} {bs : List UInt8}
theorem put_long (h : 3000 < bs.length) : putL D cnt used bs = ⟨2, cnt, used, D⟩ := by rw [putL, if_pos h]
theorem put_full (h : ¬ 3000 < bs.length) (h2 : (piecesN bs.length : Int) > 2048 - used) : putL D cnt used bs = ⟨3, cnt, used, D⟩ := by rw [putL, if_neg h, if_pos h2]
theorem put_fail1 {e : Int} (h : ¬ 3000 < bs.length) (h2 : ¬ (piecesN bs.length : Int) > 2048 - used) (h3 : writesP (sectorsP ((cnt + 1 : Nat) : Int) bs) used D = (e, D')) (h4 : e ≠ 0) : putL D cnt used bs = ⟨e, cnt, used, D'⟩ := by
  rw [putL, if_neg h, if_neg h2]
  simp only [h3]
  rw [if_pos h4]
theorem put_fail2 (h : ¬ 3000 < bs.length) (h2 : ¬ (piecesN bs.length : Int) > 2048 - used) (h3 : writesP (sectorsP ((cnt + 1 : Nat) : Int) bs) used D = (0, D')) (h4 : D'.sync.1 ≠ 0) : putL D cnt used bs = ⟨D'.sync.1, cnt, used, D'.sync.2⟩ := by
  rw [putL, if_neg h, if_neg h2]
  simp only [h3, ne_eq, not_true_eq_false, if_false]
  rw [if_pos h4]
theorem put_ok (h : ¬ 3000 < bs.length) (h2 : ¬ (piecesN bs.length : Int) > 2048 - used) (h3 : writesP (sectorsP ((cnt + 1 : Nat) : Int) bs) used D = (0, D')) (h4 : D'.sync.1 = 0) : putL D cnt used bs = ⟨0, cnt + 1, used + piecesN bs.length, D'.sync.2⟩ := by
  rw [putL, if_neg h, if_neg h2]
  simp only [h3, ne_eq, not_true_eq_false, if_false]
  rw [if_neg (by simp [h4])]
end
end Wal

/-
  Layer 7's statements: what is left of the plain law; lists of slices that are lent.
-/
import Derived.Test.YtocdameafihnaaaWalR
namespace Wal
open Go Leg Codec Api Dsk

theorem LogD.arm {D : DS} {ls : List (List UInt8)} (h : LogD D ls) {n : Int} (hn : n ≤ 9223372036854775807) : LogD (D.arm n) ls := ⟨DS.arm_ok h.ok hn, h.inn, h.ws, h.short, h.room, h.shows, h.zero⟩
theorem LogD.calm {D : DS} {ls : List (List UInt8)} (h : LogD D ls) (ha : D.ar = false) (hd : D.dn = false) : Calm D := ⟨h.ok, h.inn, ha, hd⟩
/-- What a disk may be like when it crashes: perhaps one more record is under way. -/
def Pre (D : DS) (ls : List (List UInt8)) (nx : Option (List UInt8)) : Prop := LogD D ls ∨ ∃ bs, nx = some bs ∧ Half D ls bs
theorem Pre.ok {D : DS} {ls : List (List UInt8)} {nx : Option (List UInt8)} (h : Pre D ls nx) : D.Ok := by
  rcases h with h | ⟨bs, _, h⟩
  · exact h.ok
  · exact h.ok
theorem Pre.open {D : DS} {ls : List (List UInt8)} {nx : Option (List UInt8)} (h : Pre D ls nx) (mask torn n : Int) : Calm (D.crash mask torn n) ∧ ∃ D' ls', (ls' = ls ∨ ∃ bs, nx = some bs ∧ ls' = ls ++ [bs]) ∧ openP (D.crash mask torn n) = ⟨0, ls', ((sizeS ls' : Nat) : Int), D'⟩ ∧ LogD D' ls' ∧ D'.ar = false ∧ D'.dn = false := by
  rcases h with h | ⟨bs, e, h⟩
  · obtain ⟨h1, h2, h3⟩ := h.crash mask torn n
    obtain ⟨D', r⟩ := h1.open h2 h3
    exact ⟨h1.calm h2 h3, D', ls, .inl rfl, r⟩
  · obtain ⟨c, h1, h2⟩ := h.crash mask torn n
    obtain ⟨D', ls', hl, r⟩ := open_mixed c h.short h.short' h.room h1 h2
    exact ⟨c, D', ls', hl.imp id fun q => ⟨bs, e, q⟩, r⟩
/-! ### Opened twice -/
theorem more_congr {rd rd' : Int → Sec} {number at' all : Int} : ∀ m, (∀ k : Nat, k < m → rd' (at' + k) = rd (at' + k)) → moreP rd' number at' all m = moreP rd number at' all m
  | 0, _ => rfl
  | m + 1, h => by simp only [moreP, more_congr m (fun k hk => h k (by omega)), h m (by omega)]
theorem stands_congr {rd rd' : Int → Sec} {number at' all : Int} {b : List UInt8} (hl : (rd at').length = 64) (h : standsP rd number at' = some (b, all)) (he : ∀ j, at' ≤ j → j < at' + all → rd' j = rd j) : standsP rd' number at' = some (b, all) := by
  have hf := standsP_facts hl h
  cases hp : pieceP (rd at') number 0 with
  | none => rw [standsP_none1 hp] at h; cases h
  | some p =>
    obtain ⟨x, al⟩ := p
    simp only [standsP, hp] at h
    obtain ⟨c, hc, e⟩ := Option.map_eq_some_iff.1 h
    injection e with e1 e2
    subst e1; subst e2
    have hp' : pieceP (rd' at') number 0 = some (x, al) := by rw [he at' (Int.le_refl _) (by omega)]; exact hp
    exact standsP_some hp' (by rw [more_congr al.toNat (fun k hk => he _ (by omega) (by omega))]; exact hc)
theorem scan_mono {rd : Int → Sec} (hl : ∀ j, (rd j).length = 64) : ∀ (f : Nat) (cnt used : Int), used ≤ (scanP rd f cnt used).2
  | 0, _, _ => Int.le_refl _
  | f + 1, cnt, used => by
    cases h : standsP rd (cnt + 1) used with
    | none => rw [scan_stop h]; exact Int.le_refl _
    | some p =>
      obtain ⟨b, all⟩ := p
      rw [scan_go h]
      have h1 := (standsP_facts (hl _) h).1
      have h2 := scan_mono hl f (cnt + 1) (used + all)
      simp only
      omega
theorem scan_same {rd rd' : Int → Sec} (hl : ∀ j, (rd j).length = 64) : ∀ (f : Nat) (cnt used : Int), (∀ j, used ≤ j → j < (scanP rd f cnt used).2 → rd' j = rd j) → (rd' (scanP rd f cnt used).2).getD 63 0 ≠ 1 → scanP rd' f cnt used = scanP rd f cnt used
  | 0, _, _, _, _ => rfl
  | f + 1, cnt, used, he, hz => by
    cases h : standsP rd (cnt + 1) used with
    | none =>
      rw [scan_stop h] at hz ⊢
      exact scan_stop (stands_zs hz)
    | some p =>
      obtain ⟨b, all⟩ := p
      rw [scan_go h] at hz he ⊢
      simp only at hz he
      have h2 := scan_mono hl f (cnt + 1) (used + all)
      have h1 := (standsP_facts (hl _) h).1
      rw [scan_go (stands_congr (hl _) h fun j h3 h4 => he j h3 (by omega)), scan_same hl f (cnt + 1) (used + all) (fun j h3 h4 => he j (by omega) h4) hz]
theorem open_twice {D : DS} (h : Calm D) : ∃ D', openP D = ⟨0, (scanP D.read fuel0 0 0).1, (scanP D.read fuel0 0 0).2, D'⟩ ∧ Calm D' ∧ D'.ws = [] ∧ scanP D'.read fuel0 0 0 = scanP D.read fuel0 0 0 := by
  obtain ⟨D', e, c, hw, hr⟩ := open_calm h
  obtain ⟨h1, h2, _⟩ := scan_used h
  refine ⟨D', e, c, hw, scan_same (fun j => DS.read_len h.ok j) _ _ _ (fun j h3 h4 => by rw [hr, if_neg (by omega)]) ?_⟩
  by_cases q : (scanP D.read fuel0 0 0).2 < 2048
  · rw [hr, if_pos ⟨Int.le_refl _, q⟩]; exact zs_end
  · rw [DS.In.read c.inn (by omega)]; exact zs_end
/-! ### A sector that was changed -/
theorem open_cut {D : DS} {l : List (List UInt8)} (h : LogD D l) (ha : D.ar = false) (hd : D.dn = false) {at' : Nat} {b : List UInt8} {n : Nat} (hb : b.length ≤ 40) (hn : n < l.length) (h1 : sizeS (l.take n) ≤ at') (h2 : at' < sizeS (l.take (n + 1))) :
    ∃ D1 D2, D.write (at' : Int) b = (0, D1) ∧ D1.Ok ∧ D1.ws.length = 1 ∧ D1.sync = (0, D2) ∧ Calm D2 ∧ D2.ws = [] ∧ ∃ D' used, openP D2 = ⟨0, l.take n, used, D'⟩ := by
  have hsz : sizeS l ≤ 2048 := h.room
  have hlt : sizeS (l.take (n + 1)) ≤ sizeS l := by
    have := sizeS_append (l.take (n + 1)) (l.drop (n + 1))
    rw [List.take_append_drop] at this; omega
  have hw := write_putD (D := D) (at' := (at' : Int)) (bs := b) (by omega) (by omega) hd (.inl ha)
  have c := (h.calm ha hd).put (at' := (at' : Int)) (bs := b) (by omega) (by omega)
  obtain ⟨s1, s2, s3, s4, s5⟩ := sync_zero c.dn
  refine ⟨_, (putD D at' b).sync.2, hw, c.ok, by simp [putD, h.ws], by rw [← s1], c.sync, s2, ?_⟩
  have hr : ∀ j, (putD D at' b).sync.2.read j = if j = at' then padS b else D.read j := fun j => by rw [sync_read c.dn, putD_read]
  obtain ⟨D', e, _⟩ := open_calm c.sync
  have hge := h.len
  have htl : (l.take n).length = n := by rw [List.length_take]; omega
  obtain ⟨f, hf⟩ : ∃ f, fuel0 = (l.take n).length + f := ⟨fuel0 - n, by rw [fuel0_eq]; omega⟩
  have hshow : Shows D.read 0 (flatS 0 (l.take n ++ l[n] :: l.drop (n + 1))) := by
    rw [← List.drop_eq_getElem_cons hn, List.take_append_drop]; exact h.shows
  rw [flatS_append, htl, flatS] at hshow
  have hp1 : Shows (putD D at' b).sync.2.read 0 (flatS 0 (l.take n)) := fun j hj => by
    rw [hr, if_neg (by simp only [sizeS] at h1; omega)]; exact hshow.left j hj
  have sc := scan_log (rd := (putD D at' b).sync.2.read) (l.take n) 0 0 f (fun b hb => h.short b (List.mem_of_mem_take hb)) (by omega) hp1
  rw [← hf, show ((0 : Nat) : Int) = 0 from rfl, Int.zero_add, htl, Nat.zero_add, show (((flatS 0 (l.take n)).length : Nat) : Int) = ((sizeS (l.take n) : Nat) : Int) from rfl] at sc
  have hsec : Shows D.read ((sizeS (l.take n) : Nat) : Int) (sectorsP ((n + 1 : Nat) : Int) l[n]) := by
    have := hshow.right.left
    rwa [Int.zero_add, Nat.zero_add] at this
  have hsz2 : sizeS (l.take (n + 1)) = sizeS (l.take n) + piecesN l[n].length := by
    rw [List.take_succ_eq_append_getElem hn, sizeS_add]
  have hshort := h.short l[n] (List.getElem_mem hn)
  have hss : (sectorsP ((n + 1 : Nat) : Int) l[n]).length = piecesN l[n].length := sectorsP_len _ _
  have hbad : (padS b).getD 63 0 ≠ 1 := by
    simp only [padS, List.getD_eq_getElem?_getD]
    rw [List.getElem?_append_right (by omega), List.getElem?_replicate]
    split <;> decide
  have hnone : standsP (putD D at' b).sync.2.read (((n : Nat) : Int) + 1) ((sizeS (l.take n) : Nat) : Int) = none := by
    by_cases q : at' = sizeS (l.take n)
    · refine stands_zs ?_
      rw [hr, if_pos (by omega)]; exact hbad
    · have h0 : 0 < (sectorsP ((n + 1 : Nat) : Int) l[n]).length := by rw [hss]; exact piecesN_pos _
      have e0 := hsec 0 h0
      rw [show ((sizeS (l.take n) : Nat) : Int) + ((0 : Nat) : Int) = ((sizeS (l.take n) : Nat) : Int) by omega] at e0
      have hp : pieceP ((putD D at' b).sync.2.read ((sizeS (l.take n) : Nat) : Int)) (((n : Nat) : Int) + 1) 0 = some (partP l[n] 0, ((piecesN l[n].length : Nat) : Int)) := by
        rw [hr, if_neg (by omega), e0]
        exact piece_sect h0 (by omega) (by omega) hshort
      refine standsP_none2 hp (moreP_stop (k := at' - sizeS (l.take n)) (.inl ?_) _ (by omega))
      rw [hr, if_pos (by omega)]
      exact pieceP_end hbad
  rw [scan_stop hnone] at sc
  refine ⟨D', ((sizeS (l.take n) : Nat) : Int), ?_⟩
  rw [e, sc]; simp
theorem sizeS_step {l : List (List UInt8)} {n : Nat} (h : n < l.length) : sizeS (l.take (n + 1)) = sizeS (l.take n) + piecesN l[n].length := by rw [List.take_succ_eq_append_getElem h, sizeS_add]
theorem pieces_max (m : Nat) : ((piecesN m : Nat) : Int) = max (((m + 51) / 52 : Nat) : Int) 1 := by unfold piecesN; split <;> omega
end Wal
namespace Leg
open Go Codec Api
/-- The first elements of a list of slices of bytes. -/
theorem IsL.cut {α : Type} {E : List Value → α → Hl → Prop} {v : Value} {l : List α} {F : Hl} (h : IsL 1 E v l F) {m : Nat} (hm : m ≤ l.length) : IsL 1 E (cutLH v 0 m) (l.take m) F := by
  have hl : (l.take m).length = m := by rw [List.length_take]; omega
  rcases h with ⟨rfl, rfl⟩ | ⟨a, c, rfl, rfl⟩ | ⟨b, off, cap, cs, T, z, rfl, h1, h2, h3, h4⟩
  · have : m = 0 := by simpa using hm
    subst this
    exact .inl ⟨rfl, rfl⟩
  · have : m = 0 := by simpa using hm
    subst this
    refine .inr (.inl ?_)
    simp only [cutLH]
    split
    · exact ⟨_, _, rfl, rfl⟩
    · exact ⟨_, _, rfl, rfl⟩
  · by_cases e : m = 0
    · subst e
      refine .inr (.inl ?_)
      simp only [cutLH]
      split
      · exact ⟨_, _, rfl, rfl⟩
      · exact ⟨_, _, rfl, rfl⟩
    · refine .inr (.inr ⟨b, off, cap, cs, T, z, ?_, by omega, h2, h3, fun j hj => ?_⟩)
      · rw [cutLH_0 (by omega), hl]
      · obtain ⟨us, e1, e2, e3⟩ := h4 j (by omega)
        exact ⟨us, e1, e2, by rw [List.getElem_take]; exact e3⟩
theorem IsL.form {α : Type} {E : List Value → α → Hl → Prop} {size : Nat} {v : Value} {l : List α} {F : Hl} (h : IsL size E v l F) : ∃ a c, v = .slice a l.length c ∧ l.length ≤ c := by
  rcases h with ⟨rfl, rfl⟩ | ⟨a, c, rfl, rfl⟩ | ⟨b, off, cap, cs, T, z, rfl, h1, _⟩
  · exact ⟨_, _, rfl, Nat.le_refl _⟩
  · exact ⟨_, _, rfl, Nat.zero_le _⟩
  · exact ⟨_, _, rfl, h1⟩
/-- A list of slices that is owned, its slices known otherwise. -/
theorem isBB_own (i : Nat) {te : Nat} {v : Value} {us : List Value} {ls : List (List UInt8)} {B : List HP} {F : Hl} (hi : Nat.blt i B.length = true) (hH : B.getD i (fun _ => True) = own v ls.length us te 1) {g : Hl} (s : sep B g)
    (hu : ∀ j (h : j < ls.length), IsW (us.getD j undef) ls[j] (jn g F)) : IsBB v ls (jn g F) := by
  obtain ⟨h1, h2, d', rfl, a, _⟩ := sep_get i (lb hi) s
  rw [hH] at a
  rcases a with ⟨q0, ⟨q1, q2, _⟩ | ⟨g, cap, cur, q1, q2, q3, q4, q5, q6⟩⟩
  · exact .inl ⟨q1, List.eq_nil_of_length_eq_zero q2⟩
  · refine .inr (.inr ⟨g, 0, cap, cur.toList, te, (0, 0), q1, q3, by simpa [maxLen] using q4, jn_some (jn_some (by rw [q2]; simp [sg])), fun j hj => ?_⟩)
    have hul : us.length = ls.length := by rw [q0, Nat.mul_one]
    refine ⟨[us.getD j undef], rfl, ?_, us.getD j undef, rfl, hu j hj⟩
    rw [Nat.mul_one] at q6
    rw [Nat.zero_add, Nat.mul_one]
    have e3 := congrArg (fun l : List Value => l[j]?) q6
    simp only [List.getElem?_take, if_pos hj] at e3
    have hj2 : j < cur.toList.length := by
      by_cases q : j < cur.toList.length
      · exact q
      · rw [List.getElem?_eq_none (by omega), List.getElem?_eq_getElem (by omega)] at e3; cases e3
    rw [List.drop_eq_getElem_cons hj2]
    simp only [List.take_succ_cons, List.take_zero, List.cons.injEq, and_true]
    rw [List.getElem?_eq_getElem hj2, List.getElem?_eq_getElem (by omega)] at e3
    injection e3 with e3
    rw [e3]; simp [List.getD_eq_getElem?_getD, show j < us.length by omega]
/-- Slices' values, each with its bytes. -/
def Vals (us : List Value) (ls : List (List UInt8)) (F : Hl) : Prop := us.length = ls.length ∧ ∀ j (h : j < ls.length), IsW (us.getD j undef) ls[j] F
theorem Vals.nil (F : Hl) : Vals [] [] F := ⟨rfl, fun j h => absurd h (by simp)⟩
theorem Vals.more {us : List Value} {ls : List (List UInt8)} {F g : Hl} (h : Vals us ls F) (d : Dj g F) : Vals us ls (jn g F) := ⟨h.1, fun j hj => (h.2 j hj).more d⟩
theorem Vals.add {us : List Value} {ls : List (List UInt8)} {F : Hl} {u : Value} {b : List UInt8} (h : Vals us ls F) (hu : IsW u b F) : Vals (us ++ [u]) (ls ++ [b]) F := by
  obtain ⟨hl, h2⟩ := h
  refine ⟨by simp [hl], fun j hj => ?_⟩
  by_cases q : j < ls.length
  · rw [List.getElem_append_left q, List.getD_eq_getElem?_getD, List.getElem?_append_left (by omega)]
    have := h2 j q
    rwa [List.getD_eq_getElem?_getD] at this
  · rw [List.length_append, List.length_cons, List.length_nil] at hj
    obtain rfl : j = ls.length := by omega
    rw [List.getElem_append_right (by omega), List.getD_eq_getElem?_getD, List.getElem?_append_right (by omega)]
    simpa [hl] using hu
theorem vals_bunch (i : Nat) {us : List Value} {ls : List (List UInt8)} {e : Nat} {B : List HP} {F : Hl} (hi : Nat.blt i B.length = true) (hH : B.getD i (fun _ => True) = bunch us ls e) : ∀ g, Dj g F → sep B g → Vals us ls (jn g F) := fun g d s => by
  have s0 := s
  obtain ⟨h1, h2, d', rfl, a, _⟩ := sep_get i (lb hi) s
  rw [hH] at a
  refine ⟨a.1, fun j hj => ?_⟩
  obtain ⟨u, e1, k1, k2, dk, rfl, a3⟩ := bunch_at us ls e _ a.1 a.2 j hj
  rw [List.getD_eq_getElem?_getD, e1]
  exact .inl (subB_isB a3 fun b o e => jn_some (jn_some (jn_some e)))
end Leg
namespace Leg
open Go Codec Api
theorem bunch_one {us : List Value} {ls : List (List UInt8)} {e : Nat} {H : List HP} {F : Hl} {w : World} (i : Nat) (hi : Nat.blt i H.length = true) (hH : H.getD i (fun _ => True) = bunch us ls e) (m : Sat H F w) : us.length = ls.length ∧ ∀ u ∈ us, u.oneCell' = true := by
  obtain ⟨h, d, e', x⟩ := m
  obtain ⟨h1, h2, d', rfl, a, _⟩ := sep_get i (lb hi) x
  rw [hH] at a
  refine ⟨a.1, fun u hu => ?_⟩
  obtain ⟨j, hj, rfl⟩ := List.getElem_of_mem hu
  obtain ⟨u, e1, k1, k2, dk, rfl, a3⟩ := bunch_at us ls e _ a.1 a.2 j (by rw [← a.1]; exact hj)
  rw [List.getElem?_eq_getElem hj] at e1
  injection e1 with e1
  rw [e1]
  exact (subB_isB a3 (fun b o q => q) : IsB u _ k1).one
section
variable {P : Program} {n : Nat} {D : List Deferred} {L : List (Nat × Value)} {S : World → Prop} {o : Oper}
/-- The first elements of a list that came in. -/
theorem PV.sliceHE {t e : TypeId} {x z : Operand} {v : Value} {α : Type} {E : List Value → α → Hl → Prop} {l : List α} {F : Hl} {hi : Nat} {k' : IntKind} {j : Int} (hv : IsL 1 E v l F) (ho : o.op = .slice t x none (some z) none) (ht : P.underlying t = some (.slice e)) (hs : (P.info? e).map (·.size) = some 1)
    (hx : evL L x = some v) (hz : evL L z = some (.int k' j)) (hj : j = (hi : Int)) (h2 : hi ≤ l.length) : PV P n D L S o (cutLH v 0 hi) := by
  obtain ⟨a, c, rfl, hc⟩ := hv.form
  exact PV.sliceH ho ht hs hx hz hj (by omega)
end
end Leg
namespace Wal
open Go Leg Codec Api Dsk
def endsN (l : List (List UInt8)) (k : Nat) : List Int := (List.range k).map fun i => ((sizeS (l.take (i + 1)) : Nat) : Int)
theorem endsN_succ (l : List (List UInt8)) (k : Nat) : endsN l (k + 1) = endsN l k ++ [((sizeS (l.take (k + 1)) : Nat) : Int)] := by simp [endsN, List.range_succ]
theorem endsN_get {l : List (List UInt8)} {k j : Nat} (h : j < k) : (ints (endsN l k))[j]? = some (.int .i64 ((sizeS (l.take (j + 1)) : Nat) : Int)) := by simp [ints, endsN, h]
theorem sizeS_mono {l : List (List UInt8)} {i j : Nat} (h : i ≤ j) : sizeS (l.take i) ≤ sizeS (l.take j) := by
  have : l.take j = l.take i ++ (l.take j).drop i := by
    have := List.take_append_drop i (l.take j)
    rw [List.take_take, Nat.min_eq_left h] at this
    exact this.symm
  rw [this, sizeS_append]; omega
theorem find_end {l : List (List UInt8)} {a : Nat} : ∀ m, m ≤ l.length → a < sizeS (l.take m) → ∃ n, n < m ∧ sizeS (l.take n) ≤ a ∧ a < sizeS (l.take (n + 1))
  | 0, _, h => by simp [sizeS, flatS] at h
  | m + 1, hm, h => by
    by_cases q : a < sizeS (l.take m)
    · obtain ⟨n, h1, h2, h3⟩ := find_end m (by omega) q
      exact ⟨n, by omega, h2, h3⟩
    · exact ⟨m, by omega, by omega, h⟩
theorem sizeS_pos {l : List (List UInt8)} (h : l ≠ []) : 0 < sizeS l := by
  have := sizeS_ge l
  have : l.length ≠ 0 := fun e => h (List.eq_nil_of_length_eq_zero e)
  omega
end Wal
namespace Leg
open Go Codec Api
section
variable {P : Program} {n : Nat} {D : List Deferred} {L : List (Nat × Value)} {S : World → Prop} {o : Oper}
theorem PV.sliceHW {t e : TypeId} {x z : Operand} {v : Value} {bs : List UInt8} {F : Hl} {hi : Nat} {k' : IntKind} {j : Int} (hv : IsW v bs F) (ho : o.op = .slice t x none (some z) none) (ht : P.underlying t = some (.slice e)) (hs : (P.info? e).map (·.size) = some 1)
    (hx : evL L x = some v) (hz : evL L z = some (.int k' j)) (hj : j = (hi : Int)) (h2 : hi ≤ bs.length) : PV P n D L S o (cutLH v 0 hi) := by
  obtain ⟨a, c, rfl, hc, _⟩ := hv.form
  exact PV.sliceH ho ht hs hx hz hj (by omega)
theorem IsW.cut0 {v : Value} {bs : List UInt8} {F : Hl} (h : IsW v bs F) {hi : Nat} (h2 : hi ≤ bs.length) : IsW (cutLH v 0 hi) (bs.take hi) F := by
  have := h.cut (lo := 0) (Nat.zero_le _) h2
  simpa using this
end
end Leg

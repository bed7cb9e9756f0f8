/-
  Logs: the plain law. What a disk reads, what Open finds, what a crash leaves.
-/
import Derived.Test.YtdekgkmbcdlekaaWalQ
namespace Wal
open Go Leg Codec Api Dsk

/-! ### What a disk reads -/
theorem sget_lay (s ws : Secs) (j : Int) : ∀ k, sget (layN s ws k) j = readN s ws j k
  | 0 => rfl
  | k + 1 => by
    rw [layN, readN, sget_put, sget_lay s ws j k]
    by_cases h : j = (wat ws k).1
    · rw [if_pos h, if_pos h.symm]
    · rw [if_neg h, if_neg (fun q => h q.symm)]
theorem wat_left {ws x : Secs} {k : Nat} (h : k < ws.length) : wat (ws ++ x) k = wat ws k := by simp [wat, List.getD_eq_getElem?_getD, List.getElem?_append_left h]
theorem readN_left {s ws x : Secs} {j : Int} : ∀ k, k ≤ ws.length → readN s (ws ++ x) j k = readN s ws j k
  | 0, _ => rfl
  | k + 1, h => by rw [readN, readN, wat_left (by omega), readN_left k (by omega)]
theorem readN_add (s ws : Secs) (p : Int × Sec) (j : Int) : readN s (ws ++ [p]) j (ws ++ [p]).length = if j = p.1 then p.2 else readN s ws j ws.length := by
  rw [List.length_append, List.length_cons, List.length_nil, Nat.zero_add, readN, readN_left _ (Nat.le_refl _)]
  have : wat (ws ++ [p]) ws.length = p := by simp [wat, List.getD_eq_getElem?_getD]
  rw [this]
  by_cases h : j = p.1
  · rw [if_pos h, if_pos h.symm]
  · rw [if_neg h, if_neg (fun q => h q.symm)]
/-- A write that is taken. -/
def putD (D : DS) (at' : Int) (bs : List UInt8) : DS := { D with ws := D.ws ++ [(at', padS bs)], lf := if D.ar = true then D.lf - 1 else D.lf, dn := false }
theorem write_putD {D : DS} {at' : Int} {bs : List UInt8} (h1 : 0 ≤ at' ∧ at' < 2048) (h2 : bs.length ≤ 64) (h3 : D.dn = false) (h4 : D.ar = false ∨ 0 < D.lf) : D.write at' bs = (0, putD D at' bs) := by
  rw [DS.write, if_neg (by omega), if_neg]
  · rfl
  · rintro (h | ⟨h, h5⟩)
    · rw [h3] at h; cases h
    · rcases h4 with h4 | h4
      · rw [h4] at h; cases h
      · omega
theorem write_down {D : DS} {at' : Int} {bs : List UInt8} (h1 : 0 ≤ at' ∧ at' < 2048) (h2 : bs.length ≤ 64) (h4 : D.ar = true ∧ D.lf = 0) : D.write at' bs = (4, { D with dn := true }) := by
  rw [DS.write, if_neg (by omega), if_pos (.inr h4)]
theorem putD_read (D : DS) (at' : Int) (bs : List UInt8) (j : Int) : (putD D at' bs).read j = if j = at' then padS bs else D.read j := readN_add _ _ _ _
theorem putD_ok {D : DS} (h : D.Ok) {at' : Int} {bs : List UInt8} (h2 : bs.length ≤ 64) (h4 : D.ar = false ∨ 0 < D.lf) : (putD D at' bs).Ok := by
  refine ⟨h.s, h.ws.add _ (padS_len h2), ?_⟩
  have := h.lf
  show 0 ≤ (if D.ar = true then D.lf - 1 else D.lf) ∧ (if D.ar = true then D.lf - 1 else D.lf) ≤ 9223372036854775807
  split
  · rename_i h5
    rcases h4 with h4 | h4
    · rw [h4] at h5; cases h5
    · omega
  · exact this
theorem putD_in {D : DS} (h : Wal.DS.In D) {at' : Int} {bs : List UInt8} (h1 : 0 ≤ at' ∧ at' < 2048) : Wal.DS.In (putD D at' bs) := ⟨h.1, fun p hp => by
  rcases List.mem_append.1 hp with hp | hp
  · exact h.2 p hp
  · simp only [List.mem_singleton] at hp; subst hp; exact h1⟩
theorem In.put {s : Secs} (h : In s) {k : Int} {v : Sec} (h1 : 0 ≤ k ∧ k < 2048) : In (sput s k v) := by
  induction s with
  | nil => intro p hp; simp only [sput, List.mem_singleton] at hp; subst hp; exact h1
  | cons p s ih =>
    obtain ⟨a, b⟩ := p
    intro q hq
    simp only [sput] at hq
    split at hq
    · rcases List.mem_cons.1 hq with rfl | hq
      · exact h (a, b) (by simp)
      · exact h q (by simp [hq])
    · rcases List.mem_cons.1 hq with rfl | hq
      · exact h (a, b) (by simp)
      · exact ih (fun q hq => h q (by simp [hq])) q hq
theorem In.lay {s ws : Secs} (h : In s) (hw : In ws) : ∀ k, k ≤ ws.length → In (layN s ws k)
  | 0, _ => h
  | k + 1, hk => by
    have := hw (wat ws k) (by rw [wat_eq (by omega)]; exact List.getElem_mem _)
    exact (In.lay h hw k (by omega)).put this
theorem In.crash {mask torn : Int} {c : Nat} {s ws : Secs} (h : In s) (hw : In ws) : ∀ k, k ≤ ws.length → In (crashN mask torn c s ws k)
  | 0, _ => h
  | k + 1, hk => by
    have h1 := hw (wat ws k) (by rw [wat_eq (by omega)]; exact List.getElem_mem _)
    have ih := In.crash (mask := mask) (torn := torn) (c := c) h hw k (by omega)
    simp only [crashN, crashStep]
    split
    · exact ih.put h1
    · split
      · exact ih.put h1
      · exact ih
theorem In.nil : In [] := fun _ h => absurd h (by simp)
/-- A disk that takes what it is told. -/
structure Calm (D : DS) : Prop where
  ok : D.Ok
  inn : Wal.DS.In D
  ar : D.ar = false
  dn : D.dn = false
theorem Calm.new : Calm DS.new := ⟨DS.new_ok, ⟨In.nil, In.nil⟩, rfl, rfl⟩
theorem Calm.crash {D : DS} (h : D.Ok) (hi : Wal.DS.In D) (mask torn n : Int) : Calm (D.crash mask torn n) := ⟨DS.crash_ok h _ _ _, ⟨hi.1.crash hi.2 _ (Nat.le_refl _), In.nil⟩, rfl, rfl⟩
theorem sync_read {D : DS} (h : D.dn = false) (j : Int) : D.sync.2.read j = D.read j := by
  unfold DS.sync
  rw [if_neg (by simp [h])]
  exact sget_lay _ _ _ _
theorem sync_zero {D : DS} (h : D.dn = false) : D.sync.1 = 0 ∧ D.sync.2.ws = [] ∧ D.sync.2.dn = false ∧ D.sync.2.ar = D.ar ∧ D.sync.2.lf = D.lf := by
  unfold DS.sync
  rw [if_neg (by simp [h])]
  exact ⟨rfl, rfl, h, rfl, rfl⟩
theorem sync_in {D : DS} (h : Wal.DS.In D) : Wal.DS.In D.sync.2 := by
  unfold DS.sync
  split
  · exact h
  · exact ⟨h.1.lay h.2 _ (Nat.le_refl _), In.nil⟩
theorem Calm.sync {D : DS} (h : Calm D) : Calm D.sync.2 := by
  obtain ⟨_, _, h3, h4, _⟩ := sync_zero h.dn
  exact ⟨DS.sync_ok h.ok, sync_in h.inn, h4.trans h.ar, h3⟩
theorem Calm.put {D : DS} (h : Calm D) {at' : Int} {bs : List UInt8} (h1 : 0 ≤ at' ∧ at' < 2048) (h2 : bs.length ≤ 64) : Calm (putD D at' bs) := ⟨putD_ok h.ok h2 (.inl h.ar), putD_in h.inn h1, h.ar, rfl⟩
theorem padS_nil : padS [] = zs := rfl

/-! ### Wiping -/
theorem wipe_spec : ∀ (n : Nat) (at' : Int) (D : DS), Calm D → 0 ≤ at' → at' + n ≤ 2048 → ∃ D', wipeP n at' D = (0, D') ∧ Calm D' ∧ ∀ j, D'.read j = if at' ≤ j ∧ j < at' + n then zs else D.read j
  | 0, at', D, h, _, _ => ⟨D, rfl, h, fun j => by rw [if_neg (by omega)]⟩
  | n + 1, at', D, h, h0, h1 => by
    by_cases hz : D.read at' = zs
    · obtain ⟨D', e, c, r⟩ := wipe_spec n (at' + 1) D h (by omega) (by omega)
      refine ⟨D', by rw [wipeP, if_pos hz, e], c, fun j => ?_⟩
      rw [r j]
      by_cases q : j = at'
      · subst q; rw [if_neg (by omega), if_pos (by omega), hz]
      · by_cases q2 : at' + 1 ≤ j ∧ j < at' + 1 + n
        · rw [if_pos q2, if_pos (by omega)]
        · rw [if_neg q2, if_neg (by omega)]
    · have hw := write_putD (D := D) (at' := at') (bs := []) (by omega) (by simp) h.dn (.inl h.ar)
      obtain ⟨D', e, c, r⟩ := wipe_spec n (at' + 1) (putD D at' []) (h.put (by omega) (by simp)) (by omega) (by omega)
      refine ⟨D', by rw [wipeP, if_neg hz, hw, if_pos rfl, e], c, fun j => ?_⟩
      rw [r j, putD_read, padS_nil]
      by_cases q : j = at'
      · subst q; rw [if_neg (by omega), if_pos rfl, if_pos (by omega)]
      · rw [if_neg q]
        by_cases q2 : at' + 1 ≤ j ∧ j < at' + 1 + n
        · rw [if_pos q2, if_pos (by omega)]
        · rw [if_neg q2, if_neg (by omega)]
theorem scan_used {D : DS} (h : Calm D) : 0 ≤ (scanP D.read fuel0 0 0).2 ∧ (scanP D.read fuel0 0 0).2 ≤ 2048 ∧ ((scanP D.read fuel0 0 0).1.length : Int) ≤ (scanP D.read fuel0 0 0).2 := by
  have key : ∀ f rs used, Scan D f rs used → ∃ rs' used', scanP D.read fuel0 0 0 = (rs', used') ∧ 0 ≤ used' ∧ used' ≤ 2048 ∧ (rs'.length : Int) ≤ used' := by
    intro f
    induction f with
    | zero =>
      intro rs used hs
      cases hst : standsP D.read ((rs.length : Int) + 1) used with
      | none => exact ⟨rs, used, hs.stop hst, hs.2.1, hs.2.2.1, hs.2.2.2.2⟩
      | some p => obtain ⟨b, all⟩ := p; obtain ⟨f', e, _⟩ := Scan.next h.inn h.ok hs hst; omega
    | succ f ih =>
      intro rs used hs
      cases hst : standsP D.read ((rs.length : Int) + 1) used with
      | none => exact ⟨rs, used, hs.stop hst, hs.2.1, hs.2.2.1, hs.2.2.2.2⟩
      | some p =>
        obtain ⟨b, all⟩ := p
        obtain ⟨f', e, hs'⟩ := Scan.next h.inn h.ok hs hst
        obtain rfl : f = f' := by omega
        exact ih _ _ hs'
  obtain ⟨rs, used, e, h1, h2, h3⟩ := key _ _ _ (Scan.start D)
  rw [e]; exact ⟨h1, h2, h3⟩
/-- Open, on a disk that takes what it is told. -/
theorem open_calm {D : DS} (h : Calm D) : ∃ D', openP D = ⟨0, (scanP D.read fuel0 0 0).1, (scanP D.read fuel0 0 0).2, D'⟩ ∧ Calm D' ∧ D'.ws = [] ∧ ∀ j, D'.read j = if (scanP D.read fuel0 0 0).2 ≤ j ∧ j < 2048 then zs else D.read j := by
  obtain ⟨h1, h2, _⟩ := scan_used h
  generalize hr : scanP D.read fuel0 0 0 = r at *
  obtain ⟨rs, used⟩ := r
  simp only at h1 h2 ⊢
  obtain ⟨D', e, c, rd⟩ := wipe_spec (2048 - used).toNat used D h h1 (by omega)
  obtain ⟨s1, s2, _⟩ := sync_zero c.dn
  refine ⟨D'.sync.2, open_ok hr e s1, c.sync, s2, fun j => ?_⟩
  rw [sync_read c.dn, rd j]
  by_cases q : used ≤ j ∧ j < 2048
  · rw [if_pos q, if_pos (by omega)]
  · rw [if_neg q, if_neg (by omega)]

/-! ### Records laid -/
def flatS : Nat → List (List UInt8) → List Sec
  | _, [] => []
  | n, b :: ls => sectorsP ((n + 1 : Nat) : Int) b ++ flatS (n + 1) ls
def sizeS (ls : List (List UInt8)) : Nat := (flatS 0 ls).length
theorem flatS_append : ∀ (a : List (List UInt8)) (n : Nat) (b : List (List UInt8)), flatS n (a ++ b) = flatS n a ++ flatS (n + a.length) b
  | [], n, b => by simp [flatS]
  | x :: a, n, b => by
    simp only [List.cons_append, flatS, flatS_append a (n + 1) b, List.append_assoc, List.length_cons]
    rw [show n + 1 + a.length = n + (a.length + 1) by omega]
theorem flatS_len : ∀ (ls : List (List UInt8)) (n m : Nat), (flatS n ls).length = (flatS m ls).length
  | [], _, _ => rfl
  | b :: ls, n, m => by simp only [flatS, List.length_append, sectorsP_len, flatS_len ls (n + 1) (m + 1)]
theorem sizeS_add (ls : List (List UInt8)) (b : List UInt8) : sizeS (ls ++ [b]) = sizeS ls + piecesN b.length := by
  simp [sizeS, flatS_append, flatS, sectorsP_len]
theorem sizeS_append (a b : List (List UInt8)) : sizeS (a ++ b) = sizeS a + sizeS b := by
  simp only [sizeS, flatS_append, List.length_append]
  rw [flatS_len b (0 + a.length) 0]
theorem sizeS_ge : ∀ ls : List (List UInt8), ls.length ≤ sizeS ls
  | [] => Nat.le_refl _
  | b :: ls => by
    have h1 := sizeS_ge ls
    have h2 := piecesN_pos b.length
    have h3 := flatS_len ls 1 0
    simp only [sizeS, flatS, List.length_append, sectorsP_len, List.length_cons, h3] at *
    omega
theorem sectorsP_get {number : Int} {b : List UInt8} {k : Nat} (h : k < (sectorsP number b).length) : (sectorsP number b)[k] = sectP number k (piecesN b.length) (partP b k) := by simp [sectorsP]
theorem sectorsP_sec (number : Int) (b : List UInt8) : ∀ s ∈ sectorsP number b, s.length = 64 := fun s hs => by
  obtain ⟨i, _, rfl⟩ := List.mem_map.1 hs
  exact sectP_len (partP_len b i)
theorem piece_sect {number : Int} {b : List UInt8} {k : Nat} (h : k < (sectorsP number b).length) (h0 : 0 ≤ number) (h1 : number < 4294967296) (hb : b.length ≤ 3000) : pieceP (sectorsP number b)[k] number k = some (partP b k, ((piecesN b.length : Nat) : Int)) := by
  rw [sectorsP_get h]
  rw [sectorsP_len] at h
  exact pieceP_sect (partP_len b k) h0 h1 h (by have := piecesN_le hb; omega)
theorem more_sect {rd : Int → Sec} {number at' : Int} {b : List UInt8} (h0 : 0 ≤ number) (h1 : number < 4294967296) (hb : b.length ≤ 3000) : ∀ k, k ≤ piecesN b.length → (∀ j (h : j < (sectorsP number b).length), j < k → rd (at' + j) = (sectorsP number b)[j]) →
    moreP rd number at' ((piecesN b.length : Nat) : Int) k = some ((List.range k).map (partP b)).flatten
  | 0, _, _ => rfl
  | k + 1, hk, h => by
    have ih := more_sect h0 h1 hb k (by omega) (fun j hj hj2 => h j hj (by omega))
    have hl : k < (sectorsP number b).length := by rw [sectorsP_len]; omega
    rw [moreP_go ih (by rw [h k hl (by omega)]; exact piece_sect hl h0 h1 hb)]
    simp [List.range_succ]
theorem stands_sect {rd : Int → Sec} {number at' : Int} {b : List UInt8} (h0 : 0 ≤ number) (h1 : number < 4294967296) (hb : b.length ≤ 3000) (h : ∀ j (h : j < (sectorsP number b).length), rd (at' + j) = (sectorsP number b)[j]) : standsP rd number at' = some (b, ((piecesN b.length : Nat) : Int)) := by
  have hl : 0 < (sectorsP number b).length := by rw [sectorsP_len]; exact piecesN_pos _
  have hp : pieceP (rd at') number 0 = some (partP b 0, ((piecesN b.length : Nat) : Int)) := by
    have e := h 0 hl
    rw [show at' + ((0 : Nat) : Int) = at' by omega] at e
    rw [e]; exact piece_sect hl h0 h1 hb
  refine standsP_some hp ?_
  rw [Int.toNat_natCast, more_sect h0 h1 hb _ (Nat.le_refl _) (fun j hj _ => h j hj), parts_all b _ (piecesN_cover _)]
/-- Sectors as they are laid. -/
def Shows (rd : Int → Sec) (at' : Int) (l : List Sec) : Prop := ∀ j (h : j < l.length), rd (at' + j) = l[j]
theorem Shows.left {rd : Int → Sec} {at' : Int} {a b : List Sec} (h : Shows rd at' (a ++ b)) : Shows rd at' a := fun j hj => by
  rw [h j (by rw [List.length_append]; omega), List.getElem_append_left hj]
theorem Shows.right {rd : Int → Sec} {at' : Int} {a b : List Sec} (h : Shows rd at' (a ++ b)) : Shows rd (at' + a.length) b := fun j hj => by
  have := h (a.length + j) (by rw [List.length_append]; omega)
  rw [show at' + ((a.length + j : Nat) : Int) = at' + a.length + j by omega] at this
  rw [this, List.getElem_append_right (by omega)]
  congr 1; omega
theorem scan_log {rd : Int → Sec} : ∀ (ls : List (List UInt8)) (n : Nat) (at' : Int) (f : Nat), (∀ b ∈ ls, b.length ≤ 3000) → n + ls.length < 4294967296 → Shows rd at' (flatS n ls) →
    scanP rd (ls.length + f) n at' = (ls ++ (scanP rd f ((n + ls.length : Nat) : Int) (at' + (flatS n ls).length)).1, (scanP rd f ((n + ls.length : Nat) : Int) (at' + (flatS n ls).length)).2)
  | [], n, at', f, _, _, _ => by simp [flatS]
  | b :: ls, n, at', f, hl, hn, h => by
    simp only [flatS] at h ⊢
    simp only [List.length_cons] at hn ⊢
    have hs := stands_sect (rd := rd) (number := ((n + 1 : Nat) : Int)) (at' := at') (by omega) (by omega) (hl b (by simp)) h.left
    have ih := scan_log (rd := rd) ls (n + 1) (at' + (sectorsP ((n + 1 : Nat) : Int) b).length) f (fun x hx => hl x (by simp [hx])) (by omega) h.right
    rw [sectorsP_len] at ih
    rw [show ls.length + 1 + f = (ls.length + f) + 1 by omega, scan_go (b := b) (all := ((piecesN b.length : Nat) : Int)) (by rw [← hs]; congr 1)]
    rw [show ((n : Nat) : Int) + 1 = ((n + 1 : Nat) : Int) by omega, ih]
    rw [List.length_append, sectorsP_len, show n + 1 + ls.length = n + (ls.length + 1) by omega, show at' + ((piecesN b.length + (flatS (n + 1) ls).length : Nat) : Int) = at' + ((piecesN b.length : Nat) : Int) + (((flatS (n + 1) ls).length : Nat) : Int) by omega]
    simp
/-- A disk on which these records stand, and nothing else. -/
structure LogD (D : DS) (ls : List (List UInt8)) : Prop where
  ok : D.Ok
  inn : Wal.DS.In D
  ws : D.ws = []
  short : ∀ b ∈ ls, b.length ≤ 3000
  room : sizeS ls ≤ 2048
  shows : Shows D.read 0 (flatS 0 ls)
  zero : ∀ j, ((sizeS ls : Nat) : Int) ≤ j → D.read j = zs
theorem LogD.len {D : DS} {ls : List (List UInt8)} (h : LogD D ls) : ls.length ≤ 2048 := by have := sizeS_ge ls; have := h.room; omega
theorem stands_zs {rd : Int → Sec} {number at' : Int} (h : (rd at').getD 63 0 ≠ 1) : standsP rd number at' = none := standsP_none1 (pieceP_end h)
theorem zs_end : zs.getD 63 0 ≠ 1 := by decide
theorem LogD.scan {D : DS} {ls : List (List UInt8)} (h : LogD D ls) : scanP D.read fuel0 0 0 = (ls, ((sizeS ls : Nat) : Int)) := by
  have hl := h.len
  obtain ⟨f, hf⟩ : ∃ f, fuel0 = ls.length + f := ⟨fuel0 - ls.length, by rw [fuel0_eq]; omega⟩
  have := scan_log (rd := D.read) ls 0 0 f h.short (by omega) h.shows
  rw [← hf] at this
  rw [show ((0 : Nat) : Int) = 0 from rfl] at this
  have hz := h.zero _ (Int.le_refl _)
  simp only [sizeS] at hz
  rw [this, Int.zero_add, scan_stop (stands_zs (by rw [hz]; exact zs_end))]
  simp [sizeS]
theorem LogD.new : LogD DS.new [] := ⟨DS.new_ok, ⟨In.nil, In.nil⟩, rfl, fun _ h => absurd h (by simp), by decide, fun j h => absurd h (by simp [flatS]), fun j _ => rfl⟩
/-- Open leaves such a disk as it is. -/
theorem LogD.open {D : DS} {ls : List (List UInt8)} (h : LogD D ls) (ha : D.ar = false) (hd : D.dn = false) : ∃ D', openP D = ⟨0, ls, ((sizeS ls : Nat) : Int), D'⟩ ∧ LogD D' ls ∧ D'.ar = false ∧ D'.dn = false := by
  obtain ⟨D', e, c, hw, hr⟩ := open_calm (D := D) ⟨h.ok, h.inn, ha, hd⟩
  rw [h.scan] at e hr
  have hrd : ∀ j, D'.read j = D.read j := fun j => by
    rw [hr j]
    split
    · rename_i q; rw [h.zero j q.1]
    · rfl
  exact ⟨D', e, ⟨c.ok, c.inn, hw, h.short, h.room, fun j hj => by rw [hrd]; exact h.shows j hj, fun j hj => by rw [hrd]; exact h.zero j hj⟩, c.ar, c.dn⟩
/-- Open, wherever records are found. -/
theorem open_log {D : DS} {ls : List (List UInt8)} (h : Calm D) (hs : scanP D.read fuel0 0 0 = (ls, ((sizeS ls : Nat) : Int))) (hsh : ∀ b ∈ ls, b.length ≤ 3000) (hro : sizeS ls ≤ 2048) (hrd : Shows D.read 0 (flatS 0 ls)) : ∃ D', openP D = ⟨0, ls, ((sizeS ls : Nat) : Int), D'⟩ ∧ LogD D' ls ∧ D'.ar = false ∧ D'.dn = false := by
  obtain ⟨D', e, c, hw, hr⟩ := open_calm h
  rw [hs] at e hr
  refine ⟨D', e, ⟨c.ok, c.inn, hw, hsh, hro, fun j hj => ?_, fun j hj => ?_⟩, c.ar, c.dn⟩
  · rw [hr, if_neg (by simp only [sizeS]; omega)]; exact hrd j hj
  · rw [hr]
    by_cases q : j < 2048
    · rw [if_pos ⟨hj, q⟩]
    · rw [if_neg (by omega)]
      exact DS.In.read h.inn (by omega)

/-! ### Put -/
def wsec : Int → List Sec → Secs
  | _, [] => []
  | at', s :: ss => (at', s) :: wsec (at' + 1) ss
theorem wsec_len : ∀ (ss : List Sec) (at' : Int), (wsec at' ss).length = ss.length
  | [], _ => rfl
  | s :: ss, at' => by simp [wsec, wsec_len ss]
theorem wat_wsec : ∀ (ss : List Sec) (at' : Int) (k : Nat) (h : k < ss.length), wat (wsec at' ss) k = (at' + k, ss[k])
  | s :: ss, at', 0, _ => by simp [wsec, wat]
  | s :: ss, at', k + 1, h => by
    have ih := wat_wsec ss (at' + 1) k (by simpa using h)
    simp only [wat, wsec, List.getD_cons_succ] at ih ⊢
    rw [ih]
    simp only [List.getElem_cons_succ, Prod.mk.injEq, and_true]
    omega
theorem padS_full {s : Sec} (h : s.length = 64) : padS s = s := by simp [padS, h]
theorem writes_spec : ∀ (ss : List Sec) (at' : Int) (D : DS), D.Ok → Wal.DS.In D → D.dn = false → 0 ≤ at' → at' + ss.length ≤ 2048 → (∀ s ∈ ss, s.length = 64) →
    ∃ (m : Nat) (D' : DS), m ≤ ss.length ∧ writesP ss at' D = ((if m = ss.length then 0 else 4), D') ∧ D'.Ok ∧ Wal.DS.In D' ∧ D'.s = D.s ∧ D'.ws = D.ws ++ wsec at' (ss.take m) ∧ D'.dn = decide (m < ss.length) ∧ D'.ar = D.ar ∧ (D.ar = false → m = ss.length)
  | [], at', D, h, hi, hd, _, _, _ => ⟨0, D, Nat.le_refl _, rfl, h, hi, rfl, by simp [wsec], by simp [hd], rfl, fun _ => rfl⟩
  | s :: ss, at', D, h, hi, hd, h0, h1, hs => by
    simp only [List.length_cons] at h1
    have hs1 := hs s (by simp)
    by_cases hc : D.ar = true ∧ D.lf = 0
    · have hw := write_down (D := D) (at' := at') (bs := s) (by omega) (by omega) hc
      refine ⟨0, { D with dn := true }, Nat.zero_le _, ?_, ⟨h.s, h.ws, h.lf⟩, hi, rfl, by simp [wsec], by simp, rfl, fun q => by rw [q] at hc; cases hc.1⟩
      rw [writesP, hw]; simp
    · have h4 : D.ar = false ∨ 0 < D.lf := by
        have := h.lf
        cases q : D.ar
        · exact .inl rfl
        · right
          have : D.lf ≠ 0 := fun e => hc ⟨q, e⟩
          omega
      have hw := write_putD (D := D) (at' := at') (bs := s) (by omega) (by omega) hd h4
      obtain ⟨m, D', a1, a2, a3, a4, a5, a6, a7, a8, a9⟩ := writes_spec ss (at' + 1) (putD D at' s) (putD_ok h (by omega) h4) (putD_in hi (by omega)) rfl (by omega) (by omega) (fun x hx => hs x (by simp [hx]))
      refine ⟨m + 1, D', by simp; omega, ?_, a3, a4, a5.trans rfl, ?_, by rw [a7]; simp, a8.trans rfl, fun q => by rw [a9 q]; rfl⟩
      · rw [writesP, hw]
        simp only [if_true, a2, List.length_cons, Nat.add_right_cancel_iff]
      · rw [a6]
        simp only [putD, List.take_succ_cons, wsec, padS_full hs1, List.append_assoc, List.cons_append, List.nil_append]
theorem Shows.append {rd : Int → Sec} {at' : Int} {a b : List Sec} (h : Shows rd at' a) (g : Shows rd (at' + a.length) b) : Shows rd at' (a ++ b) := fun j hj => by
  by_cases q : j < a.length
  · rw [List.getElem_append_left q]; exact h j q
  · rw [List.getElem_append_right (by omega), ← g (j - a.length) (by rw [List.length_append] at hj; omega)]
    congr 1; omega
/-- What is read behind some writes one behind the other. -/
theorem read_wsec (s : Secs) (l : List Sec) (at' j : Int) : ∀ k, k ≤ l.length → readN s (wsec at' l) j k = if at' ≤ j ∧ j < at' + k then l.getD (j - at').toNat zs else sget s j
  | 0, _ => by rw [if_neg (by omega)]; rfl
  | k + 1, hk => by
    rw [readN, wat_wsec l at' k (by omega), read_wsec s l at' j k (by omega)]
    by_cases q : at' + k = j
    · rw [if_pos q, if_pos (by omega), show (j - at').toNat = k by omega]
      simp [List.getD_eq_getElem?_getD, show k < l.length by omega]
    · rw [if_neg q]
      by_cases q2 : at' ≤ j ∧ j < at' + k
      · rw [if_pos q2, if_pos (by omega)]
      · rw [if_neg q2, if_neg (by omega)]
/-- Some sectors of one more record are written, not sure. -/
structure Half (D : DS) (ls : List (List UInt8)) (bs : List UInt8) : Prop where
  ok : D.Ok
  inn : Wal.DS.In D
  short : ∀ b ∈ ls, b.length ≤ 3000
  short' : bs.length ≤ 3000
  room : sizeS ls + piecesN bs.length ≤ 2048
  shows : Shows (sget D.s) 0 (flatS 0 ls)
  zero : ∀ j, ((sizeS ls : Nat) : Int) ≤ j → sget D.s j = zs
  ws : ∃ m, m ≤ piecesN bs.length ∧ D.ws = wsec ((sizeS ls : Nat) : Int) ((sectorsP ((ls.length + 1 : Nat) : Int) bs).take m)
theorem LogD.rds {D : DS} {ls : List (List UInt8)} (h : LogD D ls) (j : Int) : D.read j = sget D.s j := by rw [DS.read, h.ws]; rfl
theorem put_spec {D : DS} {ls : List (List UInt8)} {bs : List UInt8} (h : LogD D ls) (hd : D.dn = false) (hb : bs.length ≤ 3000) :
    (2048 < sizeS ls + piecesN bs.length ∧ putL D ls.length ((sizeS ls : Nat) : Int) bs = ⟨3, ls.length, ((sizeS ls : Nat) : Int), D⟩) ∨
    (sizeS ls + piecesN bs.length ≤ 2048 ∧ ∃ D', putL D ls.length ((sizeS ls : Nat) : Int) bs = ⟨0, ls.length + 1, ((sizeS (ls ++ [bs]) : Nat) : Int), D'⟩ ∧ LogD D' (ls ++ [bs]) ∧ D'.dn = false ∧ D'.ar = D.ar) ∨
    (D.ar = true ∧ ∃ D', putL D ls.length ((sizeS ls : Nat) : Int) bs = ⟨4, ls.length, ((sizeS ls : Nat) : Int), D'⟩ ∧ Half D' ls bs) := by
  have hl := h.len
  have hp := piecesN_le hb
  by_cases hr : 2048 < sizeS ls + piecesN bs.length
  · exact .inl ⟨hr, put_full (by omega) (by omega)⟩
  · right
    have hss : (sectorsP ((ls.length + 1 : Nat) : Int) bs).length = piecesN bs.length := sectorsP_len _ _
    obtain ⟨m, D', a1, a2, a3, a4, a5, a6, a7, a8, a9⟩ := writes_spec (sectorsP ((ls.length + 1 : Nat) : Int) bs) ((sizeS ls : Nat) : Int) D h.ok h.inn hd (by omega) (by rw [hss]; omega) (sectorsP_sec _ _)
    rw [hss] at a1 a2 a7 a9
    rw [h.ws, List.nil_append] at a6
    by_cases hm : m = piecesN bs.length
    · left
      subst hm
      rw [if_pos rfl] at a2
      have hdn : D'.dn = false := by rw [a7]; simp
      obtain ⟨s1, s2, s3, s4, s5⟩ := sync_zero hdn
      rw [List.take_of_length_le (by rw [hss]; exact Nat.le_refl _)] at a6
      have hrd : ∀ j, D'.sync.2.read j = if ((sizeS ls : Nat) : Int) ≤ j ∧ j < ((sizeS ls : Nat) : Int) + piecesN bs.length then (sectorsP ((ls.length + 1 : Nat) : Int) bs).getD (j - ((sizeS ls : Nat) : Int)).toNat zs else D.read j := fun j => by
        rw [sync_read hdn, DS.read, a6, wsec_len, read_wsec _ _ _ _ _ (Nat.le_refl _), hss, a5, h.rds]
      have hsz := sizeS_add ls bs
      refine ⟨by omega, D'.sync.2, ?_, ⟨DS.sync_ok a3, sync_in a4, s2, fun b hb' => ?_, by omega, ?_, fun j hj => ?_⟩, s3, s4.trans a8⟩
      · rw [put_ok (by omega) (by omega) a2 s1, hsz]
        simp only [PutR.mk.injEq, true_and, and_true]
        omega
      · rcases List.mem_append.1 hb' with hb' | hb'
        · exact h.short b hb'
        · simp only [List.mem_singleton] at hb'; subst hb'; exact hb
      · rw [flatS_append]
        refine Shows.append (fun j hj => ?_) fun j hj => ?_
        · rw [hrd, if_neg (by simp only [sizeS]; omega)]; exact h.shows j hj
        · simp only [flatS, List.append_nil, Nat.zero_add] at hj ⊢
          rw [hrd, if_pos (by simp only [sizeS]; rw [hss] at hj; omega), show (0 + (((flatS 0 ls).length : Nat) : Int) + (j : Int) - ((sizeS ls : Nat) : Int)).toNat = j by simp only [sizeS]; omega]
          rw [List.getD_eq_getElem?_getD, List.getElem?_eq_getElem hj]; rfl
      · rw [hrd, if_neg (by omega)]
        exact h.zero j (by omega)
    · right
      have har : D.ar = true := by
        cases q : D.ar
        · exact absurd (a9 q) hm
        · rfl
      rw [if_neg hm] at a2
      refine ⟨har, D', put_fail1 (by omega) (by omega) a2 (by decide), ⟨a3, a4, h.short, hb, by omega, fun j hj => ?_, fun j hj => ?_, m, a1, a6⟩⟩
      · rw [a5, ← h.rds]; exact h.shows j hj
      · rw [a5, ← h.rds]; exact h.zero j hj
theorem put_long' {D : DS} {ls : List (List UInt8)} {bs : List UInt8} {used : Int} (hb : 3000 < bs.length) : putL D ls.length used bs = ⟨2, ls.length, used, D⟩ := put_long hb

/-! ### Crashes -/
theorem LogD.crash {D : DS} {ls : List (List UInt8)} (h : LogD D ls) (mask torn n : Int) : LogD (D.crash mask torn n) ls ∧ (D.crash mask torn n).ar = false ∧ (D.crash mask torn n).dn = false := by
  have hs : (D.crash mask torn n).s = D.s := by simp only [DS.crash, h.ws]; rfl
  have hr : ∀ j, (D.crash mask torn n).read j = D.read j := fun j => by rw [h.rds]; show sget (D.crash mask torn n).s j = _; rw [hs]
  have c := Calm.crash h.ok h.inn mask torn n
  exact ⟨⟨c.ok, c.inn, rfl, h.short, h.room, fun j hj => by rw [hr]; exact h.shows j hj, fun j hj => by rw [hr]; exact h.zero j hj⟩, rfl, rfl⟩
theorem crash_wsec (mask torn : Int) (c : Nat) (s : Secs) (l : List Sec) (at' j : Int) : ∀ k, k ≤ l.length → sget (crashN mask torn c s (wsec at' l) k) j = sget s j ∨ ∃ (i : Nat) (h : i < l.length), j = at' + i ∧ (sget (crashN mask torn c s (wsec at' l) k) j = l[i] ∨ sget (crashN mask torn c s (wsec at' l) k) j = tornS (sget s j) l[i] c)
  | 0, _ => .inl rfl
  | k + 1, hk => by
    have ih := crash_wsec mask torn c s l at' j k (by omega)
    simp only [crashN, crashStep, wat_wsec l at' k (show k < l.length by omega)]
    by_cases q : j = at' + k
    · have ih2 : sget (crashN mask torn c s (wsec at' l) k) (at' + k) = sget s j := by
        subst q
        have : ∀ m, m ≤ k → sget (crashN mask torn c s (wsec at' l) m) (at' + k) = sget s (at' + k) := by
          intro m
          induction m with
          | zero => intro _; rfl
          | succ m ihm =>
            intro hm
            simp only [crashN, crashStep, wat_wsec l at' m (show m < l.length by omega)]
            split
            · rw [sget_put, if_neg (by omega)]; exact ihm (by omega)
            · split
              · rw [sget_put, if_neg (by omega)]; exact ihm (by omega)
              · exact ihm (by omega)
        exact this k (Nat.le_refl _)
      split
      · right
        refine ⟨k, by omega, q, .inr ?_⟩
        rw [sget_put, if_pos q, ih2]
      · split
        · right
          refine ⟨k, by omega, q, .inl ?_⟩
          rw [sget_put, if_pos q]
        · exact ih
    · split
      · rw [sget_put, if_neg q]; exact ih
      · split
        · rw [sget_put, if_neg q]; exact ih
        · exact ih
theorem torn_end {new : Sec} {c : Nat} (hn : new.length = 64) (hc : c ≤ 64) : tornS zs new c = new ∨ (tornS zs new c).getD 63 0 ≠ 1 := by
  by_cases h : c = 64
  · left; subst h
    simp only [tornS]
    rw [List.take_of_length_le (by omega), List.drop_of_length_le (by decide), List.append_nil]
  · right
    simp only [tornS, List.getD_eq_getElem?_getD]
    rw [List.getElem?_append_right (by rw [List.length_take]; omega), List.length_take, Nat.min_eq_left (by omega), List.getElem?_drop, show c + (63 - c) = 63 by omega]
    decide
/-- What may stand where a record was being put. -/
def Mixed (rd : Int → Sec) (ls : List (List UInt8)) (bs : List UInt8) : Prop := ∀ j, ((sizeS ls : Nat) : Int) ≤ j → rd j = zs ∨ (∃ (i : Nat) (h : i < (sectorsP ((ls.length + 1 : Nat) : Int) bs).length), j = ((sizeS ls : Nat) : Int) + i ∧ rd j = (sectorsP ((ls.length + 1 : Nat) : Int) bs)[i]) ∨ (rd j).getD 63 0 ≠ 1
theorem Half.crash {D : DS} {ls : List (List UInt8)} {bs : List UInt8} (h : Half D ls bs) (mask torn n : Int) : Calm (D.crash mask torn n) ∧ Shows (D.crash mask torn n).read 0 (flatS 0 ls) ∧ Mixed (D.crash mask torn n).read ls bs := by
  obtain ⟨m, hm, hws⟩ := h.ws
  have hss : (sectorsP ((ls.length + 1 : Nat) : Int) bs).length = piecesN bs.length := sectorsP_len _ _
  have hr : ∀ j, (D.crash mask torn n).read j = sget (crashN mask torn (cutN n) D.s (wsec ((sizeS ls : Nat) : Int) ((sectorsP ((ls.length + 1 : Nat) : Int) bs).take m)) ((sectorsP ((ls.length + 1 : Nat) : Int) bs).take m).length) j := fun j => by
    show sget (crashN mask torn (cutN n) D.s D.ws D.ws.length) j = _
    rw [hws, wsec_len]
  refine ⟨Calm.crash h.ok h.inn _ _ _, fun j hj => ?_, fun j hj => ?_⟩
  · rw [hr]
    rcases crash_wsec mask torn (cutN n) D.s ((sectorsP ((ls.length + 1 : Nat) : Int) bs).take m) ((sizeS ls : Nat) : Int) (0 + j) _ (Nat.le_refl _) with e | ⟨i, hi, e, _⟩
    · rw [e]; exact h.shows j hj
    · simp only [sizeS] at e; omega
  · rw [hr]
    rcases crash_wsec mask torn (cutN n) D.s ((sectorsP ((ls.length + 1 : Nat) : Int) bs).take m) ((sizeS ls : Nat) : Int) j _ (Nat.le_refl _) with e | ⟨i, hi, e, e2 | e2⟩
    · left; rw [e]; exact h.zero j hj
    · right; left
      refine ⟨i, by rw [List.length_take] at hi; omega, e, ?_⟩
      rw [e2, List.getElem_take]
    · right
      rw [h.zero j hj, List.getElem_take] at e2
      have hi2 : i < (sectorsP ((ls.length + 1 : Nat) : Int) bs).length := by rw [List.length_take] at hi; omega
      rcases torn_end (new := (sectorsP ((ls.length + 1 : Nat) : Int) bs)[i]) (c := cutN n) (sectorsP_sec _ _ _ (List.getElem_mem _)) (cutN_le n) with q | q
      · left; exact ⟨i, hi2, e, by rw [e2, q]⟩
      · right; rw [e2]; exact q
/-- Open behind such a crash. -/
theorem open_mixed {D : DS} {ls : List (List UInt8)} {bs : List UInt8} (h : Calm D) (hsh : ∀ b ∈ ls, b.length ≤ 3000) (hb : bs.length ≤ 3000) (hro : sizeS ls + piecesN bs.length ≤ 2048) (hs : Shows D.read 0 (flatS 0 ls)) (hm : Mixed D.read ls bs) :
    ∃ D' ls', (ls' = ls ∨ ls' = ls ++ [bs]) ∧ openP D = ⟨0, ls', ((sizeS ls' : Nat) : Int), D'⟩ ∧ LogD D' ls' ∧ D'.ar = false ∧ D'.dn = false := by
  have hge := sizeS_ge ls
  have hpl := piecesN_le hb
  have hpp := piecesN_pos bs.length
  have hss : (sectorsP ((ls.length + 1 : Nat) : Int) bs).length = piecesN bs.length := sectorsP_len _ _
  obtain ⟨f, hf⟩ : ∃ f, fuel0 = ls.length + (f + 1) := ⟨fuel0 - ls.length - 1, by rw [fuel0_eq]; omega⟩
  have sc := scan_log (rd := D.read) ls 0 0 (f + 1) hsh (by omega) hs
  rw [← hf, show ((0 : Nat) : Int) = 0 from rfl, Int.zero_add, Nat.zero_add, show (((flatS 0 ls).length : Nat) : Int) = ((sizeS ls : Nat) : Int) from rfl] at sc
  cases hst : standsP D.read (((ls.length : Nat) : Int) + 1) ((sizeS ls : Nat) : Int) with
  | none =>
    rw [scan_stop hst] at sc
    obtain ⟨D', r1, r2⟩ := open_log h (by simpa using sc) hsh (by omega) hs
    exact ⟨D', ls, .inl rfl, r1, r2⟩
  | some p =>
    obtain ⟨b, all⟩ := p
    obtain ⟨f1, f2, f3⟩ := standsP_facts (DS.read_len h.ok _) hst
    have pick : ∀ (k : Nat) (hk : (k : Int) < all), ∃ hk2 : k < (sectorsP ((ls.length + 1 : Nat) : Int) bs).length, D.read (((sizeS ls : Nat) : Int) + k) = (sectorsP ((ls.length + 1 : Nat) : Int) bs)[k] := fun k hk => by
      obtain ⟨x, hx⟩ := f3 k hk
      rcases hm (((sizeS ls : Nat) : Int) + k) (by omega) with q | ⟨i, hi, e, q⟩ | q
      · rw [q, pieceP_zs] at hx; cases hx
      · obtain rfl : i = k := by omega
        exact ⟨hi, q⟩
      · rw [pieceP_end q] at hx; cases hx
    obtain ⟨h00, e00⟩ := pick 0 f1
    obtain ⟨x0, hx0⟩ := f3 0 f1
    rw [e00, show (((ls.length : Nat) : Int) + 1) = ((ls.length + 1 : Nat) : Int) by omega, piece_sect h00 (by omega) (by omega) hb] at hx0
    injection hx0 with hx0
    simp only [Prod.mk.injEq] at hx0
    have hall : all = ((piecesN bs.length : Nat) : Int) := hx0.2.symm
    have hst2 := stands_sect (rd := D.read) (number := ((ls.length + 1 : Nat) : Int)) (at' := ((sizeS ls : Nat) : Int)) (b := bs) (by omega) (by omega) hb (fun j hj => (pick j (by rw [hall]; rw [hss] at hj; omega)).2)
    rw [show ((ls.length + 1 : Nat) : Int) = ((ls.length : Nat) : Int) + 1 by omega] at hst2
    rw [scan_go hst2] at sc
    have hst3 : standsP D.read (((ls.length : Nat) : Int) + 1 + 1) (((sizeS ls : Nat) : Int) + ((piecesN bs.length : Nat) : Int)) = none := by
      refine stands_zs ?_
      rcases hm (((sizeS ls : Nat) : Int) + ((piecesN bs.length : Nat) : Int)) (by omega) with q | ⟨i, hi, e, _⟩ | q
      · rw [q]; exact zs_end
      · rw [hss] at hi; omega
      · exact q
    rw [scan_stop hst3] at sc
    have hsz := sizeS_add ls bs
    have sc2 : scanP D.read fuel0 0 0 = (ls ++ [bs], ((sizeS (ls ++ [bs]) : Nat) : Int)) := by
      rw [sc, hsz]; simp
    have hsh2 : Shows D.read 0 (flatS 0 (ls ++ [bs])) := by
      rw [flatS_append]
      refine Shows.append hs fun j hj => ?_
      simp only [flatS, List.append_nil, Nat.zero_add] at hj ⊢
      have := (pick j (by rw [hall]; rw [hss] at hj; omega)).2
      rw [← this]
      congr 1
      simp only [sizeS]; omega
    obtain ⟨D', r1, r2⟩ := open_log h sc2 (fun b hb' => by
      rcases List.mem_append.1 hb' with hb' | hb'
      · exact hsh b hb'
      · simp only [List.mem_singleton] at hb'; subst hb'; exact hb) (by omega) hsh2
    exact ⟨D', ls ++ [bs], .inr rfl, r1, r2⟩
end Wal

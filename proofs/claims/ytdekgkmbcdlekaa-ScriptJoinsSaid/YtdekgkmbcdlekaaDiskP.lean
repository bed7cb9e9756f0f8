/-
  A disk, in plain words: sectors that are sure, writes that wait.
-/
import Derived.Test.YtdekgkmbcdlekaaLegO
import Derived.WalkSpells
namespace Dsk
open Go Leg Codec Api

abbrev Sec := List UInt8
def zs : Sec := List.replicate 64 0
def secV (b : Sec) : Value := .agg (u8s b).toArray
abbrev Secs := List (Int × Sec)
def sget (s : Secs) (k : Int) : Sec := match s with
  | [] => zs
  | (a, b) :: s => if k = a then b else sget s k
def sput (s : Secs) (k : Int) (v : Sec) : Secs := match s with
  | [] => [(k, v)]
  | (a, b) :: s => if k = a then (a, v) :: s else (a, b) :: sput s k v
theorem sget_put (s : Secs) (k j : Int) (v : Sec) : sget (sput s k v) j = if j = k then v else sget s j := by
  induction s with
  | nil => simp [sput, sget]
  | cons p s ih =>
    obtain ⟨a, b⟩ := p
    simp only [sput]
    by_cases h : k = a
    · subst h
      rw [if_pos rfl]
      by_cases h2 : j = k
      · simp [sget, h2]
      · simp [sget, h2]
    · rw [if_neg h]
      simp only [sget]
      by_cases h2 : j = a
      · subst h2
        rw [if_pos rfl, if_pos rfl, if_neg (by omega)]
      · rw [if_neg h2, if_neg h2, ih]
def kvS (s : Secs) : List (Int × Value) := s.map fun p => (p.1, secV p.2)
theorem kget_kvS (s : Secs) (k : Int) : (kget (kvS s) k).getD (secV zs) = secV (sget s k) := by
  induction s with
  | nil => rfl
  | cons p s ih =>
    obtain ⟨a, b⟩ := p
    simp only [kvS, List.map_cons, kget, sget] at ih ⊢
    split
    · rfl
    · exact ih
theorem kput_kvS (s : Secs) (k : Int) (v : Sec) : kput (kvS s) k (secV v) = kvS (sput s k v) := by
  induction s with
  | nil => rfl
  | cons p s ih =>
    obtain ⟨a, b⟩ := p
    simp only [kvS, List.map_cons, kput, sput] at ih ⊢
    split
    · rfl
    · rw [ih]; rfl
/-- A write's cells. -/
def wcell (p : Int × Sec) : List Value := .int .i64 p.1 :: u8s p.2
def wflat (ws : Secs) : List Value := ws.flatMap wcell
/-- Bytes, padded to a sector. -/
def padS (b : List UInt8) : Sec := b ++ List.replicate (64 - b.length) 0
theorem padS_len {b : List UInt8} (h : b.length ≤ 64) : (padS b).length = 64 := by simp [padS]; omega
/-- All sectors are whole. -/
def Whole (s : Secs) : Prop := ∀ p ∈ s, p.2.length = 64
theorem wcell_len {p : Int × Sec} (h : p.2.length = 64) : (wcell p).length = 65 := by simp [wcell, u8s, h]
theorem wflat_len {ws : Secs} (h : Whole ws) : (wflat ws).length = ws.length * 65 := by
  induction ws with
  | nil => rfl
  | cons p ws ih =>
    have h1 := wcell_len (h p (by simp))
    have h2 := ih fun q hq => h q (by simp [hq])
    simp only [wflat, List.flatMap_cons, List.length_append, List.length_cons] at h2 ⊢
    rw [h1, h2]; omega
/-- The write at a place. -/
theorem wflat_get {ws : Secs} (h : Whole ws) {k : Nat} (hk : k < ws.length) : ((wflat ws).drop (k * 65)).take 65 = wcell ws[k] := by
  induction ws generalizing k with
  | nil => simp at hk
  | cons p ws ih =>
    have h1 := wcell_len (h p (by simp))
    simp only [wflat, List.flatMap_cons] at ih ⊢
    cases k with
    | zero =>
      simp only [Nat.zero_mul, List.drop_zero, List.getElem_cons_zero]
      rw [List.take_append_of_le_length (by omega), List.take_of_length_le (by omega)]
    | succ k =>
      rw [List.drop_append, List.drop_of_length_le (by omega), h1, show (k + 1) * 65 - 65 = k * 65 by omega, List.nil_append]
      simpa using ih (fun q hq => h q (by simp [hq])) (by simpa using hk)
theorem sget_whole {s : Secs} (h : Whole s) (k : Int) : (sget s k).length = 64 := by
  induction s with
  | nil => simp [sget, zs]
  | cons p s ih =>
    obtain ⟨a, b⟩ := p
    simp only [sget]
    split
    · exact h (a, b) (by simp)
    · exact ih fun q hq => h q (by simp [hq])
theorem Whole.put {s : Secs} (h : Whole s) (k : Int) {v : Sec} (hv : v.length = 64) : Whole (sput s k v) := by
  induction s with
  | nil => intro p hp; simp only [sput, List.mem_singleton] at hp; subst hp; exact hv
  | cons p s ih =>
    obtain ⟨a, b⟩ := p
    intro q hq
    simp only [sput] at hq
    split at hq
    · rcases List.mem_cons.1 hq with rfl | hq
      · exact hv
      · exact h q (by simp [hq])
    · rcases List.mem_cons.1 hq with rfl | hq
      · exact h (a, b) (by simp)
      · exact ih (fun q hq => h q (by simp [hq])) q hq
theorem Whole.add {s : Secs} (h : Whole s) (k : Int) {v : Sec} (hv : v.length = 64) : Whole (s ++ [(k, v)]) := fun p hp => by
  rcases List.mem_append.1 hp with hp | hp
  · exact h p hp
  · simp only [List.mem_singleton] at hp; subst hp; exact hv
section
variable {P : Program} {n : Nat} {D : List Deferred} {L : List (Nat × Value)} {S : World → Prop} {o : Oper}
theorem PV.mapNil {t t' k e m : TypeId} {x y : Operand} (ho : o.op = .binOp .eql t x y t') (hu : P.underlying t = some (.map k e)) (hx : evL L x = some (.map (some m))) (hy : evL L y = some (.map none)) : PV P n D L S o (.bool false) :=
  PV.bin ho hx hy fun w => by
    have e : (Op.equal t (.map (some m)) (.map none)).run P w = .ok false w := run_equalIn_map_nil w 9999 t k e (some m) hu
    simp [eqGuard, binOp, e]
end
end Dsk
namespace Dsk
open Go Leg Codec Api
theorem wr_pad {k : Int} {b : List UInt8} (h : b.length ≤ 64) : wr (.int .i64 k :: u8s zs) 1 ((u8s b).take (min b.length 64)) = wcell (k, padS b) := by
  have e : (u8s b).take (min b.length 64) = u8s b := List.take_of_length_le (by rw [u8s_length]; omega)
  rw [e, wr, u8s_length]
  have e2 : (Value.int IntKind.i64 k :: u8s zs).drop (1 + b.length) = u8s (List.replicate (64 - b.length) 0) := by
    rw [show 1 + b.length = b.length + 1 by omega, List.drop_succ_cons]
    rw [u8s, u8s, zs, ← List.map_drop, List.drop_replicate]
  rw [e2]
  simp only [wcell, padS, u8s, List.map_append, List.take_succ_cons, List.take_zero, List.cons_append, List.nil_append]
/-- A fold that lays a list's values in, one behind the other. -/
theorem fold_set (vs : List Value) : ∀ (j : Nat) (pre zeros : List Value), pre.length = j → zeros.length = vs.length →
    ((vs.zipIdx j).foldl (fun (cs : Array Value) (c, i) => cs.setIfInBounds (0 + i) c) (pre ++ zeros).toArray) = (pre ++ vs).toArray := by
  induction vs with
  | nil => intro j pre zeros _ h; rw [List.eq_nil_of_length_eq_zero h]; rfl
  | cons v vs ih =>
    intro j pre zeros hp hz
    match zeros, hz with
    | z :: zeros, hz =>
      rw [List.zipIdx_cons, List.foldl_cons]
      have e : (pre ++ z :: zeros).toArray.setIfInBounds (0 + j) v = ((pre ++ [v]) ++ zeros).toArray := by
        rw [Nat.zero_add, List.setIfInBounds_toArray, List.set_append_right _ _ (by omega), hp, Nat.sub_self, List.set_cons_zero, List.append_assoc]
        rfl
      simp only [e]
      rw [ih (j + 1) (pre ++ [v]) zeros (by simp [hp]) (by simpa using hz), List.append_assoc]
      rfl
theorem fill_whole {zeros : Array Value} {vs : List Value} (h : zeros.size = vs.length) : Instr.fill (fun i => some (i * vs.length, vs.length)) zeros [(0, .agg vs.toArray)] = some vs.toArray := by
  have e := fold_set vs 0 [] zeros.toList rfl (by simpa using h)
  simp only [List.nil_append, Array.toArray_toList] at e
  simp only [Instr.fill, Value.cells, List.size_toArray, Nat.zero_mul, Nat.zero_add, ne_eq, not_true_eq_false, false_or, decide_false, Bool.false_or]
  rw [if_neg (by simp [h])]
  rw [← Array.foldl_toList, Array.toList_zipIdx]
  simp only [Nat.zero_add] at e
  rw [e]
theorem fill_at {zeros : Array Value} {vs : List Value} {size : Nat} (h : vs.length = size) (hz : zeros.size = size) : Instr.fill (fun i => some (i * size, size)) zeros [(0, .agg vs.toArray)] = some vs.toArray := by
  subst h; exact fill_whole hz
theorem wcell_one (p : Int × Sec) : ∀ u ∈ wcell p, u.oneCell' = true := by
  intro u hu
  rcases List.mem_cons.1 hu with rfl | hu
  · rfl
  · exact u8s_one _ u hu
end Dsk
namespace Leg
open Go
section
variable {P : Program} {w0 : World} {F : Hl} {n : Nat} {ops : Array Oper} {Q : QQ} {D : List Deferred} {L : List (Nat × Value)} {H : List HP} {l : List Oper}
theorem TL.openAtS {v : Value} {nn e size : Nat} {xs : List Value} (k : Nat) (hpos : 0 < nn) (hk : Nat.blt k H.length = true) (hH : H.getD k (fun _ => True) = own v nn xs e size)
    (h : ∀ g cap cur, v = .slice (some ⟨g, 0, none⟩) nn cap → nn ≤ cap → cap ≤ maxLen → cur.length = cap * size → cur.take (nn * size) = xs → TL P w0 F n ops Q l D L (H.set k (blkA g cur e))) : TL P w0 F n ops Q l D L H :=
  TL.openOwn k hk hH (by cases nn with | zero => cases hpos | succ m => rfl) h
end
/-- An open slice is closed again. -/
theorem sep_ownS {H : List HP} {g cap nn e size : Nat} {cur xs : List Value} (i : Nat) (hi : Nat.blt i H.length = true) (hH : H.getD i (fun _ => True) = blkA g cur e) (h1 : nn ≤ cap) (h2 : cap ≤ maxLen) (h3 : cur.length = cap * size) (h4 : cur.take (nn * size) = xs) {h : Hl} (s : sep H h) :
    sep (H.set i (own (.slice (some ⟨g, 0, none⟩) nn cap) nn xs e size)) h := by
  obtain ⟨x, y, d, rfl, a, b⟩ := sep_get i (lb hi) s
  rw [hH] at a
  refine sep_put i (lb hi) ⟨x, y, d, rfl, ?_, b⟩
  refine ⟨?_, .inr ⟨g, cap, cur.toArray, rfl, a, h1, h2, by simp [h3], by simpa using h4⟩⟩
  have : nn * size ≤ cap * size := Nat.mul_le_mul_right size h1
  rw [← h4, List.length_take]
  omega
end Leg
namespace Dsk
open Go Leg Codec Api
/-- The write at a place. -/
def wat (ws : Secs) (k : Nat) : Int × Sec := ws.getD k (0, zs)
theorem wat_eq {ws : Secs} {k : Nat} (hk : k < ws.length) : wat ws k = ws[k] := by simp [wat, List.getD_eq_getElem?_getD, hk]
theorem wat_len {ws : Secs} (h : Whole ws) {k : Nat} (hk : k < ws.length) : (wat ws k).2.length = 64 := by rw [wat_eq hk]; exact h _ (List.getElem_mem hk)
theorem wflat_atN {ws : Secs} (h : Whole ws) {k : Nat} (hk : k < ws.length) : ((wflat ws).drop (k * 65)).take 65 = wcell (wat ws k) := by rw [wat_eq hk]; exact wflat_get h hk
theorem wflat_at0 {ws : Secs} (h : Whole ws) {k : Nat} (hk : k < ws.length) : (wflat ws)[k * 65]? = some (.int .i64 (wat ws k).1) := by
  have e := congrArg (fun l : List Value => l[0]?) (wflat_atN h hk)
  simpa [wcell] using e
theorem wflat_at1 {ws : Secs} (h : Whole ws) {k : Nat} (hk : k < ws.length) : ((wflat ws).drop (k * 65 + 1)).take 64 = u8s (wat ws k).2 := by
  have e := congrArg (fun l : List Value => l.drop 1) (wflat_atN h hk)
  simp only [List.drop_take, List.drop_drop, wcell, List.drop_succ_cons, List.drop_zero] at e
  exact e
theorem wcell_tail {p : Int × Sec} (h : p.2.length = 64) : ((wcell p).drop 1).take 64 = u8s p.2 := by
  simp only [wcell, List.drop_succ_cons, List.drop_zero]
  exact List.take_of_length_le (by rw [u8s_length, h]; exact Nat.le_refl _)
theorem wcell_tailN {p : Int × Sec} {c : Nat} (h : p.2.length = 64) (hc : c ≤ 64) : ((wcell p).drop 1).take (min c 64) = (u8s p.2).take c := by
  simp only [wcell, List.drop_succ_cons, List.drop_zero]
  congr 1; omega
theorem take_all {l : List Value} {n : Nat} (h : l.length = n) : (l.drop 0).take n = l := by rw [List.drop_zero, List.take_of_length_le (by omega)]
/-- The first k writes laid down. -/
def layN (s ws : Secs) : Nat → Secs
  | 0 => s
  | k + 1 => sput (layN s ws k) (wat ws k).1 (wat ws k).2
theorem Whole.lay {s ws : Secs} (h : Whole s) (hw : Whole ws) : ∀ k, k ≤ ws.length → Whole (layN s ws k)
  | 0, _ => h
  | k + 1, hk => (Whole.lay h hw k (by omega)).put _ (wat_len hw (by omega))
def tornS (old new : Sec) (c : Nat) : Sec := new.take c ++ old.drop c
theorem tornS_len {old new : Sec} {c : Nat} (h1 : old.length = 64) (h2 : new.length = 64) : (tornS old new c).length = 64 := by simp [tornS]; omega
def cutN (n : Int) : Nat := (min (max n 0) 64).toNat
theorem cutN_eq (n : Int) : min (max n 0) 64 = ((cutN n : Nat) : Int) := by unfold cutN; omega
theorem cutN_le (n : Int) : cutN n ≤ 64 := by unfold cutN; omega
/-- What a crash leaves of a write. -/
def crashStep (mask torn : Int) (c : Nat) (s : Secs) (k : Nat) (p : Int × Sec) : Secs :=
  if (k : Int) = torn then sput s p.1 (tornS (sget s p.1) p.2 c) else if mask.fdiv (2 ^ (k % 32)) % 2 = 1 then sput s p.1 p.2 else s
def crashN (mask torn : Int) (c : Nat) (s ws : Secs) : Nat → Secs
  | 0 => s
  | k + 1 => crashStep mask torn c (crashN mask torn c s ws k) k (wat ws k)
theorem Whole.crash {mask torn : Int} {c : Nat} {s ws : Secs} (h : Whole s) (hw : Whole ws) : ∀ k, k ≤ ws.length → Whole (crashN mask torn c s ws k)
  | 0, _ => h
  | k + 1, hk => by
    have ih := Whole.crash (mask := mask) (torn := torn) (c := c) h hw k (by omega)
    simp only [crashN, crashStep]
    split
    · exact ih.put _ (tornS_len (sget_whole ih _) (wat_len hw (by omega)))
    · split
      · exact ih.put _ (wat_len hw (by omega))
      · exact ih
/-- A sector as it was written last. -/
def readN (s ws : Secs) (at' : Int) : Nat → Sec
  | 0 => sget s at'
  | k + 1 => if (wat ws k).1 = at' then (wat ws k).2 else readN s ws at' k
theorem readN_len {s ws : Secs} (h : Whole s) (hw : Whole ws) (at' : Int) : ∀ k, k ≤ ws.length → (readN s ws at' k).length = 64
  | 0, _ => sget_whole h _
  | k + 1, hk => by
    simp only [readN]
    split
    · exact wat_len hw (by omega)
    · exact readN_len h hw at' k (by omega)
theorem readN_hit {s ws : Secs} {at' : Int} {k : Nat} (h : (wat ws k).1 = at') : readN s ws at' (k + 1) = (wat ws k).2 := by simp [readN, h]
theorem readN_miss {s ws : Secs} {at' : Int} {k : Nat} (h : (wat ws k).1 ≠ at') : readN s ws at' (k + 1) = readN s ws at' k := by simp [readN, h]
theorem torn_copy {old new : Sec} {c m : Nat} (hc : c ≤ 64) (h1 : old.length = 64) (h2 : new.length = 64) (hm : m = c) : wr (u8s old) 0 (((u8s new).take c).take m) = u8s (tornS old new c) := by
  subst hm
  have : ((u8s new).take m).length = m := by rw [List.length_take, u8s_length]; omega
  rw [List.take_of_length_le (by omega), wr, this, List.take_zero, List.nil_append, Nat.zero_add]
  simp [u8s, tornS, List.map_take, List.map_drop]
/-- A disk in plain words. -/
structure DS where
  s : Secs
  ws : Secs
  ar : Bool
  lf : Int
  dn : Bool
structure DS.Ok (D : DS) : Prop where
  s : Whole D.s
  ws : Whole D.ws
  lf : 0 ≤ D.lf ∧ D.lf ≤ 9223372036854775807
def DS.new : DS := ⟨[], [], false, 0, false⟩
def DS.arm (D : DS) (n : Int) : DS := { D with ar := true, lf := max n 0 }
def DS.write (D : DS) (at' : Int) (bs : List UInt8) : Int × DS :=
  if at' < 0 ∨ 2048 ≤ at' ∨ 64 < bs.length then (5, D)
  else if D.dn = true ∨ (D.ar = true ∧ D.lf = 0) then (4, { D with dn := true })
  else (0, { D with ws := D.ws ++ [(at', padS bs)], lf := if D.ar = true then D.lf - 1 else D.lf, dn := false })
def DS.sync (D : DS) : Int × DS := if D.dn = true then (4, D) else (0, { D with s := layN D.s D.ws D.ws.length, ws := [] })
def DS.crash (D : DS) (mask torn n : Int) : DS := ⟨crashN mask torn (cutN n) D.s D.ws D.ws.length, [], false, 0, false⟩
def DS.read (D : DS) (at' : Int) : Sec := readN D.s D.ws at' D.ws.length
theorem whole_nil : Whole [] := fun _ h => absurd h (by simp)
theorem DS.new_ok : DS.new.Ok := ⟨whole_nil, whole_nil, ⟨by decide, by decide⟩⟩
theorem DS.arm_ok {D : DS} (h : D.Ok) {n : Int} (hn : n ≤ 9223372036854775807) : (D.arm n).Ok := ⟨h.s, h.ws, by simp only [DS.arm]; omega⟩
theorem DS.write_ok {D : DS} (h : D.Ok) (at' : Int) (bs : List UInt8) : (D.write at' bs).2.Ok := by
  unfold DS.write
  split
  · exact h
  · split
    · exact ⟨h.s, h.ws, h.lf⟩
    · rename_i h1 h2
      refine ⟨h.s, h.ws.add _ (padS_len (by omega)), ?_⟩
      have := h.lf
      show 0 ≤ (if D.ar = true then D.lf - 1 else D.lf) ∧ (if D.ar = true then D.lf - 1 else D.lf) ≤ 9223372036854775807
      split <;> rename_i h3
      · have : D.lf ≠ 0 := fun q => h2 (.inr ⟨h3, q⟩)
        exact ⟨by omega, by omega⟩
      · exact this
theorem DS.sync_ok {D : DS} (h : D.Ok) : D.sync.2.Ok := by
  unfold DS.sync
  split
  · exact h
  · exact ⟨h.s.lay h.ws _ (Nat.le_refl _), whole_nil, h.lf⟩
theorem DS.crash_ok {D : DS} (h : D.Ok) (mask torn n : Int) : (D.crash mask torn n).Ok := ⟨h.s.crash h.ws _ (Nat.le_refl _), whole_nil, ⟨by simp [DS.crash], by simp [DS.crash]⟩⟩
theorem DS.read_len {D : DS} (h : D.Ok) (at' : Int) : (D.read at').length = 64 := readN_len h.s h.ws _ _ (Nat.le_refl _)
theorem DS.write_ws {D : DS} {at' : Int} {bs : List UInt8} : (D.write at' bs).2.ws.length ≤ D.ws.length + 1 := by
  unfold DS.write
  split
  · simp
  · split
    · simp
    · simp
theorem DS.sync_ws {D : DS} : D.sync.2.ws.length ≤ D.ws.length := by
  unfold DS.sync
  split <;> simp
/-- The pieces of a disk. -/
abbrev diskP (DT WT : Nat) (d : Nat) (D : DS) : HP := pack fun x : Nat × Value => [blkA d [.map (some x.1), x.2, .bool D.ar, .int .i64 D.lf, .bool D.dn] DT, mapP x.1 (kvS D.s), own x.2 D.ws.length (wflat D.ws) WT 65]
end Dsk

/-
  My own layer, fifth part: slices that a call makes and lets grow; texts.
-/
import Derived.Test.YtdekgkmbcdlekaaLegD
import Derived.Great.BuildSlice
namespace Leg
open Go

/-- A slice that is owned with its block: n elements of 'size' cells, that hold xs. -/
def own (v : Value) (n : Nat) (xs : List Value) (e size : Nat) : HP := fun h =>
  xs.length = n * size ∧ ((v = .slice none 0 0 ∧ n = 0 ∧ h = em) ∨
    ∃ g cap cur, v = .slice (some ⟨g, 0, none⟩) n cap ∧ h = sg g (.cells cur e (0, 0)) ∧ n ≤ cap ∧ cap ≤ maxLen ∧ cur.size = cap * size ∧ cur.toList.take (n * size) = xs)

/-- A slice whose elements can be read. -/
def Src (S : World → Prop) (x : Value) (m : Nat) (news : List Value) (size : Nat) : Prop :=
  news.length = m * size ∧ ((x = .slice none 0 0 ∧ m = 0) ∨ ∃ a c, x = .slice (some a) m c ∧ ∀ w, S w → ∀ j u, news[j]? = some u → w.cell? (a.add j) = some u)

theorem Src.rd {S : World → Prop} {b off m c size : Nat} {cs news : List Value} {e : TypeId} {z : Nat × Nat} (hl : news.length = m * size) (hR : Rd S b (.cells cs.toArray e z)) (hc : (cs.drop off).take news.length = news) : Src S (.slice (some ⟨b, off, none⟩) m c) m news size :=
  ⟨hl, .inr ⟨⟨b, off, none⟩, c, rfl, fun w s j u h => by
    rw [addL, cell_ofL (hR w s)]
    have hj := (List.getElem?_eq_some_iff.1 h).1
    rw [← hc, List.getElem?_take, if_pos hj] at h
    simpa using h⟩⟩
theorem Sat.own_open {H : List HP} {F : Hl} {w : World} {i : Nat} {g cap n : Nat} {xs : List Value} {e size : Nat} (s : Sat H F w) (hi : i < H.length) (hH : H.getD i (fun _ => True) = own (.slice (some ⟨g, 0, none⟩) n cap) n xs e size) :
    ∃ cur, Sat (H.set i (obj g (.cells cur e (0, 0)))) F w ∧ n ≤ cap ∧ cap ≤ maxLen ∧ cur.size = cap * size ∧ cur.toList.take (n * size) = xs := by
  obtain ⟨h, d, e', x⟩ := s
  obtain ⟨h1, h2, d', rfl, a, y⟩ := sep_get i hi x
  rw [hH] at a
  rcases a with ⟨_, ⟨h0, _⟩ | ⟨g', cap', cur, hv, hh, r⟩⟩
  · cases h0
  · simp only [Value.slice.injEq, Option.some.injEq, Addr.mk.injEq, and_true, true_and] at hv
    obtain ⟨rfl, rfl⟩ := hv
    exact ⟨cur, ⟨_, d, e', sep_put i hi ⟨h1, h2, d', rfl, hh, y⟩⟩, r⟩
theorem getD_set {H : List HP} {i : Nat} (hi : i < H.length) (q : HP) : (H.set i q).getD i (fun _ => True) = q := by simp [List.getD_eq_getElem?_getD, hi]
theorem Sat.own_block {H : List HP} {F : Hl} {w : World} {i : Nat} {g cap n : Nat} {xs : List Value} {e size : Nat} (s : Sat H F w) (hi : i < H.length) (hH : H.getD i (fun _ => True) = own (.slice (some ⟨g, 0, none⟩) n cap) n xs e size) :
    ∃ cur, w.heap[g]? = some (.cells cur e (0, 0)) ∧ n ≤ cap ∧ cap ≤ maxLen ∧ cur.size = cap * size ∧ cur.toList.take (n * size) = xs := by
  obtain ⟨cur, s', r⟩ := s.own_open hi hH
  exact ⟨cur, s'.block i (by simpa using hi) (getD_set hi _), r⟩
theorem Sat.own_len {H : List HP} {F : Hl} {w : World} {i : Nat} {v : Value} {n : Nat} {xs : List Value} {e size : Nat} (s : Sat H F w) (hi : i < H.length) (hH : H.getD i (fun _ => True) = own v n xs e size) : xs.length = n * size := by
  obtain ⟨h, d, e', x⟩ := s
  obtain ⟨h1, h2, d', rfl, a, _⟩ := sep_get i hi x
  rw [hH] at a
  exact a.1
/-- What an owned slice's value may be. -/
theorem Sat.own_form {H : List HP} {F : Hl} {w : World} {i : Nat} {v : Value} {n : Nat} {xs : List Value} {e size : Nat} (s : Sat H F w) (hi : i < H.length) (hH : H.getD i (fun _ => True) = own v n xs e size) :
    (v = .slice none 0 0 ∧ n = 0 ∧ xs = []) ∨ ∃ g cap, v = .slice (some ⟨g, 0, none⟩) n cap := by
  obtain ⟨h, d, e', x⟩ := s
  obtain ⟨h1, h2, d', rfl, a, _⟩ := sep_get i hi x
  rw [hH] at a
  rcases a with ⟨hl, ⟨h0, hn, _⟩ | ⟨g', cap', cur, hv, _⟩⟩
  · subst hn; exact .inl ⟨h0, rfl, List.eq_nil_of_length_eq_zero (by simpa using hl)⟩
  · exact .inr ⟨_, _, hv⟩
theorem Src.own {H : List HP} {F : Hl} {v : Value} {n : Nat} {xs : List Value} {e size : Nat} (i : Nat) (hi : Nat.blt i H.length = true) (hH : H.getD i (fun _ => True) = Leg.own v n xs e size) {w0 : World} (s0 : Sat H F w0) : Src (Sat H F) v n xs size := by
  refine ⟨s0.own_len (lb hi) hH, ?_⟩
  rcases s0.own_form (lb hi) hH with ⟨rfl, rfl, rfl⟩ | ⟨g, cap, rfl⟩
  · exact .inl ⟨rfl, rfl⟩
  · refine .inr ⟨⟨g, 0, none⟩, cap, rfl, fun w s j u h => ?_⟩
    rw [addL]
    obtain ⟨cur, h1, _, _, _, h2⟩ := s.own_block (lb hi) hH
    subst h2
    rw [List.getElem?_take] at h
    split at h
    · simpa [World.cell?, h1] using h
    · cases h

theorem sep_swap {q : HP} {H : List HP} {h : Hl} (k : Nat) (hk : k < H.length) (s : sep (q :: H) h) : sep (H.set k q) h :=
  sep_put k hk (star_mono s (fun _ x => x) fun _ x => by
    obtain ⟨h1, h2, d, rfl, _, b⟩ := sep_get k hk x
    rw [jn_comm d]; exact sep_more _ b d.symm)
theorem Sat.swap {q q' : HP} {H : List HP} {F : Hl} {w : World} (k : Nat) (hk : k < H.length) (s : Sat (q :: H) F w) (hq : ∀ h, q h → q' h) : Sat (H.set k q') F w :=
  s.mono fun _ x => sep_swap k hk (star_mono x hq fun _ y => y)
theorem Sat.turn {q : HP} {H : List HP} {F : Hl} {w : World} (k : Nat) (hk : k < H.length) (s : Sat H F w) (hq : ∀ h, H.getD k (fun _ => True) h → q h) : Sat (H.set k q) F w :=
  s.mono fun _ x => sep_put k hk (star_mono (sep_get k hk x) hq fun _ y => y)

section
variable {P : Program} {w0 : World} {F : Hl} {n : Nat} {ops : Array Oper} {Q : QQ} {D : List Deferred} {L : List (Nat × Value)} {H : List HP} {o : Oper} {l : List Oper} {d : Nat} {S : World → Prop}

theorem run_appendL {w : World} {k nn m : Nat} {v x : Value} {xs news : List Value} {t ty e size bytes : Nat} {z : Value} (s : Sat H F w) (ht : P.underlying t = some (.slice e))
    (hi : (P.info? e).map (fun i => (i.zero, i.size, i.bytes)) = some (some z, size, bytes)) (hz : z.cells.size = size) (hsz : 0 < size)
    (hk : k < H.length) (hH : H.getD k (fun _ => True) = own v nn xs e size) (hx : Src (Sat H F) x m news size) (h1 : ∀ u ∈ news, u.oneCell' = true) (hb : nn + m ≤ maxLen) (hby : (nn + m) * bytes ≤ 140737488355328) :
    ∃ v' w', (Builtin.append_ #[t, t] ty #[v, x]).run P w = .ok v' w' ∧ Same w w' ∧ Sat (H.set k (own v' (nn + m) (xs ++ news) e size)) F w' := by
  obtain ⟨i, hie, hz0, rfl, rfl⟩ := info_parts hi
  have hlx := s.own_len hk hH
  have hll : (xs ++ news).length = (nn + m) * i.size := by rw [List.length_append, hlx, hx.1, Nat.add_mul]
  have hsmall : nn + m ≤ 9223372036854775807 := by simp only [maxLen] at hb; omega
  have fresh : ∀ old, old < nn + m → (∀ h, obj w.heap.size (.cells (xs.toArray ++ news.toArray ++ Builtin.zeroCells z.cells (grownCap w (nn + m) old e - (nn + m))) e) h →
      own (.slice (some ⟨w.heap.size, 0, none⟩) (nn + m) (grownCap w (nn + m) old e)) (nn + m) (xs ++ news) e i.size h) := fun old _ h hh => by
    have hge := grownCap_ge w (nn + m) old e
    refine ⟨hll, .inr ⟨_, _, _, rfl, hh, hge, grownCap_le_maxLen w (nn + m) old e hb, ?_, ?_⟩⟩
    · simp only [Array.size_append, List.size_toArray, size_zeroCells, hz, hlx, hx.1, ← Nat.add_mul]
      congr 1
      omega
    · simp only [Array.toList_append, List.append_assoc]
      rw [← List.append_assoc, ← hll]
      exact List.take_left
  have same : ∀ ob, Same w (w.drew.alloc ob) := fun ob => ⟨rfl, rfl, rfl, by simp⟩
  obtain ⟨hxl, hxx⟩ := hx
  rcases s.own_form hk hH with ⟨rfl, rfl, rfl⟩ | ⟨g, cap, rfl⟩
  · have nilcase : m = 0 → news = [] := fun hm => List.eq_nil_of_length_eq_zero (by rw [hxl, hm, Nat.zero_mul])
    by_cases hm : m = 0
    · have hn := nilcase hm
      subst hm; subst hn
      refine ⟨.slice none 0 0, w, ?_, Same.refl w, s.turn k hk (fun h hh => by rw [hH] at hh; simpa using hh)⟩
      rcases hxx with ⟨rfl, _⟩ | ⟨a0, c, rfl, _⟩ <;>
        simp [Builtin.append_, run_underlying ht, Go.sizeOf, typeInfo, hie, Builtin.lenOf, Builtin.firstCells, loadCells, loadCellsFrom]
    · rcases hxx with ⟨_, h0⟩ | ⟨a0, c, rfl, hc⟩
      · exact absurd h0 hm
      · have hr := run_append_nil (P := P) w t ty e i z ht hie hz0 a0 m c news hxl (fun j v hj => hc w s j v hj) (by omega) (by omega) (by simp only [Nat.zero_add] at hby; omega)
        refine ⟨_, _, hr, same _, ?_⟩
        have := fresh 0 (by omega)
        simp only [Nat.zero_add, List.nil_append, Array.empty_append] at this ⊢
        exact Sat.swap k hk (s.drew.alloc _) this
  · obtain ⟨cur, hH1, hnc, hcm, hcs, htake⟩ := s.own_open hk hH
    have hlen : k < (H.set k (obj g (.cells cur e (0, 0)))).length := by simpa using hk
    have hg := hH1.block k hlen (getD_set hk _)
    by_cases hroom : nn + m ≤ cap
    · have hput : Sat (H.set k (own (.slice (some ⟨g, 0, none⟩) (nn + m) cap) (nn + m) (xs ++ news) e i.size)) F (w.setRow g (cur.toList.take (nn * i.size) ++ news ++ cur.toList.drop (nn * i.size + news.length)).toArray) := by
        have hfit : nn * i.size + news.length ≤ cur.size := by rw [hxl, hcs, ← Nat.add_mul]; exact Nat.mul_le_mul_right _ hroom
        have h2 := hH1.write k hlen (getD_set hk _) (setRow_heap w g cur (cur.toList.take (nn * i.size) ++ news ++ cur.toList.drop (nn * i.size + news.length)).toArray e _ hg) (fun j hj => setRow_other w g j _ hj)
        rw [List.set_set] at h2
        have h3 := h2.turn (q := own (.slice (some ⟨g, 0, none⟩) (nn + m) cap) (nn + m) (xs ++ news) e i.size) k (by simpa using hk) (fun h hh => by
          rw [getD_set hk] at hh
          refine ⟨hll, .inr ⟨g, cap, _, rfl, hh, hroom, hcm, ?_, ?_⟩⟩
          · simp only [List.size_toArray, List.length_append, List.length_take, List.length_drop, Array.length_toList]
            omega
          · rw [htake, ← hll]
            exact List.take_left)
        rwa [List.set_set] at h3
      rcases hxx with ⟨rfl, hm⟩ | ⟨a0, c, rfl, hc⟩
      · subst hm
        have hn : news = [] := List.eq_nil_of_length_eq_zero (by rw [hxl, Nat.zero_mul])
        subst hn
        refine ⟨_, w, ?_, Same.refl w, s.turn k hk (fun h hh => by rw [hH] at hh; simpa using hh)⟩
        simp [Builtin.append_, run_underlying ht, Go.sizeOf, typeInfo, hie, Builtin.lenOf, Builtin.firstCells, hnc, storeCells]
      · have hfit : nn * i.size + news.length ≤ cur.size := by rw [hxl, hcs, ← Nat.add_mul]; exact Nat.mul_le_mul_right _ hroom
        exact ⟨_, _, run_append_room (P := P) w t ty e i ht hie g nn cap cur hg a0 m c news hxl (fun j v hj => hc w s j v hj) h1 hroom hfit, ⟨rfl, rfl, rfl, by simp⟩, hput⟩
    · rcases hxx with ⟨rfl, hm⟩ | ⟨a0, c, rfl, hc⟩
      · omega
      · have holds : ∀ j u, xs[j]? = some u → w.cell? ((⟨g, 0, none⟩ : Addr).add j) = some u := fun j u hj => by
          rw [addL]
          subst htake
          rw [List.getElem?_take] at hj
          split at hj
          · simpa [World.cell?, hg] using hj
          · cases hj
        have hr := run_append_grow (P := P) w t ty e i z ht hie hz0 ⟨g, 0, none⟩ nn cap xs hlx holds a0 m c news hxl (fun j v hj => hc w s j v hj) (by omega) (by omega) (growslice_fits (by omega) hby)
        exact ⟨_, _, hr, same _, Sat.swap k hk (s.drew.alloc _) (fresh cap (by omega))⟩

/-- append to a slice that is owned. -/
theorem TL.append {s x : Operand} {k nn m nn' : Nat} {v vx : Value} {xs news xs' : List Value} {t e size bytes : Nat} {z : Value} (hw : Want n D ops o L)
    (ho : o.op = .call { callee := .builtin .append, args := #[s, x], argTypes := #[t, t] }) (hd : o.dst = some d) (hn : Nat.blt d n = true) (ht : P.underlying t = some (.slice e))
    (hi : (P.info? e).map (fun i => (i.zero, i.size, i.bytes)) = some (some z, size, bytes)) (hz : z.cells.size = size) (hsz : Nat.blt 0 size = true) (hs : evL L s = some v) (hx : evL L x = some vx)
    (hk : Nat.blt k H.length = true) (hH : H.getD k (fun _ => True) = own v nn xs e size) (hsrc : ∀ w, Sat H F w → Src (Sat H F) vx m news size) (h1 : ∀ u ∈ news, u.oneCell' = true) (hb : nn + m ≤ maxLen) (hby : (nn + m) * bytes ≤ 140737488355328)
    (hnn : nn + m = nn') (hxs : xs ++ news = xs') (h : ∀ v', v'.oneCell' = true → TL P w0 F n ops Q l D ((d, v') :: L) (H.set k (own v' nn' xs' e size))) : TL P w0 F n ops Q (o :: l) D L H :=
  TL.step hw fun a w f sm q => by
    obtain ⟨v', w', hr, s', q'⟩ := run_appendL (ty := o.type) q ht hi hz (lb hsz) (lb hk) hH (hsrc w q) h1 hb hby
    unfold Oper.wp execOp
    simp only [ho, resolve, invoke, builtin, Sem.run_bind, Sem.run_pure, Result.andThen_ok, List.map_toArray, List.map_cons, List.map_nil, f.eval hs, f.eval hx, hr]
    rw [Oper.upon_value, hd]
    subst hnn; subst hxs
    have one : v'.oneCell' = true := by
      rcases q'.own_form (i := k) (by simpa using lb hk) (getD_set (lb hk) _) with ⟨rfl, _⟩ | ⟨g, c, rfl⟩ <;> rfl
    exact h v' one _ w' (f.put (lb hn) v') (sm.trans s') q'
/-- A slice that is written out. -/
theorem TL.buildSlice {t e len size bytes : Nat} {parts : Array (Nat × Operand)} {ps : List (Nat × Value)} {z : Value} {cells : Array Value} (hw : Want n D ops o L) (ho : o.op = .buildSlice t len parts) (hd : o.dst = some d) (hn : Nat.blt d n = true)
    (ht : P.underlying t = some (.slice e)) (hi : (P.info? e).map (fun i => (i.zero, i.size, i.bytes)) = some (some z, size, bytes)) (hs : Nat.blt (2 ^ 24) (len * size) = false) (h0 : Nat.beq (len * size) 0 = false)
    (hx : evp L parts.toList = some ps) (hf : Instr.fill (fun i => some (i * size, size)) ((Array.range (len * size)).map (z.cells[· % z.cells.size]!)) ps = some cells)
    (h : ∀ b, TL P w0 F n ops Q l D ((d, .slice (some ⟨b, 0, none⟩) len len) :: L) (obj b (.cells cells e) :: H)) : TL P w0 F n ops Q (o :: l) D L H :=
  TL.step hw fun a w f sm q => by
    obtain ⟨i, hie, hz0, rfl, rfl⟩ := info_parts hi
    have e1 : (parts.map fun x => (x.1, a.eval x.2)).toList = ps := f.evparts hx
    have hs' : ¬ len * i.size > 2 ^ 24 := fun hh => by
      have : Nat.blt (2 ^ 24) (len * i.size) = true := by simpa [Nat.blt_eq] using hh
      rw [this] at hs; cases hs
    have h0' : ¬ len * i.size = 0 := fun hh => by
      rw [hh] at h0; cases h0
    have hr := run_buildSlice (P := P) w t e len (parts.map fun x => (x.1, a.eval x.2)) cells i z ht hie hz0 hs' h0' (by rw [e1]; exact hf)
    have r : (execOp a.eval o).run P w = .ok (.value (.slice (some ⟨w.heap.size, 0, none⟩) len len)) (w.alloc (.cells cells e)) := by
      simp only [execOp, ho, Sem.run_bind, hr, Result.andThen_ok, Sem.run_pure]
    unfold Oper.wp
    rw [r, Oper.upon_value, hd]
    exact h _ _ _ (f.put (lb hn) _) (sm.trans ⟨rfl, rfl, rfl, by simp⟩) (q.alloc _)
/-- An empty slice that is no nil. -/
theorem TL.buildSlice0 {t e : Nat} (hw : Want n D ops o L) (ho : o.op = .buildSlice t 0 #[]) (hd : o.dst = some d) (hn : Nat.blt d n = true) (ht : P.underlying t = some (.slice e))
    {size : Nat} (hs : ((P.info? e).map (·.size)) = some size) (h : ∀ v, TL P w0 F n ops Q l D ((d, v) :: L) (own v 0 [] e size :: H)) : TL P w0 F n ops Q (o :: l) D L H :=
  TL.step hw fun a w f sm q => by
    have r : (execOp a.eval o).run P w = .ok (.value (.slice (some ⟨w.heap.size, 0, none⟩) 0 0)) (w.alloc (.cells #[] e)) := by
      have e0 : (Array.range 0).map (fun _ : Nat => (default : Value)) = #[] := by simp
      simp [execOp, ho, Instr.buildSlice, run_underlying ht, run_sizeL hs, Instr.fill, newRow, newObj, Sem.run]
      rw [e0]
    unfold Oper.wp
    rw [r, Oper.upon_value, hd]
    refine h _ _ _ (f.put (lb hn) _) (sm.trans ⟨rfl, rfl, rfl, by simp⟩) ((q.alloc _).mono fun g x => star_mono x (fun g' y => ?_) fun _ y => y)
    exact ⟨by simp, .inr ⟨_, 0, #[], rfl, y, Nat.le_refl _, Nat.zero_le _, by simp, by simp⟩⟩
/-- The slice of a whole array. -/
theorem PV.sliceArr {t e len : Nat} {x : Operand} {b j s : Nat} (ho : o.op = .slice t x none none none) (ht : P.underlying t = some (.array len e)) (hs : (P.info? e).map (·.size) = some s) (hx : evL L x = some (.pointer (some ⟨b, j, none⟩))) :
    PV P n D L S o (.slice (some ⟨b, j, none⟩) len len) := fun a w g _ => by
  simp [execOp, ho, g.eval hx, Instr.sliceAt, run_underlying ht, Instr.sureAddr, Instr.sliceBounds, run_sizeL hs, addL]

/-- A part of a struct or an array that is at hand as a value. -/
theorem run_part1 {t : TypeId} {dt : TypeDesc} (ht : P.underlying t = some dt) (hp : plainT dt = true) {cs : List Value} {j : Nat} {v : Value} (h : cs[j]? = some v) {w : World} : (part t cs.toArray j).run P w = .ok v w := by
  simp [part, run_isAggL ht, hp, h]
theorem run_partN {t : TypeId} {dt : TypeDesc} (ht : P.underlying t = some dt) (hp : plainT dt = false) {m : Nat} (hm : (P.info? t).map (·.size) = some m) {cs vs : List Value} {j : Nat} (h : (cs.drop j).take m = vs) {w : World} : (part t cs.toArray j).run P w = .ok (.agg vs.toArray) w := by
  subst h
  simp [part, run_isAggL ht, hp, run_sizeL hm]
theorem PV.index1 {t e len : Nat} {x y : Operand} {k : IntKind} {i : Int} {dt : TypeDesc} {cs : List Value} {v : Value} {s r : Nat} (ho : o.op = .index t x y) (ht : P.underlying t = some (.array len e)) (he : P.underlying e = some dt) (hp : plainT dt = true) (hs : (P.info? e).map (·.size) = some s)
    (hx : evL L x = some (.agg cs.toArray)) (hy : evL L y = some (.int k i)) (h0 : 0 ≤ i) (h1 : i < len) (hr : i.toNat * s = r) (hv : cs[r]? = some v) : PV P n D L S o v := fun a w g _ => by
  subst hr
  simp [execOp, ho, g.eval hx, g.eval hy, Instr.index, asIntOf, run_underlying ht, h0, h1, run_sizeL hs, run_part1 he hp hv]
theorem PV.indexN {t e len : Nat} {x y : Operand} {k : IntKind} {i : Int} {dt : TypeDesc} {cs vs : List Value} {s r : Nat} (ho : o.op = .index t x y) (ht : P.underlying t = some (.array len e)) (he : P.underlying e = some dt) (hp : plainT dt = false) (hs : (P.info? e).map (·.size) = some s)
    (hx : evL L x = some (.agg cs.toArray)) (hy : evL L y = some (.int k i)) (h0 : 0 ≤ i) (h1 : i < len) (hr : i.toNat * s = r) (hv : (cs.drop r).take s = vs) : PV P n D L S o (.agg vs.toArray) := fun a w g _ => by
  subst hr
  simp [execOp, ho, g.eval hx, g.eval hy, Instr.index, asIntOf, run_underlying ht, h0, h1, run_sizeL hs, run_partN he hp hs hv]
theorem PV.field1 {t i : Nat} {x : Operand} {fs : Array Field} {f : Field} {dt : TypeDesc} {cs : List Value} {v : Value} (ho : o.op = .field t x i) (ht : P.underlying t = some (.struct fs)) (hf : fs[i]? = some f) (he : P.underlying f.type = some dt) (hp : plainT dt = true)
    (hx : evL L x = some (.agg cs.toArray)) (hv : cs[f.offset]? = some v) : PV P n D L S o v := fun a w g _ => by
  simp [execOp, ho, g.eval hx, Instr.field, run_underlying ht, hf, asAgg, run_part1 he hp hv]
theorem PV.fieldN {t i s : Nat} {x : Operand} {fs : Array Field} {f : Field} {dt : TypeDesc} {cs vs : List Value} (ho : o.op = .field t x i) (ht : P.underlying t = some (.struct fs)) (hf : fs[i]? = some f) (he : P.underlying f.type = some dt) (hp : plainT dt = false) (hs : (P.info? f.type).map (·.size) = some s)
    (hx : evL L x = some (.agg cs.toArray)) (hv : (cs.drop f.offset).take s = vs) : PV P n D L S o (.agg vs.toArray) := fun a w g _ => by
  simp [execOp, ho, g.eval hx, Instr.field, run_underlying ht, hf, asAgg, run_partN he hp hs hv]

/-- A struct of one field of one cell. -/
theorem PV.buildOne {t : TypeId} {x : Operand} {f : Field} {v z : Value} (ho : o.op = .build t #[(0, x)]) (ht : P.underlying t = some (.struct #[f])) (hz : (P.info? t).map (·.zero) = some (some (.agg #[z]))) (hof : f.offset = 0) (hs : (P.info? f.type).map (·.size) = some 1)
    (hx : evL L x = some v) (h1 : v.oneCell' = true) : PV P n D L S o (.agg #[v]) := fun a w g _ => by
  have hc : (Value.agg #[z]).cells = #[z] := rfl
  simp [execOp, ho, g.eval hx, Instr.build, run_zeroL hz, run_underlying ht, run_sizeL hs, hof, Instr.fill, cells_one h1, hc]

/-! ### Bytes and texts -/
def u8s (l : List UInt8) : List Value := l.map fun x => .int .u8 (x.toNat : Nat)
theorem u8s_length (l : List UInt8) : (u8s l).length = l.length := by simp [u8s]
theorem u8s_append (a b : List UInt8) : u8s (a ++ b) = u8s a ++ u8s b := by simp [u8s]
theorem u8s_one (l : List UInt8) : ∀ u ∈ u8s l, u.oneCell' = true := by
  intro u h
  obtain ⟨_, _, rfl⟩ := List.mem_map.1 h
  rfl
abbrev ownB (v : Value) (l : List UInt8) (e : Nat) : HP := own v l.length (u8s l) e 1
/-- A text of these letters. -/
abbrev strV (l : List UInt8) : Value := .string ⟨l.toArray⟩
theorem push_all (l : List UInt8) : ∀ (s : List UInt8), (l.map fun x => ((x.toNat : Nat) : Int)).foldl (fun r n => r.push (UInt8.ofNat n.toNat)) (⟨s.toArray⟩ : ByteArray) = ⟨(s ++ l).toArray⟩ := by
  induction l with
  | nil => intro s; simp
  | cons c l ih =>
    intro s
    simp only [List.map_cons, List.foldl_cons, Int.toNat_natCast]
    have e : (⟨s.toArray⟩ : ByteArray).push (UInt8.ofNat c.toNat) = ⟨(s ++ [c]).toArray⟩ := by
      simp [ByteArray.push]
    rw [e, ih]
    simp
theorem PV.bytesStr {t t' e : Nat} {x : Operand} {vx : Value} {l : List UInt8} (ho : o.op = .convert t t' x) (ht : P.underlying t = some (.slice e)) (he : P.underlying e = some (.int .u8)) (ht' : P.underlying t' = some .string) (hx : evL L x = some vx)
    (hsrc : ∀ w, S w → Src S vx l.length (u8s l) 1) : PV P n D L S o (strV l) := fun a w g q => by
  obtain ⟨hl, hxx⟩ := hsrc w q
  rcases hxx with ⟨rfl, h0⟩ | ⟨a0, c, rfl, hc⟩
  · have : l = [] := List.eq_nil_of_length_eq_zero h0
    subst this
    simp [execOp, ho, g.eval hx, convert, run_underlying ht, run_underlying ht', run_underlying he, Conv.bytesToString]
    rfl
  · have hld := run_loadCells_list (P := P) (w := w) a0 (u8s l) (fun j v hj => hc w q j v hj)
    have hld' : (loadCells a0 l.length).run P w = .ok (((l.map fun x => ((x.toNat : Nat) : Int)).map (Value.int .u8)).toArray) w := by
      rw [u8s_length] at hld; rw [hld]; simp [u8s]
    have h2 := run_bytesToString (P := P) w a0 l.length c _ hld'
    have h3 := push_all l []
    simp only [List.nil_append] at h3
    rw [show (⟨([] : List UInt8).toArray⟩ : ByteArray) = ByteArray.empty from rfl] at h3
    rw [h3] at h2
    simp [execOp, ho, g.eval hx, run_convert_bytes_string w t t' e (some a0) l.length c ht he ht', h2]
theorem PV.strEql {t t' : TypeId} {x y : Operand} {a b : List UInt8} (ho : o.op = .binOp .eql t x y t') (hx : evL L x = some (strV a)) (hy : evL L y = some (strV b)) : PV P n D L S o (.bool (decide (a = b))) :=
  PV.bin ho hx hy fun w => by
    simp only [eqGuard, binOp_string_eql, ByteArray.toList_mk]
    by_cases q : a = b <;> simp [q]
theorem PV.strNeq {t t' : TypeId} {x y : Operand} {a b : List UInt8} (ho : o.op = .binOp .neq t x y t') (hx : evL L x = some (strV a)) (hy : evL L y = some (strV b)) : PV P n D L S o (.bool (decide (a ≠ b))) :=
  PV.bin ho hx hy fun w => by
    simp only [eqGuard, binOp_string_neq, ByteArray.toList_mk]
    by_cases q : a = b <;> simp [q]
theorem PV.strAdd {t t' : TypeId} {x y : Operand} {a b : List UInt8} (ho : o.op = .binOp .add t x y t') (hx : evL L x = some (strV a)) (hy : evL L y = some (strV b)) (hl : a.length + b.length ≤ 9223372036854775807) : PV P n D L S o (strV (a ++ b)) :=
  PV.bin ho hx hy fun w => by
    have h2 : ¬ (((a.length + b.length : Nat) : Int) > IntKind.i64.max) := by
      have : IntKind.i64.max = 9223372036854775807 := by decide
      rw [this]; omega
    have e : (⟨a.toArray⟩ : ByteArray) ++ ⟨b.toArray⟩ = ⟨(a ++ b).toArray⟩ := by
      apply ByteArray.ext; simp
    have s1 : (⟨a.toArray⟩ : ByteArray).size = a.length := by simp [ByteArray.size]
    have s2 : (⟨b.toArray⟩ : ByteArray).size = b.length := by simp [ByteArray.size]
    simp only [eqGuard, binOp, Op.stringOp, s1, s2, if_neg h2, e]
    simp
end
end Leg

/-
  Slices that are made, cut, and grow from the middle of a block; lists of slices of bytes.
-/
import Derived.Test.YtdekgkmbcdlekaaLegJ
import Derived.Laws.MakeOwn
import Derived.OwnWalk
namespace Leg
open Go Codec Api

theorem madeCells_one (v : Value) (n : Nat) : madeCells #[v] n = (List.replicate n v).toArray := by
  unfold madeCells
  apply Array.ext
  · simp
  · intro i h1 h2
    simp at h1
    simp [Nat.mod_one]
theorem u8s_rep (n : Nat) : u8s (List.replicate n 0) = List.replicate n (.int .u8 0) := by simp [u8s]
section
variable {P : Program} {w0 : World} {F : Hl} {n : Nat} {ops : Array Oper} {Q : QQ} {D : List Deferred} {L : List (Nat × Value)} {H : List HP} {o : Oper} {l : List Oper} {d : Nat} {S : World → Prop}
theorem TL.mono {H' : List HP} (m : ∀ h, sep H h → sep H' h) (h : TL P w0 F n ops Q l D L H') : TL P w0 F n ops Q l D L H := TL.weak (Sub.refl _) m h
theorem TC.mono {c : Code} {H' : List HP} (m : ∀ h, sep H h → sep H' h) (h : TC P w0 F n c Q D L H') : TC P w0 F n c Q D L H := TC.weak (Sub.refl _) m h
/-- make of bytes. -/
theorem TL.makeB {t e : TypeId} {x y : Operand} {k k' : IntKind} {a b : Int} (m c : Nat) (hw : Want n D ops o L) (ho : o.op = .makeSlice t x y) (hd : o.dst = some d) (hn : Nat.blt d n = true) (ht : P.underlying t = some (.slice e))
    (hi : (P.info? e).map (fun i => (i.zero, i.size, i.bytes)) = some (some (.int .u8 0), 1, 1)) (hx : evL L x = some (.int k a)) (hy : evL L y = some (.int k' b)) (ha : a = (m : Int)) (hb : b = (c : Int)) (h1 : m ≤ c) (h2 : c ≤ 281474976710656)
    (h : ∀ b, TL P w0 F n ops Q l D ((d, .slice (some ⟨b, 0, none⟩) m c) :: L) (blkA b (u8s (List.replicate c 0)) e :: H)) : TL P w0 F n ops Q (o :: l) D L H :=
  TL.step hw fun a w f sm q => by
    subst ha; subst hb
    obtain ⟨i, hie, hz0, hs, hb⟩ := info_parts hi
    have hr := run_make (P := P) w t e i (.int .u8 0) ht hie hz0 k k' (m : Int) (c : Int) (by omega) (by omega) (by rw [hb]; omega) (by omega)
    have e1 : madeCells (Value.cells (.int .u8 0)) ((c : Int).toNat * i.size) = (u8s (List.replicate c 0)).toArray := by
      rw [hs, Nat.mul_one, Int.toNat_natCast, u8s_rep]
      exact madeCells_one _ _
    rw [e1] at hr
    simp only [Int.toNat_natCast] at hr
    have r : (execOp a.eval o).run P w = .ok (.value (.slice (some ⟨w.heap.size, 0, none⟩) m c)) (w.alloc (.cells (u8s (List.replicate c 0)).toArray e)) := by
      simp only [execOp, ho, f.eval hx, f.eval hy, Sem.run_bind, hr, Result.andThen_ok, Sem.run_pure]
    unfold Oper.wp
    rw [r, Oper.upon_value, hd]
    exact h _ _ _ (f.put (lb hn) _) (sm.trans ⟨rfl, rfl, rfl, by simp⟩) (q.alloc _)

/-! ### Cuts -/
/-- x[lo:hi] -/
def cutLH : Value → Nat → Nat → Value
  | .slice a m c, lo, hi => .slice (if c = lo then a else a.map (·.add lo)) (hi - lo) (c - lo)
  | v, _, _ => v
theorem PV.sliceLH {t e : TypeId} {x y z : Operand} {a : Option Addr} {len cap lo hi : Nat} {k k' : IntKind} {i j : Int} (ho : o.op = .slice t x (some y) (some z) none) (ht : P.underlying t = some (.slice e)) (hs : (P.info? e).map (·.size) = some 1)
    (hx : evL L x = some (.slice a len cap)) (hy : evL L y = some (.int k i)) (hz : evL L z = some (.int k' j)) (hi' : i = (lo : Int)) (hj : j = (hi : Int)) (h1 : lo ≤ hi) (h2 : hi ≤ cap) : PV P n D L S o (cutLH (.slice a len cap) lo hi) :=
  fun b w g _ => by
    subst hi'; subst hj
    simp only [execOp, ho, g.eval hx, Option.map_some, Option.map_none, g.eval hy, g.eval hz, cutLH]
    by_cases q : cap = lo
    · have e2 : hi = lo := by omega
      subst e2
      simp [Instr.sliceAt, Instr.slice, run_underlying ht, Instr.sliceBounds, Instr.sliceBound, asIntOf, run_sizeL hs, q]
    · simp [Instr.sliceAt, Instr.slice, run_underlying ht, Instr.sliceBounds, Instr.sliceBound, asIntOf, h1, h2, run_sizeL hs, q]
theorem PV.sliceH {t e : TypeId} {x z : Operand} {a : Option Addr} {len cap hi : Nat} {k' : IntKind} {j : Int} (ho : o.op = .slice t x none (some z) none) (ht : P.underlying t = some (.slice e)) (hs : (P.info? e).map (·.size) = some 1)
    (hx : evL L x = some (.slice a len cap)) (hz : evL L z = some (.int k' j)) (hj : j = (hi : Int)) (h2 : hi ≤ cap) : PV P n D L S o (cutLH (.slice a len cap) 0 hi) :=
  fun b w g _ => by
    subst hj
    simp only [execOp, ho, g.eval hx, Option.map_some, Option.map_none, g.eval hz, cutLH]
    by_cases q : cap = 0
    · have e2 : hi = 0 := by omega
      subst e2
      simp [Instr.sliceAt, Instr.slice, run_underlying ht, Instr.sliceBounds, Instr.sliceBound, asIntOf, run_sizeL hs, q]
    · simp [Instr.sliceAt, Instr.slice, run_underlying ht, Instr.sliceBounds, Instr.sliceBound, asIntOf, h2, run_sizeL hs, q]
theorem PV.sliceL {t e : TypeId} {x y : Operand} {a : Option Addr} {len cap lo : Nat} {k : IntKind} {i : Int} (ho : o.op = .slice t x (some y) none none) (ht : P.underlying t = some (.slice e)) (hs : (P.info? e).map (·.size) = some 1)
    (hx : evL L x = some (.slice a len cap)) (hy : evL L y = some (.int k i)) (hi : i = (lo : Int)) (h1 : lo ≤ len) : PV P n D L S o (cutLH (.slice a len cap) lo len) :=
  fun b w g _ => by
    subst hi
    simp only [execOp, ho, g.eval hx, Option.map_some, Option.map_none, g.eval hy, cutLH]
    by_cases q : cap = lo
    · simp [Instr.sliceAt, Instr.slice, run_underlying ht, Instr.sliceBounds, Instr.sliceBound, asIntOf, h1, run_sizeL hs, q]
    · simp [Instr.sliceAt, Instr.slice, run_underlying ht, Instr.sliceBounds, Instr.sliceBound, asIntOf, h1, run_sizeL hs, q]
end
theorem IsW.form {v : Value} {bs : List UInt8} {F : Hl} (h : IsW v bs F) : ∃ a c, v = .slice a bs.length c ∧ bs.length ≤ c ∧ (bs.length = 0 ∨ c ≤ 9223372036854775807) := by
  rcases h with (⟨rfl, rfl⟩ | ⟨b, off, cap, cs, T, z, rfl, h1, h2, _⟩) | ⟨a, c, rfl, rfl⟩
  · exact ⟨_, _, rfl, Nat.le_refl _, .inl rfl⟩
  · exact ⟨_, _, rfl, h1, .inr h2⟩
  · exact ⟨_, _, rfl, Nat.zero_le _, .inl rfl⟩
theorem IsW.lt {v : Value} {bs : List UInt8} {F : Hl} (h : IsW v bs F) : bs.length ≤ 9223372036854775807 := by
  obtain ⟨a, c, _, h1, h2⟩ := h.form
  omega
theorem IsW.cut {v : Value} {bs : List UInt8} {F : Hl} (h : IsW v bs F) {lo hi : Nat} (h1 : lo ≤ hi) (h2 : hi ≤ bs.length) : IsW (cutLH v lo hi) ((bs.take hi).drop lo) F := by
  have hl : ((bs.take hi).drop lo).length = hi - lo := by simp; omega
  by_cases e : hi - lo = 0
  · obtain ⟨a, c, rfl, hc, _⟩ := h.form
    have e0 : (bs.take hi).drop lo = [] := List.eq_nil_of_length_eq_zero (by omega)
    rw [e0]
    simp only [cutLH, e]
    split
    · cases a with
      | some a => exact .inr ⟨_, _, rfl, rfl⟩
      | none =>
        rcases h with (⟨h, rfl⟩ | ⟨b, off, cap, cs, T, z, h, _⟩) | ⟨a, c, h, _⟩
        · injection h with _ _ h; subst h; exact .inl (.inl ⟨by simp, rfl⟩)
        · simp at h
        · simp at h
    · cases a with
      | some a => exact .inr ⟨_, _, rfl, rfl⟩
      | none =>
        rcases h with (⟨h, rfl⟩ | ⟨b, off, cap, cs, T, z, h, _⟩) | ⟨a, c, h, _⟩
        · injection h with _ _ h; subst h; exact .inl (.inl ⟨by simp, rfl⟩)
        · simp at h
        · simp at h
  · obtain ⟨b, off, cap, cs, T, z, rfl, hb, hcs, hc⟩ := h.at (j := 0) (by omega)
    rcases h.form with ⟨a, c, hv, _, hm⟩
    injection hv with _ _ hv
    subst hv
    refine .inl (.inr ⟨b, off + lo, cap - lo, cs, T, z, ?_, by omega, by omega, hb, fun j hj => ?_⟩)
    · simp only [cutLH, hl, if_neg (show ¬ cap = lo by omega), Option.map_some, addL]
    · rw [hl] at hj
      rw [Nat.add_assoc, hcs (lo + j) (by omega)]
      congr 2
      simp [List.getD_eq_getElem?_getD, List.getElem?_take, show lo + j < hi by omega]

/-! ### Bytes that are owned, wherever in their block -/
def subB (v : Value) (bs : List UInt8) (e : Nat) : HP := fun h =>
  (v = .slice none 0 0 ∧ bs = [] ∧ h = em) ∨ ∃ g off cap cur, v = .slice (some ⟨g, off, none⟩) bs.length cap ∧ h = sg g (.cells cur e (0, 0)) ∧ bs.length ≤ cap ∧ cap ≤ maxLen ∧ off + cap ≤ cur.size ∧ (cur.toList.drop off).take bs.length = u8s bs
theorem subB_of_own {v : Value} {bs : List UInt8} {e : Nat} {h : Hl} (x : ownB v bs e h) : subB v bs e h := by
  rcases x with ⟨_, ⟨h1, h2, h3⟩ | ⟨g, cap, cur, h1, h2, h3, h4, h5, h6⟩⟩
  · exact .inl ⟨h1, List.eq_nil_of_length_eq_zero h2, h3⟩
  · exact .inr ⟨g, 0, cap, cur, h1, h2, h3, h4, by omega, by simpa using h6⟩
section
variable {H : List HP} {F : Hl} {v : Value} {bs : List UInt8} {e : Nat}
theorem sep_sub (i : Nat) (hi : Nat.blt i H.length = true) (hH : H.getD i (fun _ => True) = ownB v bs e) {h : Hl} (s : sep H h) : sep (H.set i (subB v bs e)) h :=
  sep_put i (lb hi) (star_mono (sep_get i (lb hi) s) (fun _ x => subB_of_own (by rwa [hH] at x)) fun _ x => x)
/-- A cut of an open block of bytes. -/
theorem sep_subCut {g cap lo : Nat} {cur : List Value} (i : Nat) (hi : Nat.blt i H.length = true) (hH : H.getD i (fun _ => True) = blkA g cur e) (h1 : bs.length ≤ cap) (h2 : cap ≤ maxLen) (h3 : lo + cap ≤ cur.length) (h4 : (cur.drop lo).take bs.length = u8s bs) {h : Hl} (s : sep H h) :
    sep (H.set i (subB (.slice (some ⟨g, lo, none⟩) bs.length cap) bs e)) h :=
  sep_put i (lb hi) (star_mono (sep_get i (lb hi) s) (fun _ x => .inr ⟨g, lo, cap, cur.toArray, rfl, by rwa [hH] at x, h1, h2, by simpa using h3, by simpa using h4⟩) fun _ x => x)
/-- An owned slice of bytes, cut. -/
theorem sep_ownCut {lo hi nn : Nat} {bs' : List UInt8} (i : Nat) (hi' : Nat.blt i H.length = true) (hH : H.getD i (fun _ => True) = ownB v bs e) {g cap : Nat} (hv : v = .slice (some ⟨g, 0, none⟩) nn cap) (h1 : lo ≤ hi) (h2 : hi ≤ bs.length) (h3 : lo < bs.length) (hb : (bs.take hi).drop lo = bs') {h : Hl} (s : sep H h) :
    sep (H.set i (subB (cutLH v lo hi) bs' e)) h := by
  subst hb
  have hl : ((bs.take hi).drop lo).length = hi - lo := by simp; omega
  refine sep_put i (lb hi') (star_mono (sep_get i (lb hi') s) (fun _ x => ?_) fun _ x => x)
  rw [hH] at x
  rcases x with ⟨_, ⟨h1, h2, _⟩ | ⟨g', cap', cur, h4, h5, h6, h7, h8, h9⟩⟩
  · rw [hv] at h1; simp at h1
  · rw [hv] at h4 ⊢
    simp only [Value.slice.injEq, Option.some.injEq, Addr.mk.injEq, and_true, true_and] at h4
    obtain ⟨rfl, rfl, rfl⟩ := h4
    refine .inr ⟨g, lo, cap - lo, cur, ?_, h5, by omega, by omega, by omega, ?_⟩
    · simp only [cutLH, hl, if_neg (show ¬ cap = lo by omega), Option.map_some, addL, Nat.zero_add]
    · rw [hl]
      rw [Nat.mul_one] at h9
      have e1 := congrArg (fun l : List Value => (l.take hi).drop lo) h9
      simp only [List.take_take, Nat.min_eq_left h2] at e1
      rw [← List.drop_take, e1]
      simp [u8s, List.map_take, List.map_drop]
theorem Sat.sub_form {w : World} (i : Nat) (s : Sat H F w) (hi : Nat.blt i H.length = true) (hH : H.getD i (fun _ => True) = subB v bs e) : (v = .slice none 0 0 ∧ bs = []) ∨ ∃ g off cap cur, v = .slice (some ⟨g, off, none⟩) bs.length cap ∧ w.heap[g]? = some (.cells cur e (0, 0)) ∧ bs.length ≤ cap ∧ cap ≤ maxLen ∧ off + cap ≤ cur.size ∧ (cur.toList.drop off).take bs.length = u8s bs := by
  obtain ⟨h, d, e', x⟩ := s
  obtain ⟨h1, h2, d', rfl, a, _⟩ := sep_get i (lb hi) x
  rw [hH] at a
  rcases a with ⟨x1, x2, _⟩ | ⟨g, off, cap, cur, x1, x2, x3⟩
  · exact .inl ⟨x1, x2⟩
  · refine .inr ⟨g, off, cap, cur, x1, ?_, x3⟩
    have : hp w g = some (.cells cur e (0, 0)) := by
      rw [e', jn_assoc]
      exact jn_some (by rw [x2]; simp [sg])
    exact this
theorem Sat.sub_len {w : World} (i : Nat) (s : Sat H F w) (hi : Nat.blt i H.length = true) (hH : H.getD i (fun _ => True) = subB v bs e) : SlLen v bs.length ∧ v.oneCell' = true := by
  rcases s.sub_form i hi hH with ⟨rfl, rfl⟩ | ⟨g, off, cap, cur, rfl, _⟩
  · exact ⟨⟨_, _, rfl⟩, rfl⟩
  · exact ⟨⟨_, _, rfl⟩, rfl⟩
theorem Src.sub (i : Nat) (hi : Nat.blt i H.length = true) (hH : H.getD i (fun _ => True) = subB v bs e) {w : World} (s : Sat H F w) : Src (Sat H F) v bs.length (u8s bs) 1 := by
  refine ⟨by simp [u8s], ?_⟩
  rcases s.sub_form i hi hH with ⟨rfl, rfl⟩ | ⟨g, off, cap, cur, rfl, _⟩
  · exact .inl ⟨rfl, rfl⟩
  · refine .inr ⟨⟨g, off, none⟩, cap, rfl, fun w s j u hj => ?_⟩
    rcases s.sub_form i hi hH with ⟨h1, _⟩ | ⟨g', off', cap', cur', h1, h2, h3, h4, h5, h6⟩
    · simp at h1
    · simp only [Value.slice.injEq, Option.some.injEq, Addr.mk.injEq, and_true, true_and] at h1
      obtain ⟨⟨rfl, rfl⟩, rfl⟩ := h1
      rw [addL]
      rw [← h6, List.getElem?_take] at hj
      split at hj
      · simp only [World.cell?, h2, Option.isSome_none, Bool.false_eq_true, if_false]
        simpa using hj
      · cases hj
theorem isB_sub (i : Nat) {B : List HP} (hi : Nat.blt i B.length = true) (hH : B.getD i (fun _ => True) = subB v bs e) : ∀ g, Dj g F → sep B g → IsB v bs (jn g F) := fun g _ s => by
  obtain ⟨h1, h2, d', rfl, a, _⟩ := sep_get i (lb hi) s
  rw [hH] at a
  rcases a with ⟨x1, x2, _⟩ | ⟨g, off, cap, cur, x1, x2, x3, x4, x5, x6⟩
  · exact .inl ⟨x1, x2⟩
  · refine .inr ⟨g, off, cap, cur.toList, e, (0, 0), x1, x3, by simpa [maxLen] using x4, jn_some (jn_some (by rw [x2]; simp [sg])), fun j hj => ?_⟩
    have e1 := congrArg (fun l : List Value => l[j]?) x6
    simp only [List.getElem?_take, if_pos hj, List.getElem?_drop] at e1
    rw [e1]; simp [u8s, List.getD_eq_getElem?_getD, hj]
end
theorem run_append_roomO {P : Program} (w : World) (t ty e : TypeId) (i : TypeInfo) (ht : P.underlying t = some (.slice e)) (hi : P.info? e = some i) (g off sLen sCap : Nat) (cur : Array Value) (hg : w.heap[g]? = some (.cells cur e (0, 0)))
    (a : Addr) (m c : Nat) (news : List Value) (hl : news.length = m * i.size) (hnews : ∀ j u, news[j]? = some u → w.cell? (a.add j) = some u) (h1 : ∀ u ∈ news, u.oneCell' = true)
    (hroom : sLen + m ≤ sCap) (hfit : off + sLen * i.size + news.length ≤ cur.size) :
    (Builtin.append_ #[t, t] ty #[.slice (some ⟨g, off, none⟩) sLen sCap, .slice (some a) m c]).run P w =
      .ok (.slice (some ⟨g, off, none⟩) (sLen + m) sCap) (w.setRow g (cur.toList.take (off + sLen * i.size) ++ news ++ cur.toList.drop (off + sLen * i.size + news.length)).toArray) := by
  have hf := run_firstCells_some (P := P) w i.size m a m c news hl hnews
  have hst := run_storeCells_at P g (off + sLen * i.size) e news 0 cur w hg (by simpa using hfit) h1
  simp only [Nat.add_zero] at hst
  simp [Builtin.append_, run_underlying ht, Go.sizeOf, typeInfo, hi, Builtin.lenOf, hroom, hf, Addr.add_lit, hst]
section
variable {P : Program} {w0 : World} {F : Hl} {n : Nat} {ops : Array Oper} {Q : QQ} {D : List Deferred} {L : List (Nat × Value)} {H : List HP} {o : Oper} {l : List Oper} {d : Nat} {S : World → Prop}
theorem Sat.sub_open {w : World} {k : Nat} {v : Value} {bs : List UInt8} {e : TypeId} (s : Sat H F w) (hk : Nat.blt k H.length = true) (hH : H.getD k (fun _ => True) = subB v bs e) :
    (v = .slice none 0 0 ∧ bs = [] ∧ Sat (H.set k (ownB (.slice none 0 0) [] e)) F w) ∨ ∃ g off cap cur, v = .slice (some ⟨g, off, none⟩) bs.length cap ∧ Sat (H.set k (obj g (.cells cur e (0, 0)))) F w ∧ bs.length ≤ cap ∧ cap ≤ maxLen ∧ off + cap ≤ cur.size ∧ (cur.toList.drop off).take bs.length = u8s bs := by
  obtain ⟨h, d, e', x⟩ := s
  obtain ⟨h1, h2, d', rfl, a, y⟩ := sep_get k (lb hk) x
  rw [hH] at a
  rcases a with ⟨x1, x2, x3⟩ | ⟨g, off, cap, cur, x1, x2, x3⟩
  · exact .inl ⟨x1, x2, _, d, e', sep_put k (lb hk) ⟨h1, h2, d', rfl, ⟨rfl, .inl ⟨rfl, rfl, x3⟩⟩, y⟩⟩
  · exact .inr ⟨g, off, cap, cur, x1, ⟨_, d, e', sep_put k (lb hk) ⟨h1, h2, d', rfl, x2, y⟩⟩, x3⟩
theorem Src.of_eq {S' : World → Prop} {x : Value} {m size : Nat} {news : List Value} (h : Src S x m news size) (hS : ∀ w, S' w → S w) : Src S' x m news size := ⟨h.1, h.2.imp id fun ⟨a, c, q3, q4⟩ => ⟨a, c, q3, fun w' s' => q4 w' (hS w' s')⟩⟩
theorem set_same {k : Nat} {q : HP} (hk : Nat.blt k H.length = true) (hH : H.getD k (fun _ => True) = q) : H.set k q = H := by
  rw [← hH, List.getD_eq_getElem?_getD, List.getElem?_eq_getElem (lb hk)]; exact List.set_getElem_self _
theorem run_appendS {w : World} {k : Nat} {v x : Value} {bs news : List UInt8} {t ty e : TypeId} (s : Sat H F w) (ht : P.underlying t = some (.slice e)) (hi : (P.info? e).map (fun i => (i.zero, i.size, i.bytes)) = some (some (.int .u8 0), 1, 1))
    (hk : Nat.blt k H.length = true) (hH : H.getD k (fun _ => True) = subB v bs e) (hx : Src (Sat H F) x news.length (u8s news) 1) (hb : bs.length + news.length ≤ 140737488355328) :
    ∃ v' w', (Builtin.append_ #[t, t] ty #[v, x]).run P w = .ok v' w' ∧ Same w w' ∧ Sat (H.set k (subB v' (bs ++ news) e)) F w' := by
  rcases s.sub_open hk hH with ⟨rfl, rfl, s1⟩ | ⟨g, off, cap, cur, rfl, s1, h3, h4, h5, h6⟩
  · have hx' : Src (Sat (H.set k (ownB (.slice none 0 0) [] e)) F) x news.length (u8s news) 1 := hx.of_eq fun w' s' => by
      have := s'.turn (q := subB (.slice none 0 0) [] e) k (by simpa using lb hk) fun h hh => by
        rw [getD_set (lb hk)] at hh; exact subB_of_own hh
      rwa [List.set_set, set_same hk hH] at this
    obtain ⟨v', w', r1, r2, r3⟩ := run_appendL (k := k) (nn := 0) (m := news.length) (v := .slice none 0 0) (xs := u8s []) (news := u8s news) (ty := ty) s1 ht hi rfl (by decide) (by simpa using lb hk) (getD_set (lb hk) _) hx' (u8s_one _) (by simp only [maxLen]; simp at hb; omega) (by simp at hb; omega)
    refine ⟨v', w', r1, r2, ?_⟩
    rw [List.set_set] at r3
    have := r3.turn (q := subB v' ([] ++ news) e) k (by simpa using lb hk) fun h hh => by
      rw [getD_set (lb hk)] at hh
      refine subB_of_own ?_
      rw [← u8s_append, Nat.zero_add, List.nil_append] at hh
      exact hh
    rwa [List.set_set] at this
  · obtain ⟨i, hie, hz0, hsz, hby⟩ := info_parts hi
    obtain ⟨hxl, hxx⟩ := hx
    have hg : w.heap[g]? = some (.cells cur e (0, 0)) := s1.block k (by simpa using lb hk) (getD_set (lb hk) _)
    by_cases hroom : bs.length + news.length ≤ cap
    · rcases hxx with ⟨rfl, hm⟩ | ⟨a0, c, rfl, hc⟩
      · have hn : news = [] := List.eq_nil_of_length_eq_zero hm
        subst hn
        refine ⟨_, w, ?_, Same.refl w, by rw [List.append_nil, set_same hk hH]; exact s⟩
        simp [Builtin.append_, run_underlying ht, Go.sizeOf, typeInfo, hie, Builtin.lenOf, Builtin.firstCells, loadCells, loadCellsFrom, storeCells, h3]
      · have hfit : off + bs.length * i.size + (u8s news).length ≤ cur.size := by rw [hsz, Nat.mul_one, u8s_length]; omega
        refine ⟨_, _, run_append_roomO (P := P) w t ty e i ht hie g off bs.length cap cur hg a0 news.length c (u8s news) (by rw [hsz, u8s_length, Nat.mul_one]) (fun j v hj => hc w s j v hj) (u8s_one _) hroom hfit, ⟨rfl, rfl, rfl, by simp⟩, ?_⟩
        have h2 := s1.write k (by simpa using lb hk) (getD_set (lb hk) _) (setRow_heap w g cur (cur.toList.take (off + bs.length * i.size) ++ u8s news ++ cur.toList.drop (off + bs.length * i.size + (u8s news).length)).toArray e _ hg) (fun j hj => setRow_other w g j _ hj)
        rw [List.set_set] at h2
        have h7 := h2.turn (q := subB (.slice (some ⟨g, off, none⟩) (bs.length + news.length) cap) (bs ++ news) e) k (by simpa using lb hk) (fun h hh => by
          rw [getD_set (lb hk)] at hh
          rw [hsz, Nat.mul_one, u8s_length] at hh
          refine .inr ⟨g, off, cap, _, by rw [List.length_append], hh, by rw [List.length_append]; exact hroom, h4, ?_, ?_⟩
          · simp only [List.size_toArray, List.length_append, List.length_take, List.length_drop, Array.length_toList, u8s_length]
            rw [hsz, Nat.mul_one, u8s_length] at hfit
            omega
          · simp only [List.append_assoc]
            rw [List.drop_append_of_le_length (by simp only [List.length_take, Array.length_toList]; rw [hsz, Nat.mul_one, u8s_length] at hfit; omega), List.drop_take, Nat.add_sub_cancel_left, h6, ← List.append_assoc, ← u8s_append]
            rw [List.take_append_of_le_length (by rw [u8s_length]; exact Nat.le_refl _), List.take_of_length_le (by rw [u8s_length]; exact Nat.le_refl _)])
        rwa [List.set_set] at h7
    · rcases hxx with ⟨rfl, hm⟩ | ⟨a0, c, rfl, hc⟩
      · omega
      · have holds : ∀ j u, (u8s bs)[j]? = some u → w.cell? ((⟨g, off, none⟩ : Addr).add j) = some u := fun j u hj => by
          rw [addL]
          rw [← h6, List.getElem?_take] at hj
          split at hj
          · simpa [World.cell?, hg] using hj
          · cases hj
        have hr := run_append_grow (P := P) w t ty e i _ ht hie hz0 ⟨g, off, none⟩ bs.length cap (u8s bs) (by rw [hsz, u8s_length, Nat.mul_one]) holds a0 news.length c (u8s news) (by rw [hsz, u8s_length, Nat.mul_one]) (fun j v hj => hc w s j v hj) (by omega) (by omega) (growslice_fits (by omega) (by rw [hby]; omega))
        refine ⟨_, _, hr, ⟨rfl, rfl, rfl, by simp⟩, Sat.swap k (lb hk) (s.drew.alloc _) fun h hh => ?_⟩
        have hge := grownCap_ge w (bs.length + news.length) cap e
        refine .inr ⟨w.heap.size, 0, _, _, by rw [List.length_append], hh, by rw [List.length_append]; exact hge, grownCap_le_maxLen w (bs.length + news.length) cap e (by simp only [maxLen]; omega), ?_, ?_⟩
        · simp only [Array.size_append, List.size_toArray, size_zeroCells, u8s_length, Nat.zero_add]
          have : (Value.cells (.int .u8 0)).size = 1 := rfl
          rw [this, Nat.mul_one]; omega
        · simp only [Array.toList_append, List.append_assoc, List.drop_zero]
          rw [← List.append_assoc, ← u8s_append, ← u8s_length (bs ++ news)]
          exact List.take_left
/-- append to bytes that are owned. -/
theorem TL.appendS {s x : Operand} {k : Nat} {v vx : Value} {bs news bs' : List UInt8} {t e : TypeId} (hw : Want n D ops o L)
    (ho : o.op = .call { callee := .builtin .append, args := #[s, x], argTypes := #[t, t] }) (hd : o.dst = some d) (hn : Nat.blt d n = true) (ht : P.underlying t = some (.slice e))
    (hi : (P.info? e).map (fun i => (i.zero, i.size, i.bytes)) = some (some (.int .u8 0), 1, 1)) (hs : evL L s = some v) (hx : evL L x = some vx)
    (hk : Nat.blt k H.length = true) (hH : H.getD k (fun _ => True) = subB v bs e) (hsrc : ∀ w, Sat H F w → Src (Sat H F) vx news.length (u8s news) 1) (hb : bs.length + news.length ≤ 140737488355328)
    (hxs : bs ++ news = bs') (h : ∀ v', v'.oneCell' = true → TL P w0 F n ops Q l D ((d, v') :: L) (H.set k (subB v' bs' e))) : TL P w0 F n ops Q (o :: l) D L H :=
  TL.step hw fun a w f sm q => by
    obtain ⟨v', w', hr, s', q'⟩ := run_appendS (ty := o.type) q ht hi hk hH (hsrc w q) hb
    unfold Oper.wp execOp
    simp only [ho, resolve, invoke, builtin, Sem.run_bind, Sem.run_pure, Result.andThen_ok, List.map_toArray, List.map_cons, List.map_nil, f.eval hs, f.eval hx, hr]
    rw [Oper.upon_value, hd]
    subst hxs
    have one : v'.oneCell' = true := (q'.sub_len k (by simpa using hk) (getD_set (lb hk) _)).2
    exact h v' one _ w' (f.put (lb hn) v') (sm.trans s') q'
theorem TL.subLen {v : Value} {bs : List UInt8} {e : Nat} (k : Nat) (hk : Nat.blt k H.length = true) (hH : H.getD k (fun _ => True) = subB v bs e)
    (h : SlLen v bs.length → v.oneCell' = true → TL P w0 F n ops Q l D L H) : TL P w0 F n ops Q l D L H := TL.fact (fun w m => m.sub_len k hk hH) fun ⟨h1, h2⟩ => h h1 h2
end

theorem fill_one {v : Value} {z : Array Value} (h : v.oneCell' = true) (hz : z.size = 1) : Instr.fill (fun i => some (i * 1, 1)) z [(0, v)] = some #[v] := by
  rw [Instr.fill, cells_one h]
  simp only [Nat.zero_mul, List.size_toArray, List.length_cons, List.length_nil, Nat.zero_add, hz, ne_eq, not_true_eq_false, decide_false, Bool.false_or]
  rw [if_neg (by simp)]
  have : (#[v].zipIdx.foldl (fun cs (c, j) => cs.setIfInBounds (0 + j) c) z) = #[v] := by
    match z, hz with
    | ⟨[x]⟩, _ => rfl
  simp only [Nat.zero_add] at this
  simp only [Instr.fill]
  rw [this]
/-- One slice of bytes in a block of its own, lent as a list. -/
theorem isBB_one {x : Value} {bs : List UInt8} {F : Hl} (hx : IsW x bs F) (i : Nat) {g T : Nat} {B : List HP} (hi : Nat.blt i B.length = true) (e : B.getD i (fun _ => True) = blkA g [x] T) : ∀ h, Dj h F → sep B h → IsBB (.slice (some ⟨g, 0, none⟩) 1 1) [bs] (jn h F) := fun h d s =>
  .inr (.inr ⟨g, 0, 1, [x], T, (0, 0), rfl, Nat.le_refl _, by decide, ro_piece i hi e h d s, fun j hj => by
    obtain rfl : j = 0 := by simpa using hj
    exact ⟨[x], rfl, rfl, x, rfl, hx.more d⟩⟩)
theorem isB_blkN (i n : Nat) {g T : Nat} {bs : List UInt8} {B : List HP} {F : Hl} (hn : bs.length = n) (hl : n ≤ 9223372036854775807) (hi : Nat.blt i B.length = true) (e : B.getD i (fun _ => True) = blkA g (u8s bs) T) : ∀ h, Dj h F → sep B h → IsB (.slice (some ⟨g, 0, none⟩) n n) bs (jn h F) := by
  subst hn; exact isB_blk i hl hi e

/-! ### Lists of slices of bytes -/
/-- Slices of bytes, each owned. -/
def bunch (us : List Value) (ls : List (List UInt8)) (e : Nat) : HP := fun h => us.length = ls.length ∧ sep (List.zipWith (fun u l => subB u l e) us ls) h
/-- A slice of them. -/
abbrev recsP (te e : Nat) (v : Value) (ls : List (List UInt8)) : HP := pack fun us : List Value => [own v ls.length us te 1, bunch us ls e]
theorem zip_concat {α β γ : Type} (f : α → β → γ) : ∀ (us : List α) (ls : List β) (u : α) (l : β), us.length = ls.length → List.zipWith f (us ++ [u]) (ls ++ [l]) = List.zipWith f us ls ++ [f u l]
  | [], [], _, _, _ => rfl
  | [], _ :: _, _, _, h => by simp at h
  | _ :: _, [], _, _, h => by simp at h
  | x :: us, y :: ls, u, l, h => by simp [zip_concat f us ls u l (by simpa using h)]
theorem bunch_add {us : List Value} {ls : List (List UInt8)} {e : Nat} {u : Value} {l : List UInt8} {H : List HP} {h : Hl} (s : sep (bunch us ls e :: subB u l e :: H) h) : sep (bunch (us ++ [u]) (ls ++ [l]) e :: H) h := by
  have t := star_assoc.2 s
  refine star_mono t (fun h' x => ?_) fun _ x => x
  obtain ⟨h1, h2, d, rfl, ⟨hl, a⟩, b⟩ := x
  refine ⟨by simp [hl], ?_⟩
  rw [zip_concat _ _ _ _ _ hl]
  exact (sep_append _ _).2 ⟨h1, h2, d, rfl, a, sep_single b⟩
theorem bunch_nil {e : Nat} {H : List HP} {h : Hl} (s : sep H h) : sep (bunch [] [] e :: H) h := ⟨em, h, Dj.em' h, (em_jn h).symm, ⟨rfl, trivial⟩, s⟩
/-- One of them. -/
theorem bunch_at : ∀ (us : List Value) (ls : List (List UInt8)) (e : Nat) (h : Hl), us.length = ls.length → sep (List.zipWith (fun u l => subB u l e) us ls) h → ∀ (j : Nat) (hj : j < ls.length), ∃ u, us[j]? = some u ∧ ∃ h1 h2, Dj h1 h2 ∧ h = jn h1 h2 ∧ subB u ls[j] e h1
  | [], [], _, _, _, _, j, hj => by simp at hj
  | [], _ :: _, _, _, h, _, _, _ => by simp at h
  | _ :: _, [], _, _, h, _, _, _ => by simp at h
  | u :: us, l :: ls, e, h, hl, s, 0, _ => by
    obtain ⟨h1, h2, d, rfl, a, _⟩ := s
    exact ⟨u, rfl, h1, h2, d, rfl, a⟩
  | u :: us, l :: ls, e, h, hl, s, j + 1, hj => by
    obtain ⟨h1, h2, d, rfl, _, b⟩ := s
    obtain ⟨u', e1, g1, g2, d', rfl, a⟩ := bunch_at us ls e h2 (by simpa using hl) b j (by simpa using hj)
    refine ⟨u', by simpa using e1, g1, jn h1 g2, ?_, ?_, a⟩
    · obtain ⟨q1, q2⟩ := Dj.jn_right.1 d
      exact Dj.jn_right.2 ⟨q1.symm, d'⟩
    · rw [jn_comm d, jn_assoc, jn_comm (Dj.jn_right.1 d).2]
theorem subB_isB {v : Value} {bs : List UInt8} {e : Nat} {h1 G : Hl} (a : subB v bs e h1) (hG : Le h1 G) : IsB v bs G := by
  rcases a with ⟨x1, x2, _⟩ | ⟨g, off, cap, cur, x1, x2, x3, x4, x5, x6⟩
  · exact .inl ⟨x1, x2⟩
  · refine .inr ⟨g, off, cap, cur.toList, e, (0, 0), x1, x3, by simpa [maxLen] using x4, hG _ _ (by rw [x2]; simp [sg]), fun j hj => ?_⟩
    have e1 := congrArg (fun l : List Value => l[j]?) x6
    simp only [List.getElem?_take, if_pos hj, List.getElem?_drop] at e1
    rw [e1]; simp [u8s, List.getD_eq_getElem?_getD, hj]
/-- A list of slices of bytes, lent to be read. -/
theorem isBB_recs (i : Nat) {te e : Nat} {v : Value} {ls : List (List UInt8)} {B : List HP} {F : Hl} (hi : Nat.blt i B.length = true) (hH : B.getD i (fun _ => True) = recsP te e v ls) : ∀ g, Dj g F → sep B g → IsBB v ls (jn g F) := fun g d s => by
  obtain ⟨h1, h2, d', rfl, a, _⟩ := sep_get i (lb hi) s
  rw [hH] at a
  obtain ⟨us, g1, g2, d2, rfl, a1, g3, g4, d3, rfl, ⟨hl, a2⟩, _⟩ := a
  have le1 : Le g1 (jn (jn (jn g1 (jn g3 g4)) h2) F) := fun b o e => by rw [jn_assoc, jn_assoc]; exact jn_some e
  have le3 : Le g3 (jn (jn (jn g1 (jn g3 g4)) h2) F) := fun b o e => by
    have q : jn g1 (jn g3 g4) b = some o := by
      rcases (Dj.jn_right.1 d2).1 b with z | z
      · rw [jn_none z]; exact jn_some e
      · rw [z] at e; cases e
    exact jn_some (jn_some q)
  rcases a1 with ⟨q0, ⟨q1, q2, _⟩ | ⟨g, cap, cur, q1, q2, q3, q4, q5, q6⟩⟩
  · exact .inl ⟨q1, List.eq_nil_of_length_eq_zero q2⟩
  · refine .inr (.inr ⟨g, 0, cap, cur.toList, te, (0, 0), q1, q3, by simpa [maxLen] using q4, le1 _ _ (by rw [q2]; simp [sg]), fun j hj => ?_⟩)
    obtain ⟨u, e1, k1, k2, dk, rfl, a3⟩ := bunch_at us ls e _ hl a2 j hj
    refine ⟨[u], rfl, ?_, u, rfl, .inl (subB_isB a3 fun b o e => le3 b o (jn_some e))⟩
    rw [Nat.mul_one] at q6
    rw [Nat.zero_add, Nat.mul_one]
    have e2 : cur.toList[j]? = some u := by
      have hj' := (List.getElem?_eq_some_iff.1 e1).1
      have e3 := congrArg (fun l : List Value => l[j]?) q6
      simp only [List.getElem?_take, if_pos hj] at e3
      rw [e3]; exact e1
    have hj2 : j < cur.toList.length := (List.getElem?_eq_some_iff.1 e2).1
    rw [List.drop_eq_getElem_cons hj2]
    simp only [List.take_succ_cons, List.take_zero, List.cons.injEq, and_true]
    exact (List.getElem?_eq_some_iff.1 e2).2
theorem sep_recsNil (te e : Nat) {H : List HP} {h : Hl} (s : sep H h) : sep (recsP te e (.slice none 0 0) [] :: H) h := sep_close (p := fun us : List Value => [own (.slice none 0 0) 0 us te 1, bunch us [] e]) [] (sep_ownNil te 1 (bunch_nil s))
theorem sep_recsAdd {te e : Nat} {v' u : Value} {us : List Value} {ls : List (List UInt8)} {l : List UInt8} {H : List HP} {h : Hl} (s : sep (own v' (ls.length + 1) (us ++ [u]) te 1 :: bunch us ls e :: subB u l e :: H) h) : sep (recsP te e v' (ls ++ [l]) :: H) h :=
  sep_close (p := fun us : List Value => [own v' (ls ++ [l]).length us te 1, bunch us (ls ++ [l]) e]) (us ++ [u]) (star_mono s (fun _ x => by simpa using x) fun _ x => bunch_add x)
section
variable {P : Program} {w0 : World} {F : Hl} {n : Nat} {ops : Array Oper} {Q : QQ} {D : List Deferred} {L : List (Nat × Value)} {H : List HP} {l : List Oper}
theorem TL.recsOpen {te e : Nat} {v : Value} {ls : List (List UInt8)} (h : ∀ us, TL P w0 F n ops Q l D L (own v ls.length us te 1 :: bunch us ls e :: H)) : TL P w0 F n ops Q l D L (recsP te e v ls :: H) :=
  TL.ex (fun _ s => sep_open s) h
theorem sep_recsLen {te e : Nat} {v : Value} {ls : List (List UInt8)} {h : Hl} (s : recsP te e v ls h) : SlLen v ls.length ∧ v.oneCell' = true := by
  obtain ⟨us, g1, g2, d2, rfl, a1, _⟩ := s
  rcases a1 with ⟨q0, ⟨q1, q2, _⟩ | ⟨g, cap, cur, q1, _⟩⟩
  · subst q1
    have : ls = [] := List.eq_nil_of_length_eq_zero q2
    subst this
    exact ⟨⟨_, _, rfl⟩, rfl⟩
  · subst q1; exact ⟨⟨_, _, rfl⟩, rfl⟩
theorem TL.recsLen {te e : Nat} {v : Value} {ls : List (List UInt8)} (k : Nat) (hk : Nat.blt k H.length = true) (hH : H.getD k (fun _ => True) = recsP te e v ls) (h : SlLen v ls.length → v.oneCell' = true → TL P w0 F n ops Q l D L H) : TL P w0 F n ops Q l D L H :=
  TL.fact (p := SlLen v ls.length ∧ v.oneCell' = true) (fun w ⟨h, d, e', x⟩ => by
    obtain ⟨h1, h2, d', rfl, a, _⟩ := sep_get k (lb hk) x
    rw [hH] at a
    exact sep_recsLen a) fun ⟨h1, h2⟩ => h h1 h2
end
end Leg
namespace Leg
open Go Codec Api
section
variable {P : Program} {w0 : World} {F : Hl} {n : Nat} {L : List (Nat × Value)} {H : List HP}
theorem TE.ret3 {fn : Func} {post : Ending → List HP → Prop} {t t' t'' : Nat} {v v' v'' : Value} (hr : fn.results = #[.tmp t, .tmp t', .tmp t'']) (e : lk L t = some v) (e' : lk L t' = some v') (e'' : lk L t'' = some v'') (h : post (.returned (.tuple #[v, v', v''])) H) :
    TE w0 F n (bodyPost P fn (postOf post w0 F)) .ret [] L H := fun a w f s m => by
  refine bodyPost_ret (results_tmp3 hr _ _ _) f.2.1 ⟨s, H, m, ?_⟩
  have h1 := f.eval (x := .tmp t) e
  have h2 := f.eval (x := .tmp t') e'
  have h3 := f.eval (x := .tmp t'') e''
  rw [show a.tmps.getD t undef = v from h1, show a.tmps.getD t' undef = v' from h2, show a.tmps.getD t'' undef = v'' from h3]; exact h
end
theorem u8s_at {l : List UInt8} {j : Nat} (h : j < l.length) : (u8s l)[j]? = some (.int .u8 (((l.getD j 0).toNat : Nat) : Int)) := by simp [u8s, List.getD_eq_getElem?_getD, h]
theorem cutLH_0 {a : Addr} {m c k : Nat} (hc : 0 < c) : cutLH (.slice (some a) m c) 0 k = .slice (some a) k c := by
  simp only [cutLH, if_neg (show ¬ c = 0 by omega), Option.map_some, Nat.sub_zero]
  rfl
end Leg
namespace Leg
open Go Codec Api
section
variable {P : Program} {w0 : World} {F : Hl} {n : Nat} {ops : Array Oper} {Q : QQ} {D : List Deferred} {L : List (Nat × Value)} {H : List HP} {o : Oper} {l : List Oper} {d : Nat} {S : World → Prop}
theorem freeze_heap {w : World} {g k : Nat} {cs : Array Value} {e : TypeId} (h : w.heap[g]? = some (.cells cs e (0, 0))) : (w.freeze ⟨g, k, none⟩ 1).heap[g]? = some (.cells cs e (k, k + 1)) ∧ (∀ j, j ≠ g → (w.freeze ⟨g, k, none⟩ 1).heap[j]? = w.heap[j]?) ∧ Same w (w.freeze ⟨g, k, none⟩ 1) := by
  have hg : g < w.heap.size := by
    by_cases q : g < w.heap.size
    · exact q
    · rw [Array.getElem?_eq_none (by omega)] at h; cases h
  unfold World.freeze
  rw [if_neg (by decide)]
  refine ⟨?_, fun j hj => ?_, ⟨rfl, rfl, rfl, by simp⟩⟩
  · show (w.heap.modify g _)[g]? = _
    rw [Array.getElem?_modify, if_pos rfl, h]
    rfl
  · show (w.heap.modify g _)[j]? = _
    rw [Array.getElem?_modify, if_neg (fun e => hj e.symm)]
/-- A literal's bytes, marked. -/
theorem TL.convLit {t e g m c i : Nat} {x : Operand} {cs : List Value} {H' : List HP} (hw : Want n D ops o L) (ho : o.op = .convert t t x) (hd : o.dst = some d) (hn : Nat.blt d n = true) (ht : P.underlying t = some (.slice e)) (he : P.underlying e = some (.int .u8))
    (hx : evL L x = some (.slice (some ⟨g, 0, none⟩) m c)) (hi : Nat.blt i H.length = true) (hH : H.getD i (fun _ => True) = blkA g cs e) (hH' : H.set i (obj g (cellsO cs e (cs.length, cs.length + 1))) = H')
    (h : TL P w0 F n ops Q l D ((d, .slice (some ⟨g, 0, none⟩) m c) :: L) H') : TL P w0 F n ops Q (o :: l) D L H :=
  TL.step hw fun a w f sm q => by
    have hb := q.block i (lb hi) hH
    have hsh : w.shape? g = some (e, cs.length) := by simp [World.shape?, hb]
    obtain ⟨f1, f2, f3⟩ := freeze_heap (k := cs.length) hb
    have r : (execOp a.eval o).run P w = .ok (.value (.slice (some ⟨g, 0, none⟩) m c)) (w.freeze ⟨g, cs.length, none⟩ 1) := by
      simp [execOp, ho, f.eval hx, convert, run_underlying ht, run_underlying he, markStringish, hsh]
    unfold Oper.wp
    rw [r, Oper.upon_value, hd]
    subst hH'
    exact h _ _ (f.put (lb hn) _) (sm.trans f3) (q.write i (lb hi) hH f1 f2)
end
theorem isB_lit (i : Nat) {g T : Nat} {bs : List UInt8} {B : List HP} {F : Hl} (hl : bs.length ≤ 9223372036854775807) (hi : Nat.blt i B.length = true) {z : Nat × Nat} (e : B.getD i (fun _ => True) = obj g (cellsO (u8s bs) T z)) : ∀ h, Dj h F → sep B h → IsB (.slice (some ⟨g, 0, none⟩) bs.length bs.length) bs (jn h F) := fun h d s =>
  .inr ⟨g, 0, bs.length, u8s bs, T, z, rfl, Nat.le_refl _, hl, ro_piece i hi e h d s, fun j hj => by simp [u8s, List.getD_eq_getElem?_getD, hj]⟩
end Leg

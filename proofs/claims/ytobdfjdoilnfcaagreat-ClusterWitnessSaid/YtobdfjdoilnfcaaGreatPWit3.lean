/-
  Joined texts: what a statement's proof reaches.
-/
import Derived.Laws.MakeOwn
import Derived.OwnWalk
import Derived.OpenShut
import Derived.Deep.Slices
import Derived.ChangeArms
import Derived.WalkSpells
import Derived.Test.YtobdfjdoilnfcaaGreatPWit2
set_option maxHeartbeats 8000000
section
namespace Leg
open Go Codec Api

theorem madeCells_one (v : Value) (n : Nat) : madeCells #[v] n = (List.replicate n v).toArray := by
  unfold madeCells
  apply Array.ext
  · simp
  · intro i h1 h2
    simp at h1
    simp [Nat.mod_one]
theorem u8s_rep (n : Nat) : u8s (List.replicate n 0) = List.replicate n (.int .u8 0) := by simp [u8s]
section
variable {P : Program} {w0 : World} {F : Hl} {n : Nat} {ops : Array Oper} {Q : QQ} {D : List Deferred} {L : List (Nat × Value)} {H : List HP} {o : Oper} {l : List Oper} {d : Nat} {S : World → Prop}
theorem TL.mono {H' : List HP} (m : ∀ h, sep H h → sep H' h) (h : TL P w0 F n ops Q l D L H') : TL P w0 F n ops Q l D L H := TL.weak (Sub.refl _) m h
theorem TC.mono {c : Code} {H' : List HP} (m : ∀ h, sep H h → sep H' h) (h : TC P w0 F n c Q D L H') : TC P w0 F n c Q D L H := TC.weak (Sub.refl _) m h
theorem TL.makeB {t e : TypeId} {x y : Operand} {k k' : IntKind} {a b : Int} (m c : Nat) (hw : Want n D ops o L) (ho : o.op = .makeSlice t x y) (hd : o.dst = some d) (hn : Nat.blt d n = true) (ht : P.underlying t = some (.slice e))
    (hi : (P.info? e).map (fun i => (i.zero, i.size, i.bytes)) = some (some (.int .u8 0), 1, 1)) (hx : evL L x = some (.int k a)) (hy : evL L y = some (.int k' b)) (ha : a = (m : Int)) (hb : b = (c : Int)) (h1 : m ≤ c) (h2 : c ≤ 281474976710656)
    (h : ∀ b, TL P w0 F n ops Q l D ((d, .slice (some ⟨b, 0, none⟩) m c) :: L) (blkA b (u8s (List.replicate c 0)) e :: H)) : TL P w0 F n ops Q (o :: l) D L H :=
  TL.step hw fun a w f sm q => by
    subst ha; subst hb
    obtain ⟨i, hie, hz0, hs, hb⟩ := info_parts hi
    have hr := run_make (P := P) w t e i (.int .u8 0) ht hie hz0 k k' (m : Int) (c : Int) (by omega) (by omega) (by rw [hb]; omega) (by omega)
    have e1 : madeCells (Value.cells (.int .u8 0)) ((c : Int).toNat * i.size) = (u8s (List.replicate c 0)).toArray := by
      rw [hs, Nat.mul_one, Int.toNat_natCast, u8s_rep]
      exact madeCells_one _ _
    rw [e1] at hr
    simp only [Int.toNat_natCast] at hr
    have r : (execOp a.eval o).run P w = .ok (.value (.slice (some ⟨w.heap.size, 0, none⟩) m c)) (w.alloc (.cells (u8s (List.replicate c 0)).toArray e)) := by
      simp only [execOp, ho, f.eval hx, f.eval hy, Sem.run_bind, hr, Result.andThen_ok, Sem.run_pure]
    unfold Oper.wp
    rw [r, Oper.upon_value, hd]
    exact h _ _ _ (f.put (lb hn) _) (sm.trans ⟨rfl, rfl, rfl, by simp⟩) (q.alloc _)

/-! ### Cuts -/
/-- x[lo:hi] -/
def cutLH : Value → Nat → Nat → Value
  | .slice a m c, lo, hi => .slice (if c = lo then a else a.map (·.add lo)) (hi - lo) (c - lo)
  | v, _, _ => v
theorem PV.sliceLH {t e : TypeId} {x y z : Operand} {a : Option Addr} {len cap lo hi : Nat} {k k' : IntKind} {i j : Int} (ho : o.op = .slice t x (some y) (some z) none) (ht : P.underlying t = some (.slice e)) (hs : (P.info? e).map (·.size) = some 1)
    (hx : evL L x = some (.slice a len cap)) (hy : evL L y = some (.int k i)) (hz : evL L z = some (.int k' j)) (hi' : i = (lo : Int)) (hj : j = (hi : Int)) (h1 : lo ≤ hi) (h2 : hi ≤ cap) : PV P n D L S o (cutLH (.slice a len cap) lo hi) :=
  fun b w g _ => by
    subst hi'; subst hj
    simp only [execOp, ho, g.eval hx, Option.map_some, Option.map_none, g.eval hy, g.eval hz, cutLH]
    by_cases q : cap = lo
    · have e2 : hi = lo := by omega
      subst e2
      simp [Instr.sliceAt, Instr.slice, run_underlying ht, Instr.sliceBounds, Instr.sliceBound, asIntOf, run_sizeL hs, q]
    · simp [Instr.sliceAt, Instr.slice, run_underlying ht, Instr.sliceBounds, Instr.sliceBound, asIntOf, h1, h2, run_sizeL hs, q]
theorem PV.sliceH {t e : TypeId} {x z : Operand} {a : Option Addr} {len cap hi : Nat} {k' : IntKind} {j : Int} (ho : o.op = .slice t x none (some z) none) (ht : P.underlying t = some (.slice e)) (hs : (P.info? e).map (·.size) = some 1)
    (hx : evL L x = some (.slice a len cap)) (hz : evL L z = some (.int k' j)) (hj : j = (hi : Int)) (h2 : hi ≤ cap) : PV P n D L S o (cutLH (.slice a len cap) 0 hi) :=
  fun b w g _ => by
    subst hj
    simp only [execOp, ho, g.eval hx, Option.map_some, Option.map_none, g.eval hz, cutLH]
    by_cases q : cap = 0
    · have e2 : hi = 0 := by omega
      subst e2
      simp [Instr.sliceAt, Instr.slice, run_underlying ht, Instr.sliceBounds, Instr.sliceBound, asIntOf, run_sizeL hs, q]
    · simp [Instr.sliceAt, Instr.slice, run_underlying ht, Instr.sliceBounds, Instr.sliceBound, asIntOf, h2, run_sizeL hs, q]
theorem PV.sliceL {t e : TypeId} {x y : Operand} {a : Option Addr} {len cap lo : Nat} {k : IntKind} {i : Int} (ho : o.op = .slice t x (some y) none none) (ht : P.underlying t = some (.slice e)) (hs : (P.info? e).map (·.size) = some 1)
    (hx : evL L x = some (.slice a len cap)) (hy : evL L y = some (.int k i)) (hi : i = (lo : Int)) (h1 : lo ≤ len) : PV P n D L S o (cutLH (.slice a len cap) lo len) :=
  fun b w g _ => by
    subst hi
    simp only [execOp, ho, g.eval hx, Option.map_some, Option.map_none, g.eval hy, cutLH]
    by_cases q : cap = lo
    · simp [Instr.sliceAt, Instr.slice, run_underlying ht, Instr.sliceBounds, Instr.sliceBound, asIntOf, h1, run_sizeL hs, q]
    · simp [Instr.sliceAt, Instr.slice, run_underlying ht, Instr.sliceBounds, Instr.sliceBound, asIntOf, h1, run_sizeL hs, q]
end
theorem IsW.form {v : Value} {bs : List UInt8} {F : Hl} (h : IsW v bs F) : ∃ a c, v = .slice a bs.length c ∧ bs.length ≤ c ∧ (bs.length = 0 ∨ c ≤ 9223372036854775807) := by
  rcases h with (⟨rfl, rfl⟩ | ⟨b, off, cap, cs, T, z, rfl, h1, h2, _⟩) | ⟨a, c, rfl, rfl⟩
  · exact ⟨_, _, rfl, Nat.le_refl _, .inl rfl⟩
  · exact ⟨_, _, rfl, h1, .inr h2⟩
  · exact ⟨_, _, rfl, Nat.zero_le _, .inl rfl⟩
theorem IsW.lt {v : Value} {bs : List UInt8} {F : Hl} (h : IsW v bs F) : bs.length ≤ 9223372036854775807 := by
  obtain ⟨a, c, _, h1, h2⟩ := h.form
  omega
theorem IsW.cut {v : Value} {bs : List UInt8} {F : Hl} (h : IsW v bs F) {lo hi : Nat} (h1 : lo ≤ hi) (h2 : hi ≤ bs.length) : IsW (cutLH v lo hi) ((bs.take hi).drop lo) F := by
  have hl : ((bs.take hi).drop lo).length = hi - lo := by simp; omega
  by_cases e : hi - lo = 0
  · obtain ⟨a, c, rfl, hc, _⟩ := h.form
    have e0 : (bs.take hi).drop lo = [] := List.eq_nil_of_length_eq_zero (by omega)
    rw [e0]
    simp only [cutLH, e]
    split
    · cases a with
      | some a => exact .inr ⟨_, _, rfl, rfl⟩
      | none =>
        rcases h with (⟨h, rfl⟩ | ⟨b, off, cap, cs, T, z, h, _⟩) | ⟨a, c, h, _⟩
        · injection h with _ _ h; subst h; exact .inl (.inl ⟨by simp, rfl⟩)
        · simp at h
        · simp at h
    · cases a with
      | some a => exact .inr ⟨_, _, rfl, rfl⟩
      | none =>
        rcases h with (⟨h, rfl⟩ | ⟨b, off, cap, cs, T, z, h, _⟩) | ⟨a, c, h, _⟩
        · injection h with _ _ h; subst h; exact .inl (.inl ⟨by simp, rfl⟩)
        · simp at h
        · simp at h
  · obtain ⟨b, off, cap, cs, T, z, rfl, hb, hcs, hc⟩ := h.at (j := 0) (by omega)
    rcases h.form with ⟨a, c, hv, _, hm⟩
    injection hv with _ _ hv
    subst hv
    refine .inl (.inr ⟨b, off + lo, cap - lo, cs, T, z, ?_, by omega, by omega, hb, fun j hj => ?_⟩)
    · simp only [cutLH, hl, if_neg (show ¬ cap = lo by omega), Option.map_some, addL]
    · rw [hl] at hj
      rw [Nat.add_assoc, hcs (lo + j) (by omega)]
      congr 2
      simp [List.getD_eq_getElem?_getD, List.getElem?_take, show lo + j < hi by omega]

/-! ### Bytes that are owned, wherever in their block -/
def subB (v : Value) (bs : List UInt8) (e : Nat) : HP := fun h =>
  (v = .slice none 0 0 ∧ bs = [] ∧ h = em) ∨ ∃ g off cap cur, v = .slice (some ⟨g, off, none⟩) bs.length cap ∧ h = sg g (.cells cur e (0, 0)) ∧ bs.length ≤ cap ∧ cap ≤ maxLen ∧ off + cap ≤ cur.size ∧ (cur.toList.drop off).take bs.length = u8s bs
theorem subB_of_own {v : Value} {bs : List UInt8} {e : Nat} {h : Hl} (x : ownB v bs e h) : subB v bs e h := by
  rcases x with ⟨_, ⟨h1, h2, h3⟩ | ⟨g, cap, cur, h1, h2, h3, h4, h5, h6⟩⟩
  · exact .inl ⟨h1, List.eq_nil_of_length_eq_zero h2, h3⟩
  · exact .inr ⟨g, 0, cap, cur, h1, h2, h3, h4, by omega, by simpa using h6⟩
section
variable {H : List HP} {F : Hl} {v : Value} {bs : List UInt8} {e : Nat}
theorem sep_sub (i : Nat) (hi : Nat.blt i H.length = true) (hH : H.getD i (fun _ => True) = ownB v bs e) {h : Hl} (s : sep H h) : sep (H.set i (subB v bs e)) h :=
  sep_put i (lb hi) (star_mono (sep_get i (lb hi) s) (fun _ x => subB_of_own (by rwa [hH] at x)) fun _ x => x)
theorem sep_ownCut {lo hi nn : Nat} {bs' : List UInt8} (i : Nat) (hi' : Nat.blt i H.length = true) (hH : H.getD i (fun _ => True) = ownB v bs e) {g cap : Nat} (hv : v = .slice (some ⟨g, 0, none⟩) nn cap) (h1 : lo ≤ hi) (h2 : hi ≤ bs.length) (h3 : lo < bs.length) (hb : (bs.take hi).drop lo = bs') {h : Hl} (s : sep H h) :
    sep (H.set i (subB (cutLH v lo hi) bs' e)) h := by
  subst hb
  have hl : ((bs.take hi).drop lo).length = hi - lo := by simp; omega
  refine sep_put i (lb hi') (star_mono (sep_get i (lb hi') s) (fun _ x => ?_) fun _ x => x)
  rw [hH] at x
  rcases x with ⟨_, ⟨h1, h2, _⟩ | ⟨g', cap', cur, h4, h5, h6, h7, h8, h9⟩⟩
  · rw [hv] at h1; simp at h1
  · rw [hv] at h4 ⊢
    simp only [Value.slice.injEq, Option.some.injEq, Addr.mk.injEq, and_true, true_and] at h4
    obtain ⟨rfl, rfl, rfl⟩ := h4
    refine .inr ⟨g, lo, cap - lo, cur, ?_, h5, by omega, by omega, by omega, ?_⟩
    · simp only [cutLH, hl, if_neg (show ¬ cap = lo by omega), Option.map_some, addL, Nat.zero_add]
    · rw [hl]
      rw [Nat.mul_one] at h9
      have e1 := congrArg (fun l : List Value => (l.take hi).drop lo) h9
      simp only [List.take_take, Nat.min_eq_left h2] at e1
      rw [← List.drop_take, e1]
      simp [u8s, List.map_take, List.map_drop]
theorem Sat.sub_form {w : World} (i : Nat) (s : Sat H F w) (hi : Nat.blt i H.length = true) (hH : H.getD i (fun _ => True) = subB v bs e) : (v = .slice none 0 0 ∧ bs = []) ∨ ∃ g off cap cur, v = .slice (some ⟨g, off, none⟩) bs.length cap ∧ w.heap[g]? = some (.cells cur e (0, 0)) ∧ bs.length ≤ cap ∧ cap ≤ maxLen ∧ off + cap ≤ cur.size ∧ (cur.toList.drop off).take bs.length = u8s bs := by
  obtain ⟨h, d, e', x⟩ := s
  obtain ⟨h1, h2, d', rfl, a, _⟩ := sep_get i (lb hi) x
  rw [hH] at a
  rcases a with ⟨x1, x2, _⟩ | ⟨g, off, cap, cur, x1, x2, x3⟩
  · exact .inl ⟨x1, x2⟩
  · refine .inr ⟨g, off, cap, cur, x1, ?_, x3⟩
    have : hp w g = some (.cells cur e (0, 0)) := by
      rw [e', jn_assoc]
      exact jn_some (by rw [x2]; simp [sg])
    exact this
theorem Sat.sub_len {w : World} (i : Nat) (s : Sat H F w) (hi : Nat.blt i H.length = true) (hH : H.getD i (fun _ => True) = subB v bs e) : SlLen v bs.length ∧ v.oneCell' = true := by
  rcases s.sub_form i hi hH with ⟨rfl, rfl⟩ | ⟨g, off, cap, cur, rfl, _⟩
  · exact ⟨⟨_, _, rfl⟩, rfl⟩
  · exact ⟨⟨_, _, rfl⟩, rfl⟩
theorem Src.sub (i : Nat) (hi : Nat.blt i H.length = true) (hH : H.getD i (fun _ => True) = subB v bs e) {w : World} (s : Sat H F w) : Src (Sat H F) v bs.length (u8s bs) 1 := by
  refine ⟨by simp [u8s], ?_⟩
  rcases s.sub_form i hi hH with ⟨rfl, rfl⟩ | ⟨g, off, cap, cur, rfl, _⟩
  · exact .inl ⟨rfl, rfl⟩
  · refine .inr ⟨⟨g, off, none⟩, cap, rfl, fun w s j u hj => ?_⟩
    rcases s.sub_form i hi hH with ⟨h1, _⟩ | ⟨g', off', cap', cur', h1, h2, h3, h4, h5, h6⟩
    · simp at h1
    · simp only [Value.slice.injEq, Option.some.injEq, Addr.mk.injEq, and_true, true_and] at h1
      obtain ⟨⟨rfl, rfl⟩, rfl⟩ := h1
      rw [addL]
      rw [← h6, List.getElem?_take] at hj
      split at hj
      · simp only [World.cell?, h2, Option.isSome_none, Bool.false_eq_true, if_false]
        simpa using hj
      · cases hj
theorem isB_sub (i : Nat) {B : List HP} (hi : Nat.blt i B.length = true) (hH : B.getD i (fun _ => True) = subB v bs e) : ∀ g, Dj g F → sep B g → IsB v bs (jn g F) := fun g _ s => by
  obtain ⟨h1, h2, d', rfl, a, _⟩ := sep_get i (lb hi) s
  rw [hH] at a
  rcases a with ⟨x1, x2, _⟩ | ⟨g, off, cap, cur, x1, x2, x3, x4, x5, x6⟩
  · exact .inl ⟨x1, x2⟩
  · refine .inr ⟨g, off, cap, cur.toList, e, (0, 0), x1, x3, by simpa [maxLen] using x4, jn_some (jn_some (by rw [x2]; simp [sg])), fun j hj => ?_⟩
    have e1 := congrArg (fun l : List Value => l[j]?) x6
    simp only [List.getElem?_take, if_pos hj, List.getElem?_drop] at e1
    rw [e1]; simp [u8s, List.getD_eq_getElem?_getD, hj]
end
theorem run_append_roomO {P : Program} (w : World) (t ty e : TypeId) (i : TypeInfo) (ht : P.underlying t = some (.slice e)) (hi : P.info? e = some i) (g off sLen sCap : Nat) (cur : Array Value) (hg : w.heap[g]? = some (.cells cur e (0, 0)))
    (a : Addr) (m c : Nat) (news : List Value) (hl : news.length = m * i.size) (hnews : ∀ j u, news[j]? = some u → w.cell? (a.add j) = some u) (h1 : ∀ u ∈ news, u.oneCell' = true)
    (hroom : sLen + m ≤ sCap) (hfit : off + sLen * i.size + news.length ≤ cur.size) :
    (Builtin.append_ #[t, t] ty #[.slice (some ⟨g, off, none⟩) sLen sCap, .slice (some a) m c]).run P w =
      .ok (.slice (some ⟨g, off, none⟩) (sLen + m) sCap) (w.setRow g (cur.toList.take (off + sLen * i.size) ++ news ++ cur.toList.drop (off + sLen * i.size + news.length)).toArray) := by
  have hf := run_firstCells_some (P := P) w i.size m a m c news hl hnews
  have hst := run_storeCells_at P g (off + sLen * i.size) e news 0 cur w hg (by simpa using hfit) h1
  simp only [Nat.add_zero] at hst
  simp [Builtin.append_, run_underlying ht, Go.sizeOf, typeInfo, hi, Builtin.lenOf, hroom, hf, Addr.add_lit, hst]
section
variable {P : Program} {w0 : World} {F : Hl} {n : Nat} {ops : Array Oper} {Q : QQ} {D : List Deferred} {L : List (Nat × Value)} {H : List HP} {o : Oper} {l : List Oper} {d : Nat} {S : World → Prop}
theorem Sat.sub_open {w : World} {k : Nat} {v : Value} {bs : List UInt8} {e : TypeId} (s : Sat H F w) (hk : Nat.blt k H.length = true) (hH : H.getD k (fun _ => True) = subB v bs e) :
    (v = .slice none 0 0 ∧ bs = [] ∧ Sat (H.set k (ownB (.slice none 0 0) [] e)) F w) ∨ ∃ g off cap cur, v = .slice (some ⟨g, off, none⟩) bs.length cap ∧ Sat (H.set k (obj g (.cells cur e (0, 0)))) F w ∧ bs.length ≤ cap ∧ cap ≤ maxLen ∧ off + cap ≤ cur.size ∧ (cur.toList.drop off).take bs.length = u8s bs := by
  obtain ⟨h, d, e', x⟩ := s
  obtain ⟨h1, h2, d', rfl, a, y⟩ := sep_get k (lb hk) x
  rw [hH] at a
  rcases a with ⟨x1, x2, x3⟩ | ⟨g, off, cap, cur, x1, x2, x3⟩
  · exact .inl ⟨x1, x2, _, d, e', sep_put k (lb hk) ⟨h1, h2, d', rfl, ⟨rfl, .inl ⟨rfl, rfl, x3⟩⟩, y⟩⟩
  · exact .inr ⟨g, off, cap, cur, x1, ⟨_, d, e', sep_put k (lb hk) ⟨h1, h2, d', rfl, x2, y⟩⟩, x3⟩
theorem Src.of_eq {S' : World → Prop} {x : Value} {m size : Nat} {news : List Value} (h : Src S x m news size) (hS : ∀ w, S' w → S w) : Src S' x m news size := ⟨h.1, h.2.imp id fun ⟨a, c, q3, q4⟩ => ⟨a, c, q3, fun w' s' => q4 w' (hS w' s')⟩⟩
theorem set_same {k : Nat} {q : HP} (hk : Nat.blt k H.length = true) (hH : H.getD k (fun _ => True) = q) : H.set k q = H := by
  rw [← hH, List.getD_eq_getElem?_getD, List.getElem?_eq_getElem (lb hk)]; exact List.set_getElem_self _
theorem run_appendS {w : World} {k : Nat} {v x : Value} {bs news : List UInt8} {t ty e : TypeId} (s : Sat H F w) (ht : P.underlying t = some (.slice e)) (hi : (P.info? e).map (fun i => (i.zero, i.size, i.bytes)) = some (some (.int .u8 0), 1, 1))
    (hk : Nat.blt k H.length = true) (hH : H.getD k (fun _ => True) = subB v bs e) (hx : Src (Sat H F) x news.length (u8s news) 1) (hb : bs.length + news.length ≤ 140737488355328) :
    ∃ v' w', (Builtin.append_ #[t, t] ty #[v, x]).run P w = .ok v' w' ∧ Same w w' ∧ Sat (H.set k (subB v' (bs ++ news) e)) F w' := by
  rcases s.sub_open hk hH with ⟨rfl, rfl, s1⟩ | ⟨g, off, cap, cur, rfl, s1, h3, h4, h5, h6⟩
  · have hx' : Src (Sat (H.set k (ownB (.slice none 0 0) [] e)) F) x news.length (u8s news) 1 := hx.of_eq fun w' s' => by
      have := s'.turn (q := subB (.slice none 0 0) [] e) k (by simpa using lb hk) fun h hh => by
        rw [getD_set (lb hk)] at hh; exact subB_of_own hh
      rwa [List.set_set, set_same hk hH] at this
    obtain ⟨v', w', r1, r2, r3⟩ := run_appendL (k := k) (nn := 0) (m := news.length) (v := .slice none 0 0) (xs := u8s []) (news := u8s news) (ty := ty) s1 ht hi rfl (by decide) (by simpa using lb hk) (getD_set (lb hk) _) hx' (u8s_one _) (by simp only [maxLen]; simp at hb; omega) (by simp at hb; omega)
    refine ⟨v', w', r1, r2, ?_⟩
    rw [List.set_set] at r3
    have := r3.turn (q := subB v' ([] ++ news) e) k (by simpa using lb hk) fun h hh => by
      rw [getD_set (lb hk)] at hh
      refine subB_of_own ?_
      rw [← u8s_append, Nat.zero_add, List.nil_append] at hh
      exact hh
    rwa [List.set_set] at this
  · obtain ⟨i, hie, hz0, hsz, hby⟩ := info_parts hi
    obtain ⟨hxl, hxx⟩ := hx
    have hg : w.heap[g]? = some (.cells cur e (0, 0)) := s1.block k (by simpa using lb hk) (getD_set (lb hk) _)
    by_cases hroom : bs.length + news.length ≤ cap
    · rcases hxx with ⟨rfl, hm⟩ | ⟨a0, c, rfl, hc⟩
      · have hn : news = [] := List.eq_nil_of_length_eq_zero hm
        subst hn
        refine ⟨_, w, ?_, Same.refl w, by rw [List.append_nil, set_same hk hH]; exact s⟩
        simp [Builtin.append_, run_underlying ht, Go.sizeOf, typeInfo, hie, Builtin.lenOf, Builtin.firstCells, loadCells, loadCellsFrom, storeCells, h3]
      · have hfit : off + bs.length * i.size + (u8s news).length ≤ cur.size := by rw [hsz, Nat.mul_one, u8s_length]; omega
        refine ⟨_, _, run_append_roomO (P := P) w t ty e i ht hie g off bs.length cap cur hg a0 news.length c (u8s news) (by rw [hsz, u8s_length, Nat.mul_one]) (fun j v hj => hc w s j v hj) (u8s_one _) hroom hfit, ⟨rfl, rfl, rfl, by simp⟩, ?_⟩
        have h2 := s1.write k (by simpa using lb hk) (getD_set (lb hk) _) (setRow_heap w g cur (cur.toList.take (off + bs.length * i.size) ++ u8s news ++ cur.toList.drop (off + bs.length * i.size + (u8s news).length)).toArray e _ hg) (fun j hj => setRow_other w g j _ hj)
        rw [List.set_set] at h2
        have h7 := h2.turn (q := subB (.slice (some ⟨g, off, none⟩) (bs.length + news.length) cap) (bs ++ news) e) k (by simpa using lb hk) (fun h hh => by
          rw [getD_set (lb hk)] at hh
          rw [hsz, Nat.mul_one, u8s_length] at hh
          refine .inr ⟨g, off, cap, _, by rw [List.length_append], hh, by rw [List.length_append]; exact hroom, h4, ?_, ?_⟩
          · simp only [List.size_toArray, List.length_append, List.length_take, List.length_drop, Array.length_toList, u8s_length]
            rw [hsz, Nat.mul_one, u8s_length] at hfit
            omega
          · simp only [List.append_assoc]
            rw [List.drop_append_of_le_length (by simp only [List.length_take, Array.length_toList]; rw [hsz, Nat.mul_one, u8s_length] at hfit; omega), List.drop_take, Nat.add_sub_cancel_left, h6, ← List.append_assoc, ← u8s_append]
            rw [List.take_append_of_le_length (by rw [u8s_length]; exact Nat.le_refl _), List.take_of_length_le (by rw [u8s_length]; exact Nat.le_refl _)])
        rwa [List.set_set] at h7
    · rcases hxx with ⟨rfl, hm⟩ | ⟨a0, c, rfl, hc⟩
      · omega
      · have holds : ∀ j u, (u8s bs)[j]? = some u → w.cell? ((⟨g, off, none⟩ : Addr).add j) = some u := fun j u hj => by
          rw [addL]
          rw [← h6, List.getElem?_take] at hj
          split at hj
          · simpa [World.cell?, hg] using hj
          · cases hj
        have hr := run_append_grow (P := P) w t ty e i _ ht hie hz0 ⟨g, off, none⟩ bs.length cap (u8s bs) (by rw [hsz, u8s_length, Nat.mul_one]) holds a0 news.length c (u8s news) (by rw [hsz, u8s_length, Nat.mul_one]) (fun j v hj => hc w s j v hj) (by omega) (by omega) (growslice_fits (by omega) (by rw [hby]; omega))
        refine ⟨_, _, hr, ⟨rfl, rfl, rfl, by simp⟩, Sat.swap k (lb hk) (s.drew.alloc _) fun h hh => ?_⟩
        have hge := grownCap_ge w (bs.length + news.length) cap e
        refine .inr ⟨w.heap.size, 0, _, _, by rw [List.length_append], hh, by rw [List.length_append]; exact hge, grownCap_le_maxLen w (bs.length + news.length) cap e (by simp only [maxLen]; omega), ?_, ?_⟩
        · simp only [Array.size_append, List.size_toArray, size_zeroCells, u8s_length, Nat.zero_add]
          have : (Value.cells (.int .u8 0)).size = 1 := rfl
          rw [this, Nat.mul_one]; omega
        · simp only [Array.toList_append, List.append_assoc, List.drop_zero]
          rw [← List.append_assoc, ← u8s_append, ← u8s_length (bs ++ news)]
          exact List.take_left
theorem TL.appendS {s x : Operand} {k : Nat} {v vx : Value} {bs news bs' : List UInt8} {t e : TypeId} (hw : Want n D ops o L)
    (ho : o.op = .call { callee := .builtin .append, args := #[s, x], argTypes := #[t, t] }) (hd : o.dst = some d) (hn : Nat.blt d n = true) (ht : P.underlying t = some (.slice e))
    (hi : (P.info? e).map (fun i => (i.zero, i.size, i.bytes)) = some (some (.int .u8 0), 1, 1)) (hs : evL L s = some v) (hx : evL L x = some vx)
    (hk : Nat.blt k H.length = true) (hH : H.getD k (fun _ => True) = subB v bs e) (hsrc : ∀ w, Sat H F w → Src (Sat H F) vx news.length (u8s news) 1) (hb : bs.length + news.length ≤ 140737488355328)
    (hxs : bs ++ news = bs') (h : ∀ v', v'.oneCell' = true → TL P w0 F n ops Q l D ((d, v') :: L) (H.set k (subB v' bs' e))) : TL P w0 F n ops Q (o :: l) D L H :=
  TL.step hw fun a w f sm q => by
    obtain ⟨v', w', hr, s', q'⟩ := run_appendS (ty := o.type) q ht hi hk hH (hsrc w q) hb
    unfold Oper.wp execOp
    simp only [ho, resolve, invoke, builtin, Sem.run_bind, Sem.run_pure, Result.andThen_ok, List.map_toArray, List.map_cons, List.map_nil, f.eval hs, f.eval hx, hr]
    rw [Oper.upon_value, hd]
    subst hxs
    have one : v'.oneCell' = true := (q'.sub_len k (by simpa using hk) (getD_set (lb hk) _)).2
    exact h v' one _ w' (f.put (lb hn) v') (sm.trans s') q'
theorem TL.subLen {v : Value} {bs : List UInt8} {e : Nat} (k : Nat) (hk : Nat.blt k H.length = true) (hH : H.getD k (fun _ => True) = subB v bs e)
    (h : SlLen v bs.length → v.oneCell' = true → TL P w0 F n ops Q l D L H) : TL P w0 F n ops Q l D L H := TL.fact (fun w m => m.sub_len k hk hH) fun ⟨h1, h2⟩ => h h1 h2
end

theorem fill_one {v : Value} {z : Array Value} (h : v.oneCell' = true) (hz : z.size = 1) : Instr.fill (fun i => some (i * 1, 1)) z [(0, v)] = some #[v] := by
  rw [Instr.fill, cells_one h]
  simp only [Nat.zero_mul, List.size_toArray, List.length_cons, List.length_nil, Nat.zero_add, hz, ne_eq, not_true_eq_false, decide_false, Bool.false_or]
  rw [if_neg (by simp)]
  have : (#[v].zipIdx.foldl (fun cs (c, j) => cs.setIfInBounds (0 + j) c) z) = #[v] := by
    match z, hz with
    | ⟨[x]⟩, _ => rfl
  simp only [Nat.zero_add] at this
  simp only [Instr.fill]
  rw [this]
theorem isBB_one {x : Value} {bs : List UInt8} {F : Hl} (hx : IsW x bs F) (i : Nat) {g T : Nat} {B : List HP} (hi : Nat.blt i B.length = true) (e : B.getD i (fun _ => True) = blkA g [x] T) : ∀ h, Dj h F → sep B h → IsBB (.slice (some ⟨g, 0, none⟩) 1 1) [bs] (jn h F) := fun h d s =>
  .inr (.inr ⟨g, 0, 1, [x], T, (0, 0), rfl, Nat.le_refl _, by decide, ro_piece i hi e h d s, fun j hj => by
    obtain rfl : j = 0 := by simpa using hj
    exact ⟨[x], rfl, rfl, x, rfl, hx.more d⟩⟩)
theorem isB_blkN (i n : Nat) {g T : Nat} {bs : List UInt8} {B : List HP} {F : Hl} (hn : bs.length = n) (hl : n ≤ 9223372036854775807) (hi : Nat.blt i B.length = true) (e : B.getD i (fun _ => True) = blkA g (u8s bs) T) : ∀ h, Dj h F → sep B h → IsB (.slice (some ⟨g, 0, none⟩) n n) bs (jn h F) := by
  subst hn; exact isB_blk i hl hi e

/-! ### Lists of slices of bytes -/
/-- Slices of bytes, each owned. -/
def bunch (us : List Value) (ls : List (List UInt8)) (e : Nat) : HP := fun h => us.length = ls.length ∧ sep (List.zipWith (fun u l => subB u l e) us ls) h
abbrev recsP (te e : Nat) (v : Value) (ls : List (List UInt8)) : HP := pack fun us : List Value => [own v ls.length us te 1, bunch us ls e]
theorem zip_concat {α β γ : Type} (f : α → β → γ) : ∀ (us : List α) (ls : List β) (u : α) (l : β), us.length = ls.length → List.zipWith f (us ++ [u]) (ls ++ [l]) = List.zipWith f us ls ++ [f u l]
  | [], [], _, _, _ => rfl
  | [], _ :: _, _, _, h => by simp at h
  | _ :: _, [], _, _, h => by simp at h
  | x :: us, y :: ls, u, l, h => by simp [zip_concat f us ls u l (by simpa using h)]
theorem bunch_add {us : List Value} {ls : List (List UInt8)} {e : Nat} {u : Value} {l : List UInt8} {H : List HP} {h : Hl} (s : sep (bunch us ls e :: subB u l e :: H) h) : sep (bunch (us ++ [u]) (ls ++ [l]) e :: H) h := by
  have t := star_assoc.2 s
  refine star_mono t (fun h' x => ?_) fun _ x => x
  obtain ⟨h1, h2, d, rfl, ⟨hl, a⟩, b⟩ := x
  refine ⟨by simp [hl], ?_⟩
  rw [zip_concat _ _ _ _ _ hl]
  exact (sep_append _ _).2 ⟨h1, h2, d, rfl, a, sep_single b⟩
theorem bunch_nil {e : Nat} {H : List HP} {h : Hl} (s : sep H h) : sep (bunch [] [] e :: H) h := ⟨em, h, Dj.em' h, (em_jn h).symm, ⟨rfl, trivial⟩, s⟩
theorem bunch_at : ∀ (us : List Value) (ls : List (List UInt8)) (e : Nat) (h : Hl), us.length = ls.length → sep (List.zipWith (fun u l => subB u l e) us ls) h → ∀ (j : Nat) (hj : j < ls.length), ∃ u, us[j]? = some u ∧ ∃ h1 h2, Dj h1 h2 ∧ h = jn h1 h2 ∧ subB u ls[j] e h1
  | [], [], _, _, _, _, j, hj => by simp at hj
  | [], _ :: _, _, _, h, _, _, _ => by simp at h
  | _ :: _, [], _, _, h, _, _, _ => by simp at h
  | u :: us, l :: ls, e, h, hl, s, 0, _ => by
    obtain ⟨h1, h2, d, rfl, a, _⟩ := s
    exact ⟨u, rfl, h1, h2, d, rfl, a⟩
  | u :: us, l :: ls, e, h, hl, s, j + 1, hj => by
    obtain ⟨h1, h2, d, rfl, _, b⟩ := s
    obtain ⟨u', e1, g1, g2, d', rfl, a⟩ := bunch_at us ls e h2 (by simpa using hl) b j (by simpa using hj)
    refine ⟨u', by simpa using e1, g1, jn h1 g2, ?_, ?_, a⟩
    · obtain ⟨q1, q2⟩ := Dj.jn_right.1 d
      exact Dj.jn_right.2 ⟨q1.symm, d'⟩
    · rw [jn_comm d, jn_assoc, jn_comm (Dj.jn_right.1 d).2]
theorem subB_isB {v : Value} {bs : List UInt8} {e : Nat} {h1 G : Hl} (a : subB v bs e h1) (hG : Le h1 G) : IsB v bs G := by
  rcases a with ⟨x1, x2, _⟩ | ⟨g, off, cap, cur, x1, x2, x3, x4, x5, x6⟩
  · exact .inl ⟨x1, x2⟩
  · refine .inr ⟨g, off, cap, cur.toList, e, (0, 0), x1, x3, by simpa [maxLen] using x4, hG _ _ (by rw [x2]; simp [sg]), fun j hj => ?_⟩
    have e1 := congrArg (fun l : List Value => l[j]?) x6
    simp only [List.getElem?_take, if_pos hj, List.getElem?_drop] at e1
    rw [e1]; simp [u8s, List.getD_eq_getElem?_getD, hj]
theorem sep_recsNil (te e : Nat) {H : List HP} {h : Hl} (s : sep H h) : sep (recsP te e (.slice none 0 0) [] :: H) h := sep_close (p := fun us : List Value => [own (.slice none 0 0) 0 us te 1, bunch us [] e]) [] (sep_ownNil te 1 (bunch_nil s))
theorem sep_recsAdd {te e : Nat} {v' u : Value} {us : List Value} {ls : List (List UInt8)} {l : List UInt8} {H : List HP} {h : Hl} (s : sep (own v' (ls.length + 1) (us ++ [u]) te 1 :: bunch us ls e :: subB u l e :: H) h) : sep (recsP te e v' (ls ++ [l]) :: H) h :=
  sep_close (p := fun us : List Value => [own v' (ls ++ [l]).length us te 1, bunch us (ls ++ [l]) e]) (us ++ [u]) (star_mono s (fun _ x => by simpa using x) fun _ x => bunch_add x)
section
variable {P : Program} {w0 : World} {F : Hl} {n : Nat} {ops : Array Oper} {Q : QQ} {D : List Deferred} {L : List (Nat × Value)} {H : List HP} {l : List Oper}
theorem TL.recsOpen {te e : Nat} {v : Value} {ls : List (List UInt8)} (h : ∀ us, TL P w0 F n ops Q l D L (own v ls.length us te 1 :: bunch us ls e :: H)) : TL P w0 F n ops Q l D L (recsP te e v ls :: H) :=
  TL.ex (fun _ s => sep_open s) h
theorem sep_recsLen {te e : Nat} {v : Value} {ls : List (List UInt8)} {h : Hl} (s : recsP te e v ls h) : SlLen v ls.length ∧ v.oneCell' = true := by
  obtain ⟨us, g1, g2, d2, rfl, a1, _⟩ := s
  rcases a1 with ⟨q0, ⟨q1, q2, _⟩ | ⟨g, cap, cur, q1, _⟩⟩
  · subst q1
    have : ls = [] := List.eq_nil_of_length_eq_zero q2
    subst this
    exact ⟨⟨_, _, rfl⟩, rfl⟩
  · subst q1; exact ⟨⟨_, _, rfl⟩, rfl⟩
theorem TL.recsLen {te e : Nat} {v : Value} {ls : List (List UInt8)} (k : Nat) (hk : Nat.blt k H.length = true) (hH : H.getD k (fun _ => True) = recsP te e v ls) (h : SlLen v ls.length → v.oneCell' = true → TL P w0 F n ops Q l D L H) : TL P w0 F n ops Q l D L H :=
  TL.fact (p := SlLen v ls.length ∧ v.oneCell' = true) (fun w ⟨h, d, e', x⟩ => by
    obtain ⟨h1, h2, d', rfl, a, _⟩ := sep_get k (lb hk) x
    rw [hH] at a
    exact sep_recsLen a) fun ⟨h1, h2⟩ => h h1 h2
end
end Leg
namespace Leg
open Go Codec Api
section
variable {P : Program} {w0 : World} {F : Hl} {n : Nat} {L : List (Nat × Value)} {H : List HP}
theorem TE.ret3 {fn : Func} {post : Ending → List HP → Prop} {t t' t'' : Nat} {v v' v'' : Value} (hr : fn.results = #[.tmp t, .tmp t', .tmp t'']) (e : lk L t = some v) (e' : lk L t' = some v') (e'' : lk L t'' = some v'') (h : post (.returned (.tuple #[v, v', v''])) H) :
    TE w0 F n (bodyPost P fn (postOf post w0 F)) .ret [] L H := fun a w f s m => by
  refine bodyPost_ret (results_tmp3 hr _ _ _) f.2.1 ⟨s, H, m, ?_⟩
  have h1 := f.eval (x := .tmp t) e
  have h2 := f.eval (x := .tmp t') e'
  have h3 := f.eval (x := .tmp t'') e''
  rw [show a.tmps.getD t undef = v from h1, show a.tmps.getD t' undef = v' from h2, show a.tmps.getD t'' undef = v'' from h3]; exact h
end
theorem u8s_at {l : List UInt8} {j : Nat} (h : j < l.length) : (u8s l)[j]? = some (.int .u8 (((l.getD j 0).toNat : Nat) : Int)) := by simp [u8s, List.getD_eq_getElem?_getD, h]
theorem cutLH_0 {a : Addr} {m c k : Nat} (hc : 0 < c) : cutLH (.slice (some a) m c) 0 k = .slice (some a) k c := by
  simp only [cutLH, if_neg (show ¬ c = 0 by omega), Option.map_some, Nat.sub_zero]
  rfl
end Leg
namespace Leg
open Go Codec Api
section
variable {P : Program} {w0 : World} {F : Hl} {n : Nat} {ops : Array Oper} {Q : QQ} {D : List Deferred} {L : List (Nat × Value)} {H : List HP} {o : Oper} {l : List Oper} {d : Nat} {S : World → Prop}
end
end Leg
end

section
namespace Go.Proofs.YtobdfjdoilnfcaaGreat

open Go Leg Codec Api

set_option linter.unusedSimpArgs false
set_option linter.unusedVariables false

set_option maxRecDepth 100000

set_option maxHeartbeats 8000000

theorem sz65 : (Tryz.prog.info? 65).map (·.size) = some 870 := by kernel_rfl

theorem sz93 : (Tryz.prog.info? 93).map (·.size) = some 875 := by kernel_rfl

theorem sz100 : (Tryz.prog.info? 100).map (·.size) = some 870 := by kernel_rfl

theorem nm146 : Named Tryz.prog 146 := ⟨Tryz.f146, Tryz.func146, by kernel_rfl, by kernel_rfl⟩

theorem nm166 : Named Tryz.prog 166 := ⟨Tryz.f166, Tryz.func166, by kernel_rfl, by kernel_rfl⟩

theorem rowMachine_does (w : Int) :
    Leg.Does Tryz.prog 141 #[(.int .i64 (w))] (fun _ => True) [] (Ret (fun r' H => r' = .bool (machB w) ∧ H = [])) := by
 refine Leg.Does.body (n := 9) Tryz.func141 rfl rfl rfl (fun w0 F hF => ?_)
 refine sr fun _ J1 => ?_
 refine PS ?_
 refine nx J1 (sr fun _ J2 => ?_)
 refine PS ?_
 refine PS ?_
 refine TL.dec (fun h4 => ?_) (fun h4 => ?_)
 refine PS ?_
 refine PS ?_
 refine PS ?_
 refine PS ?_
 refine PS ?_
 refine nx J2 ?_
 refine TC.ret ?_
 refine TE.ret1 rfl rfl ?_
 exact ⟨congrArg Value.bool (by unfold machB; first | (rw [decide_eq_decide]; omega) | (symm; rw [decide_eq_false_iff_not]; omega) | (symm; rw [decide_eq_true_iff]; omega)), rfl⟩
 refine PS ?_
 refine UF ?_
 refine UF ?_
 refine PS ?_
 refine PS ?_
 refine nx J2 ?_
 refine TC.ret ?_
 refine TE.ret1 rfl rfl ?_
 exact ⟨congrArg Value.bool (by unfold machB; first | (rw [decide_eq_decide]; omega) | (symm; rw [decide_eq_false_iff_not]; omega) | (symm; rw [decide_eq_true_iff]; omega)), rfl⟩
theorem bookMachine_does (w : Int) :
    Leg.Does Tryz.prog 90 #[(.int .i64 (w))] (fun _ => True) [] (Ret (fun r' H => r' = .bool (machB w) ∧ H = [])) := by
 refine Leg.Does.body (n := 9) Tryz.func90 rfl rfl rfl (fun w0 F hF => ?_)
 refine sr fun _ J1 => ?_
 refine PS ?_
 refine nx J1 (sr fun _ J2 => ?_)
 refine PS ?_
 refine PS ?_
 refine TL.dec (fun h4 => ?_) (fun h4 => ?_)
 refine PS ?_
 refine PS ?_
 refine PS ?_
 refine PS ?_
 refine PS ?_
 refine nx J2 ?_
 refine TC.ret ?_
 refine TE.ret1 rfl rfl ?_
 exact ⟨congrArg Value.bool (by unfold machB; first | (rw [decide_eq_decide]; omega) | (symm; rw [decide_eq_false_iff_not]; omega) | (symm; rw [decide_eq_true_iff]; omega)), rfl⟩
 refine PS ?_
 refine UF ?_
 refine UF ?_
 refine PS ?_
 refine PS ?_
 refine nx J2 ?_
 refine TC.ret ?_
 refine TE.ret1 rfl rfl ?_
 exact ⟨congrArg Value.bool (by unfold machB; first | (rw [decide_eq_decide]; omega) | (symm; rw [decide_eq_false_iff_not]; omega) | (symm; rw [decide_eq_true_iff]; omega)), rfl⟩
theorem mirrorMachine_does (w : Int) :
    Leg.Does Tryz.prog 126 #[(.int .i64 (w))] (fun _ => True) [] (Ret (fun r' H => r' = .bool (machB w) ∧ H = [])) := by
 refine Leg.Does.body (n := 9) Tryz.func126 rfl rfl rfl (fun w0 F hF => ?_)
 refine sr fun _ J1 => ?_
 refine PS ?_
 refine nx J1 (sr fun _ J2 => ?_)
 refine PS ?_
 refine PS ?_
 refine TL.dec (fun h4 => ?_) (fun h4 => ?_)
 refine PS ?_
 refine PS ?_
 refine PS ?_
 refine PS ?_
 refine PS ?_
 refine nx J2 ?_
 refine TC.ret ?_
 refine TE.ret1 rfl rfl ?_
 exact ⟨congrArg Value.bool (by unfold machB; first | (rw [decide_eq_decide]; omega) | (symm; rw [decide_eq_false_iff_not]; omega) | (symm; rw [decide_eq_true_iff]; omega)), rfl⟩
 refine PS ?_
 refine UF ?_
 refine UF ?_
 refine PS ?_
 refine PS ?_
 refine nx J2 ?_
 refine TC.ret ?_
 refine TE.ret1 rfl rfl ?_
 exact ⟨congrArg Value.bool (by unfold machB; first | (rw [decide_eq_decide]; omega) | (symm; rw [decide_eq_false_iff_not]; omega) | (symm; rw [decide_eq_true_iff]; omega)), rfl⟩
theorem asked_does (key n : Int) :
    Leg.Does Tryz.prog 137 #[(.int .i64 (key)), (.int .i64 (n))] (fun _ => True) [] (Ret (fun r' H => r' = .bool (askB key n) ∧ H = [])) := by
 refine Leg.Does.body (n := 19) Tryz.func137 rfl rfl rfl (fun w0 F hF => ?_)
 refine sr fun _ J1 => ?_
 refine PS ?_
 refine nx J1 ?_
 clear J1
 refine sr fun _ J2 => ?_
 refine PS ?_
 refine PS ?_
 refine TL.dec (fun h6 => ?_) (fun h6 => ?_)
 refine PS ?_
 refine PS ?_
 refine PS ?_
 refine TL.dec (fun h9 => ?_) (fun h9 => ?_)
 refine PS ?_
 refine PS ?_
 refine PS ?_
 refine PS ?_
 refine TL.dec (fun h13 => ?_) (fun h13 => ?_)
 refine PS ?_
 refine PS ?_
 refine PS ?_
 refine CR nm156 (numRight_does n) (fun _ s => s) fun vR HR hR => ?_
 obtain ⟨rfl, rfl⟩ := hR
 refine PS ?_
 refine PS ?_
 refine nx J2 ?_
 clear J2
 refine TC.ret ?_
 refine WK [] ?_
 refine TE.ret1 rfl rfl ?_
 exact ⟨congrArg Value.bool (by simp [askB, keyB, *]), rfl⟩
 refine PS ?_
 refine PS ?_
 refine UF ?_
 refine UF ?_
 refine PS ?_
 refine PS ?_
 refine nx J2 ?_
 clear J2
 refine TC.ret ?_
 refine WK [] ?_
 refine TE.ret1 rfl rfl ?_
 exact ⟨congrArg Value.bool (by simp [askB, keyB, *]), rfl⟩
 refine PS ?_
 refine PS ?_
 refine UF ?_
 refine UF ?_
 refine PS ?_
 refine PS ?_
 refine UF ?_
 refine UF ?_
 refine PS ?_
 refine PS ?_
 refine nx J2 ?_
 clear J2
 refine TC.ret ?_
 refine WK [] ?_
 refine TE.ret1 rfl rfl ?_
 exact ⟨congrArg Value.bool (by simp [askB, keyB, *]), rfl⟩
 refine PS ?_
 refine UF ?_
 refine UF ?_
 refine PS ?_
 refine PS ?_
 refine UF ?_
 refine UF ?_
 refine PS ?_
 refine PS ?_
 refine UF ?_
 refine UF ?_
 refine PS ?_
 refine PS ?_
 refine nx J2 ?_
 clear J2
 refine TC.ret ?_
 refine WK [] ?_
 refine TE.ret1 rfl rfl ?_
 exact ⟨congrArg Value.bool (by simp [askB, keyB, *]), rfl⟩
theorem inc1_does (b off T : Nat) (cs : List Value) (n : Int) (h : cs[off]? = some (.int .i64 n)) :
    Leg.Does Tryz.prog 139 #[(.pointer (some ⟨b, off, none⟩))] (fun _ => True) [blkA b (cs) T] (Ret (fun r' H => r' = .tuple #[.int .i64 n, .pointer (some ⟨b, off, none⟩)] ∧ H = [blkA b cs T])) := by
 refine Leg.Does.body (n := 11) Tryz.func139 rfl rfl rfl (fun w0 F hF => ?_)
 refine sr fun _ J1 => ?_
 refine PS ?_
 refine PS ?_
 refine nx J1 ?_
 refine TC.seq fun _ J2 => ?_
 refine D1 0 mixed ?_
 refine PD 0 ?_
 refine PD 1 ?_
 refine ta 2 rfl (PV.fieldAddr (r := off) rfl Tryz.underlying60 rfl sz3 rfl rfl) ?_
 refine ta 3 rfl (PV.load1 (v := (.int .i64 (n))) rfl Tryz.underlying3 rfl rfl (fun _ h => h.2.1) h) ?_
 refine PD 4 ?_
 refine PD 5 ?_
 refine ta 6 rfl (PV.fieldAddr (r := off) rfl Tryz.underlying60 rfl sz3 rfl rfl) ?_
 refine PD 7 ?_
 refine PD 8 ?_
 refine TD.done (by kernel_rfl) ?_
 refine TE.next J2 ?_
 refine TC.ret ?_
 refine WK [0] ?_
 refine TE.ret2 rfl rfl rfl ?_
 exact ⟨rfl, rfl⟩
theorem moreInc_does (x : RowT) (key n : Int) (hk : 0 ≤ key ∧ key < 4) (hn : 1 ≤ n ∧ n ≤ 1099511627776) :
    Leg.Does Tryz.prog 138 #[(.agg (ints x.flat).toArray), (.int .i64 (key)), (.int .i64 (n)), (.func (.func 139) #[] #[])] (fun _ => True) [] (Ret (fun r' H => r' = .tuple #[.agg (ints (moreR x key n (cellAt x key).inn { cellAt x key with inn := w64 ((cellAt x key).inn + n) }).1.flat).toArray, .int .i64 (moreR x key n (cellAt x key).inn { cellAt x key with inn := w64 ((cellAt x key).inn + n) }).2] ∧ H = [])) := by
 refine Leg.Does.body (vs := [(.agg (ints x.flat).toArray), (.int .i64 (key)), (.int .i64 (n)), (.func (.func 139) #[] #[])]) (n := 36) Tryz.func138 rfl rfl rfl (fun w0 F hF => ?_)
 have hkb : keyB key = true := decide_eq_true hk
 have hcell : cellAt x key = x.cells[key.toNat]'(by omega) := by rw [cellAt, dif_pos hkb]
 refine sr fun _ J1 => ?_
 refine TL.box (Want.plain rfl) rfl rfl rfl rfl (fun b4 => ?_)
 change TL _ _ _ _ _ _ _ _ _ [blkA b4 (ints x.flat) 64]
 refine TL.alloc (Want.plain rfl) rfl rfl rfl z64 (fun b8 => ?_)
 change TL _ _ _ _ _ _ _ _ _ [blkA b8 (ints RowT.zero.flat) 64, blkA b4 (ints x.flat) 64]
 refine sg' ?_
 refine nx J1 ?_
 refine sr fun _ J2 => ?_
 refine mv ?_
 refine mv ?_
 refine tp (PV.fieldAddr (r := 1) rfl Tryz.underlying64 rfl sz61 rfl rfl) ?_
 refine tp (PV.indexArr (r := 1 + key.toNat * 7) rfl Tryz.underlying61 sz60 rfl rfl (by omega) (by omega) (by omega)) ?_
 refine TL.callRv (Want.plain rfl) rfl rfl rfl rfl nm139 rfl (inc1_does b4 (1 + key.toNat * 7) 64 (ints x.flat) x.cells[key.toNat].inn (RowT.pt_cells x (key.toNat * 7) (by omega) (by omega) (vs_pt CellT.flat_length x.cells (i := key.toNat) 0 (by omega) (by omega) (by decide) (CellT.at_inn (x.cells[key.toNat]'(by omega)) rfl)))) (fun _ s => sep_selR [1] rfl s) (fun _ _ _ => trivial) (fun vR HR hR => ?_)
 obtain ⟨rfl, rfl⟩ := hR
 refine mv ?_
 refine tp (PV.extract (vs := [(.int .i64 ((x.cells[key.toNat]'(by omega)).inn)), (.pointer (some ⟨b4, 1 + key.toNat * 7, none⟩))]) rfl rfl rfl) ?_
 refine tp (PV.extract (vs := [(.int .i64 ((x.cells[key.toNat]'(by omega)).inn)), (.pointer (some ⟨b4, 1 + key.toNat * 7, none⟩))]) rfl rfl rfl) ?_
 refine sg' ?_
 refine sg' ?_
 refine nx J2 ?_
 refine TC.seq fun _ J3 => ?_
 refine sr fun _ J4 => ?_
 refine mv ?_
 refine mv ?_
 refine tp (PV.sub (r := (1099511627776 - n)) rfl rfl rfl (wrap_i64 (by omega) (by omega))) ?_
 refine tp (PV.gtr rfl rfl rfl) ?_
 refine TL.dec (fun h23 => ?_) (fun h23 => ?_)
 refine nx J4 ?_
 refine TC.yes rfl ?_
 refine sr fun _ J5 => ?_
 refine tp (PV.build (cells := (ints RowT.zero.flat).toArray) rfl rfl (by as_aux_lemma => kernel_rfl)) ?_
 refine TL.store (vs := ints RowT.zero.flat) (i := 1) (Want.plain rfl) rfl rfl rfl rfl rfl (by rw [(RowT.len RowT.zero)]; exact sz64) (ints_one _) rfl rfl (by have h0 := (RowT.len RowT.zero); have h1 := (RowT.len RowT.zero); omega) (wwhole ((RowT.len RowT.zero).trans (RowT.len RowT.zero).symm)) rfl ?_
 refine sg' ?_
 refine nx J5 ?_
 refine TC.ret ?_
 refine TE.passRet ?_
 refine TE.retCT (H' := []) rfl rfl rfl Tryz.underlying64 rfl sz64 (Rd.own 1 rfl rfl) (RowT.len RowT.zero) (fun _ s => sep_keep [] rfl s) ?_
 exact ⟨by rw [moreR, hcell, if_pos h23], rfl⟩
 refine nx J4 ?_
 refine TC.no rfl ?_
 refine TC.skip ?_
 refine TE.next J3 ?_
 refine sr fun _ J6 => ?_
 refine mv ?_
 refine tp (PV.nilCheck rfl rfl) ?_
 refine tp (PV.load1 (v := (.int .i64 ((x.cells[key.toNat]'(by omega)).inn))) rfl Tryz.underlying3 rfl rfl (Rd.own 0 rfl rfl) (RowT.pt_cells x (key.toNat * 7) (by omega) (by omega) (vs_pt CellT.flat_length x.cells (i := key.toNat) 0 (by omega) (by omega) (by decide) (CellT.at_inn (x.cells[key.toNat]'(by omega)) rfl)))) ?_
 refine mv ?_
 refine tp (PV.add (r := (w64 (((x.cells[key.toNat]'(by omega)).inn) + n))) rfl rfl rfl rfl) ?_
 refine tp (PV.nilCheck rfl rfl) ?_
 refine TL.store1 (i := 0) (Want.plain rfl) rfl rfl rfl rfl rfl sz3 rfl rfl (by have h0 := (RowT.len x); omega) (RowT.st_cells x (key.toNat * 7) (by omega) (by omega) (vs_st CellT.flat_length x.cells (i := key.toNat) 0 (by omega) (by omega) (by decide) (CellT.set_inn (x.cells[key.toNat]'(by omega)) rfl _))) rfl ?_
 refine nx J6 ?_
 refine sr fun _ J7 => ?_
 refine tp (PV.fieldAddr (r := 0) rfl Tryz.underlying64 rfl sz3 rfl rfl) ?_
 refine tp (PV.load1 (v := (.int .i64 (x.version))) rfl Tryz.underlying3 rfl rfl (Rd.own 0 rfl rfl) (RowT.at_version (RowT.mk x.version (x.cells.set key.toNat (CellT.mk (w64 (((x.cells[key.toNat]'(by omega)).inn) + n)) ((x.cells[key.toNat]'(by omega)).out) ((x.cells[key.toNat]'(by omega)).given)) (by omega)) x.heir x.left) rfl)) ?_
 refine tp (PV.add (r := (w64 (x.version + 1))) rfl rfl rfl rfl) ?_
 refine tp (PV.fieldAddr (r := 0) rfl Tryz.underlying64 rfl sz3 rfl rfl) ?_
 refine TL.store1 (i := 0) (Want.plain rfl) rfl rfl rfl rfl rfl sz3 rfl rfl (by have h0 := (RowT.len (RowT.mk x.version (x.cells.set key.toNat (CellT.mk (w64 (((x.cells[key.toNat]'(by omega)).inn) + n)) ((x.cells[key.toNat]'(by omega)).out) ((x.cells[key.toNat]'(by omega)).given)) (by omega)) x.heir x.left)); omega) (RowT.set_version (RowT.mk x.version (x.cells.set key.toNat (CellT.mk (w64 (((x.cells[key.toNat]'(by omega)).inn) + n)) ((x.cells[key.toNat]'(by omega)).out) ((x.cells[key.toNat]'(by omega)).given)) (by omega)) x.heir x.left) rfl _) rfl ?_
 refine nx J7 ?_
 refine sr fun _ J8 => ?_
 refine tp (PV.loadN (vs := ints (RowT.mk (w64 (x.version + 1)) (x.cells.set key.toNat (CellT.mk (w64 (((x.cells[key.toNat]'(by omega)).inn) + n)) ((x.cells[key.toNat]'(by omega)).out) ((x.cells[key.toNat]'(by omega)).given)) (by omega)) x.heir x.left).flat) rfl Tryz.underlying64 rfl sz64 rfl (Rd.own 0 rfl rfl) (RowT.len (RowT.mk (w64 (x.version + 1)) (x.cells.set key.toNat (CellT.mk (w64 (((x.cells[key.toNat]'(by omega)).inn) + n)) ((x.cells[key.toNat]'(by omega)).out) ((x.cells[key.toNat]'(by omega)).given)) (by omega)) x.heir x.left)) (whole (RowT.len (RowT.mk (w64 (x.version + 1)) (x.cells.set key.toNat (CellT.mk (w64 (((x.cells[key.toNat]'(by omega)).inn) + n)) ((x.cells[key.toNat]'(by omega)).out) ((x.cells[key.toNat]'(by omega)).given)) (by omega)) x.heir x.left)))) ?_
 refine TL.store (vs := ints (RowT.mk (w64 (x.version + 1)) (x.cells.set key.toNat (CellT.mk (w64 (((x.cells[key.toNat]'(by omega)).inn) + n)) ((x.cells[key.toNat]'(by omega)).out) ((x.cells[key.toNat]'(by omega)).given)) (by omega)) x.heir x.left).flat) (i := 1) (Want.plain rfl) rfl rfl rfl rfl rfl (by rw [(RowT.len (RowT.mk (w64 (x.version + 1)) (x.cells.set key.toNat (CellT.mk (w64 (((x.cells[key.toNat]'(by omega)).inn) + n)) ((x.cells[key.toNat]'(by omega)).out) ((x.cells[key.toNat]'(by omega)).given)) (by omega)) x.heir x.left))]; exact sz64) (ints_one _) rfl rfl (by have h0 := (RowT.len RowT.zero); have h1 := (RowT.len (RowT.mk (w64 (x.version + 1)) (x.cells.set key.toNat (CellT.mk (w64 (((x.cells[key.toNat]'(by omega)).inn) + n)) ((x.cells[key.toNat]'(by omega)).out) ((x.cells[key.toNat]'(by omega)).given)) (by omega)) x.heir x.left)); omega) (wwhole ((RowT.len RowT.zero).trans (RowT.len (RowT.mk (w64 (x.version + 1)) (x.cells.set key.toNat (CellT.mk (w64 (((x.cells[key.toNat]'(by omega)).inn) + n)) ((x.cells[key.toNat]'(by omega)).out) ((x.cells[key.toNat]'(by omega)).given)) (by omega)) x.heir x.left)).symm)) rfl ?_
 refine sg' ?_
 refine nx J8 ?_
 refine TC.ret ?_
 refine TE.retCT (H' := []) rfl rfl rfl Tryz.underlying64 rfl sz64 (Rd.own 1 rfl rfl) (RowT.len (RowT.mk (w64 (x.version + 1)) (x.cells.set key.toNat (CellT.mk (w64 (((x.cells[key.toNat]'(by omega)).inn) + n)) ((x.cells[key.toNat]'(by omega)).out) ((x.cells[key.toNat]'(by omega)).given)) (by omega)) x.heir x.left)) (fun _ s => sep_keep [] rfl s) ?_
 refine ⟨?_, rfl⟩
 rw [moreR, hcell, if_neg h23, putCell, dif_pos hkb]
theorem rowInc_does (x : RowT) (key n : Int) :
    Leg.Does Tryz.prog 100 #[(.agg (ints x.flat).toArray), (.int .i64 (key)), (.int .i64 (n))] (fun _ => True) [] (Ret (fun r' H => r' = .tuple #[.agg (ints (rowInc x key n).1.flat).toArray, .int .i64 (rowInc x key n).2] ∧ H = [])) := by
 refine Leg.Does.body (n := 19) Tryz.func100 rfl rfl rfl (fun w0 F hF => ?_)
 refine sr fun _ J1 => ?_
 refine TL.box (Want.plain rfl) rfl rfl rfl rfl (fun b3 => ?_)
 change TL _ _ _ _ _ _ _ _ _ [blkA b3 (ints x.flat) 64]
 refine TL.alloc (Want.plain rfl) rfl rfl rfl z64 (fun b6 => ?_)
 change TL _ _ _ _ _ _ _ _ _ [blkA b6 (ints RowT.zero.flat) 64, blkA b3 (ints x.flat) 64]
 refine PS ?_
 refine nx J1 ?_
 clear J1
 refine TC.seq fun _ J2 => ?_
 refine sr fun _ J3 => ?_
 refine PS ?_
 refine PS ?_
 refine CR nm137 (asked_does key n) (fun _ s => s) fun vR HR hR => ?_
 obtain ⟨rfl, rfl⟩ := hR
 refine TL.decB (fun h10 => ?_) (fun h10 => ?_)
 have hq := h10
 unfold askB keyB okN at hq
 simp only [Bool.and_eq_true, decide_eq_true_iff] at hq
 have hk : 0 ≤ key ∧ key < 4 := hq.1.1
 have hn : 1 ≤ n ∧ n ≤ 1099511627776 := ⟨hq.1.2, hq.2.2⟩
 refine tp (PV.not (r := false) rfl rfl rfl) ?_
 refine nx J3 ?_
 clear J3
 refine CN ?_
 refine CX J2 ?_
 clear J2
 refine sr fun _ J4 => ?_
 refine tp (PV.loadN (vs := ints x.flat) rfl Tryz.underlying64 rfl sz64 rfl (RO 1) (RowT.len x) (whole (RowT.len x))) ?_
 refine PS ?_
 refine PS ?_
 refine CR nm138 (moreInc_does x key n hk hn) (fun _ s => s) fun vR HR hR => ?_
 obtain ⟨rfl, rfl⟩ := hR
 refine tp (PV.extract (vs := [(.agg (ints ((moreR x key n (cellAt x key).inn { cellAt x key with inn := w64 ((cellAt x key).inn + n) }).1).flat).toArray), (.int .i64 ((moreR x key n (cellAt x key).inn { cellAt x key with inn := w64 ((cellAt x key).inn + n) }).2))]) rfl rfl rfl) ?_
 refine tp (PV.extract (vs := [(.agg (ints ((moreR x key n (cellAt x key).inn { cellAt x key with inn := w64 ((cellAt x key).inn + n) }).1).flat).toArray), (.int .i64 ((moreR x key n (cellAt x key).inn { cellAt x key with inn := w64 ((cellAt x key).inn + n) }).2))]) rfl rfl rfl) ?_
 refine TL.store (vs := ints ((moreR x key n (cellAt x key).inn { cellAt x key with inn := w64 ((cellAt x key).inn + n) }).1).flat) (i := 0) (Want.plain rfl) rfl rfl rfl rfl rfl (by rw [(RowT.len ((moreR x key n (cellAt x key).inn { cellAt x key with inn := w64 ((cellAt x key).inn + n) }).1))]; exact sz64) (ints_one _) rfl rfl (by have h0 := (RowT.len RowT.zero); have h1 := (RowT.len ((moreR x key n (cellAt x key).inn { cellAt x key with inn := w64 ((cellAt x key).inn + n) }).1)); omega) (wwhole ((RowT.len RowT.zero).trans (RowT.len ((moreR x key n (cellAt x key).inn { cellAt x key with inn := w64 ((cellAt x key).inn + n) }).1)).symm)) rfl ?_
 refine PS ?_
 refine nx J4 ?_
 clear J4
 refine TC.ret ?_
 refine TE.retCT (H' := []) rfl rfl rfl Tryz.underlying64 rfl sz64 (RO 0) (RowT.len ((moreR x key n (cellAt x key).inn { cellAt x key with inn := w64 ((cellAt x key).inn + n) }).1)) (fun _ s => sep_keep [] rfl s) ?_
 exact ⟨by simp [rowInc, *], rfl⟩
 refine tp (PV.not (r := true) rfl rfl rfl) ?_
 refine nx J3 ?_
 clear J3
 refine CY ?_
 refine sr fun _ J5 => ?_
 refine tp (PV.build (cells := (ints RowT.zero.flat).toArray) rfl rfl (by as_aux_lemma => kernel_rfl)) ?_
 refine TL.store (vs := ints RowT.zero.flat) (i := 0) (Want.plain rfl) rfl rfl rfl rfl rfl (by rw [(RowT.len RowT.zero)]; exact sz64) (ints_one _) rfl rfl (by have h0 := (RowT.len RowT.zero); have h1 := (RowT.len RowT.zero); omega) (wwhole ((RowT.len RowT.zero).trans (RowT.len RowT.zero).symm)) rfl ?_
 refine PS ?_
 refine nx J5 ?_
 clear J5
 refine TC.ret ?_
 refine TE.passRet ?_
 clear J2
 refine TE.retCT (H' := []) rfl rfl rfl Tryz.underlying64 rfl sz64 (RO 0) (RowT.len RowT.zero) (fun _ s => sep_keep [] rfl s) ?_
 exact ⟨by simp [rowInc, *], rfl⟩
theorem rowCell_does (x : RowT) (who of' key : Int) :
    Leg.Does Tryz.prog 125 #[(.agg (ints x.flat).toArray), (.int .i64 (who)), (.int .i64 (of')), (.int .i64 (key))] (fun _ => True) [] (Ret (fun r' H => r' = .tuple #[.agg (ints (rowCell x who of' key).1.flat).toArray, .int .i64 (rowCell x who of' key).2] ∧ H = [])) := by
 refine Leg.Does.body (vs := [(.agg (ints x.flat).toArray), (.int .i64 (who)), (.int .i64 (of')), (.int .i64 (key))]) (n := 53) Tryz.func125 rfl rfl rfl (fun w0 F hF => ?_)
 refine sr fun _ J1 => ?_
 refine TL.box (Want.plain rfl) rfl rfl rfl rfl (fun b4 => ?_)
 change TL _ _ _ _ _ _ _ _ _ [blkA b4 (ints x.flat) 64]
 refine TL.alloc (Want.plain rfl) rfl rfl rfl z60 (fun b8 => ?_)
 change TL _ _ _ _ _ _ _ _ _ [blkA b8 (ints CellT.zero.flat) 60, blkA b4 (ints x.flat) 64]
 refine sg' ?_
 refine nx J1 ?_
 clear J1
 refine TC.seq fun _ J2 => ?_
 refine sr fun _ J3 => ?_
 refine mv ?_
 refine TL.callR (Want.plain rfl) rfl rfl rfl nm141 rfl (rowMachine_does who) (fun _ s => s) (fun _ _ _ => trivial) (fun vR HR hR => ?_)
 obtain ⟨rfl, rfl⟩ := hR
 refine TL.decB (fun h11 => ?_) (fun h11 => ?_)
 refine tp (PV.not (r := false) rfl rfl rfl) ?_
 refine mv ?_
 refine tq (PV.move rfl rfl) ?_
 refine TL.callR (Want.met rfl rfl rfl) rfl rfl rfl nm141 rfl (rowMachine_does of') (fun _ s => s) (fun _ _ _ => trivial) (fun vR HR hR => ?_)
 obtain ⟨rfl, rfl⟩ := hR
 refine TL.decB (fun h15 => ?_) (fun h15 => ?_)
 refine tq (PV.not (r := false) rfl rfl rfl) ?_
 refine tp (PV.pick rfl rfl rfl) ?_
 refine mv ?_
 refine tq (PV.move rfl rfl) ?_
 refine tq (PV.lss rfl rfl rfl) ?_
 refine TL.dec (fun h20 => ?_) (fun h20 => ?_)
 have hkb : keyB key = false := decide_eq_false (by omega)
 refine tp (PV.pick rfl rfl rfl) ?_
 refine mv ?_
 refine TL.unmet (b := true) rfl rfl rfl rfl (lb rfl) ?_
 refine TL.unmet (b := true) rfl rfl rfl rfl (lb rfl) ?_
 refine tp (PV.pick rfl rfl rfl) ?_
 refine nx J3 ?_
 clear J3
 refine TC.yes rfl ?_
 refine sr fun _ J4 => ?_
 refine tp (PV.build (cells := (ints CellT.zero.flat).toArray) rfl rfl (by as_aux_lemma => kernel_rfl)) ?_
 refine TL.store (vs := ints CellT.zero.flat) (i := 0) (Want.plain rfl) rfl rfl rfl rfl rfl (by rw [(CellT.len CellT.zero)]; exact sz60) (ints_one _) rfl rfl (by have h0 := (CellT.len CellT.zero); have h1 := (CellT.len CellT.zero); omega) (wwhole ((CellT.len CellT.zero).trans (CellT.len CellT.zero).symm)) rfl ?_
 refine sg' ?_
 refine nx J4 ?_
 clear J4
 refine TC.ret ?_
 refine TE.passRet ?_
 clear J2
 refine TE.retCT (H' := []) rfl rfl rfl Tryz.underlying60 rfl sz60 (Rd.own 0 rfl rfl) (CellT.len CellT.zero) (fun _ s => sep_keep [] rfl s) ?_
 exact ⟨by simp [rowCell, *], rfl⟩
 refine tp (PV.pick rfl rfl rfl) ?_
 refine mv ?_
 refine tq (PV.move rfl rfl) ?_
 refine tq (PV.geq rfl rfl rfl) ?_
 refine TL.dec (fun h24 => ?_) (fun h24 => ?_)
 have hkb : keyB key = false := decide_eq_false (by omega)
 refine tp (PV.pick rfl rfl rfl) ?_
 refine nx J3 ?_
 clear J3
 refine TC.yes rfl ?_
 refine sr fun _ J5 => ?_
 refine tp (PV.build (cells := (ints CellT.zero.flat).toArray) rfl rfl (by as_aux_lemma => kernel_rfl)) ?_
 refine TL.store (vs := ints CellT.zero.flat) (i := 0) (Want.plain rfl) rfl rfl rfl rfl rfl (by rw [(CellT.len CellT.zero)]; exact sz60) (ints_one _) rfl rfl (by have h0 := (CellT.len CellT.zero); have h1 := (CellT.len CellT.zero); omega) (wwhole ((CellT.len CellT.zero).trans (CellT.len CellT.zero).symm)) rfl ?_
 refine sg' ?_
 refine nx J5 ?_
 clear J5
 refine TC.ret ?_
 refine TE.passRet ?_
 clear J2
 refine TE.retCT (H' := []) rfl rfl rfl Tryz.underlying60 rfl sz60 (Rd.own 0 rfl rfl) (CellT.len CellT.zero) (fun _ s => sep_keep [] rfl s) ?_
 exact ⟨by simp [rowCell, *], rfl⟩
 have hw : machB who = true := by simpa using h11
 have ho : machB of' = true := by simpa using h15
 have hw2 : 0 ≤ who ∧ who < 5 := of_decide_eq_true hw
 have ho2 : 0 ≤ of' ∧ of' < 5 := of_decide_eq_true ho
 have hkb : keyB key = true := decide_eq_true ⟨by omega, by omega⟩
 have e1 : heirAt x of' = x.heir[of'.toNat]'(by omega) := by rw [heirAt, dif_pos ho]
 have e2 : leftAt x of' key = (x.left[of'.toNat]'(by omega))[key.toNat]'(by omega) := by rw [leftAt, dif_pos ⟨ho, hkb⟩]
 have e3 : cellAt x key = x.cells[key.toNat]'(by omega) := by rw [cellAt, dif_pos hkb]
 refine tp (PV.pick rfl rfl rfl) ?_
 refine nx J3 ?_
 clear J3
 refine TC.no rfl ?_
 refine TC.skip ?_
 refine TE.next J2 ?_
 clear J2
 refine TC.seq fun _ J6 => ?_
 refine sr fun _ J7 => ?_
 refine mv ?_
 refine mv ?_
 refine tp (PV.eql rfl rfl rfl) ?_
 refine TL.dec (fun h29 => ?_) (fun h29 => ?_)
 refine nx J7 ?_
 clear J7
 refine TC.yes rfl ?_
 refine TC.seq fun _ J8 => ?_
 refine TC.draw (fun w => Frm F w ∧ w.heap[b4]? = some (.cells (ints x.flat).toArray 64 (0, 0)) ∧ True) mixed rfl (fun _ s => ⟨Frm.of s, s.block 1 (lb rfl) rfl, trivial⟩) ?_
 refine ta 0 rfl (PV.move rfl rfl) ?_
 refine ta 1 rfl (PV.fieldAddr (r := 1) rfl Tryz.underlying64 rfl sz61 rfl rfl) ?_
 refine ta 2 rfl (PV.indexArr (r := 1 + key.toNat * 7) rfl Tryz.underlying61 sz60 rfl rfl (by omega) (by omega) (by omega)) ?_
 refine ta 3 rfl (PV.loadN (vs := ints (x.cells[key.toNat]'(by omega)).flat) rfl Tryz.underlying60 rfl sz60 rfl (fun _ h => h.2.1) (CellT.len (x.cells[key.toNat]'(by omega))) (RowT.sub_cells x (key.toNat * 7) (by omega) (by omega) (vs_sub CellT.flat_length x.cells (i := key.toNat) 0 (by omega) (by omega) (by decide) (whole (CellT.len (x.cells[key.toNat]'(by omega))))))) ?_
 refine ta 4 rfl (PV.fieldAddr (r := 0) rfl Tryz.underlying64 rfl sz3 rfl rfl) ?_
 refine ta 5 rfl (PV.load1 (v := (.int .i64 (x.version))) rfl Tryz.underlying3 rfl rfl (fun _ h => h.2.1) (RowT.at_version x rfl)) ?_
 refine TD.all [6] (by kernel_rfl) rfl ?_
 refine AllT.cons rfl ?_ ?_
 refine TL.store (vs := ints (x.cells[key.toNat]'(by omega)).flat) (i := 0) (Want.plain rfl) rfl rfl rfl rfl rfl (by rw [(CellT.len (x.cells[key.toNat]'(by omega)))]; exact sz60) (ints_one _) rfl rfl (by have h0 := (CellT.len CellT.zero); have h1 := (CellT.len (x.cells[key.toNat]'(by omega))); omega) (wwhole ((CellT.len CellT.zero).trans (CellT.len (x.cells[key.toNat]'(by omega))).symm)) rfl ?_
 refine TL.nil ?_
 refine TE.draw (fun _ s => ⟨Frm.of s, s.block 1 (lb rfl) rfl, trivial⟩) ?_
 refine ta 7 rfl (PV.assign rfl rfl) ?_
 refine TD.done (by kernel_rfl) ?_
 refine TE.next J8 ?_
 clear J8
 refine TC.ret ?_
 refine TE.passRet ?_
 clear J6
 refine TE.retCT (H' := []) rfl rfl rfl Tryz.underlying60 rfl sz60 (Rd.own 0 rfl rfl) (CellT.len (x.cells[key.toNat]'(by omega))) (fun _ s => sep_keep [] rfl s) ?_
 exact ⟨by simp [rowCell, *], rfl⟩
 exact AllT.nil
 refine nx J7 ?_
 clear J7
 refine TC.no rfl ?_
 refine TC.skip ?_
 refine TE.next J6 ?_
 clear J6
 refine TC.seq fun _ J9 => ?_
 refine sr fun _ J10 => ?_
 refine mv ?_
 refine tp (PV.fieldAddr (r := 29) rfl Tryz.underlying64 rfl sz42 rfl rfl) ?_
 refine tp (PV.indexArr (r := 29 + (of').toNat) rfl Tryz.underlying42 sz3 rfl rfl (by omega) (by omega) (by omega)) ?_
 refine tp (PV.load1 (v := (.int .i64 ((x.heir[(of').toNat]'(by omega))))) rfl Tryz.underlying3 rfl rfl (Rd.own 1 rfl rfl) (RowT.pt_heir x ((of').toNat) (by omega) (by omega) (vi_at x.heir (by omega)))) ?_
 refine tp (PV.gtr rfl rfl rfl) ?_
 refine TL.dec (fun h40 => ?_) (fun h40 => ?_)
 refine nx J10 ?_
 clear J10
 refine TC.yes rfl ?_
 refine TC.seq fun _ J11 => ?_
 refine TC.draw (fun w => Frm F w ∧ w.heap[b4]? = some (.cells (ints x.flat).toArray 64 (0, 0)) ∧ True) mixed rfl (fun _ s => ⟨Frm.of s, s.block 1 (lb rfl) rfl, trivial⟩) ?_
 refine ta 0 rfl (PV.move rfl rfl) ?_
 refine ta 1 rfl (PV.move rfl rfl) ?_
 refine ta 2 rfl (PV.fieldAddr (r := 34) rfl Tryz.underlying64 rfl sz62 rfl rfl) ?_
 refine ta 3 rfl (PV.indexArr (r := 34 + ((of').toNat) * 28) rfl Tryz.underlying62 sz61 rfl rfl (by omega) (by omega) (by omega)) ?_
 refine ta 4 rfl (PV.indexArr (r := 34 + ((of').toNat) * 28 + key.toNat * 7) rfl Tryz.underlying61 sz60 rfl rfl (by omega) (by omega) (by omega)) ?_
 refine ta 5 rfl (PV.loadN (vs := ints ((x.left[(of').toNat]'(by omega))[key.toNat]'(by omega)).flat) rfl Tryz.underlying60 rfl sz60 rfl (fun _ h => h.2.1) (CellT.len ((x.left[(of').toNat]'(by omega))[key.toNat]'(by omega))) (RowT.sub_left x (((of').toNat) * 28 + key.toNat * 7) (by omega) (by omega) (vs_sub vl_len x.left (i := (of').toNat) (key.toNat * 7) (by omega) (by omega) (by omega) (vs_sub CellT.flat_length (x.left[(of').toNat]'(by omega)) (i := key.toNat) 0 (by omega) (by omega) (by decide) (whole (CellT.len ((x.left[(of').toNat]'(by omega))[key.toNat]'(by omega)))))))) ?_
 refine ta 6 rfl (PV.move rfl rfl) ?_
 refine ta 7 rfl (PV.fieldAddr (r := 29) rfl Tryz.underlying64 rfl sz42 rfl rfl) ?_
 refine ta 8 rfl (PV.indexArr (r := 29 + (of').toNat) rfl Tryz.underlying42 sz3 rfl rfl (by omega) (by omega) (by omega)) ?_
 refine ta 9 rfl (PV.load1 (v := (.int .i64 ((x.heir[(of').toNat]'(by omega))))) rfl Tryz.underlying3 rfl rfl (fun _ h => h.2.1) (RowT.pt_heir x ((of').toNat) (by omega) (by omega) (vi_at x.heir (by omega)))) ?_
 refine ta 10 rfl (PV.sub (r := (w64 ((x.heir[(of').toNat]'(by omega)) - 1))) rfl rfl rfl rfl) ?_
 refine TD.all [11] (by kernel_rfl) rfl ?_
 refine AllT.cons rfl ?_ ?_
 refine TL.store (vs := ints ((x.left[(of').toNat]'(by omega))[key.toNat]'(by omega)).flat) (i := 0) (Want.plain rfl) rfl rfl rfl rfl rfl (by rw [(CellT.len ((x.left[(of').toNat]'(by omega))[key.toNat]'(by omega)))]; exact sz60) (ints_one _) rfl rfl (by have h0 := (CellT.len CellT.zero); have h1 := (CellT.len ((x.left[(of').toNat]'(by omega))[key.toNat]'(by omega))); omega) (wwhole ((CellT.len CellT.zero).trans (CellT.len ((x.left[(of').toNat]'(by omega))[key.toNat]'(by omega))).symm)) rfl ?_
 refine TL.nil ?_
 refine TE.draw (fun _ s => ⟨Frm.of s, s.block 1 (lb rfl) rfl, trivial⟩) ?_
 refine ta 12 rfl (PV.assign rfl rfl) ?_
 refine TD.done (by kernel_rfl) ?_
 refine TE.next J11 ?_
 clear J11
 refine TC.ret ?_
 refine TE.passRet ?_
 clear J9
 refine TE.retCT (H' := []) rfl rfl rfl Tryz.underlying60 rfl sz60 (Rd.own 0 rfl rfl) (CellT.len ((x.left[(of').toNat]'(by omega))[key.toNat]'(by omega))) (fun _ s => sep_keep [] rfl s) ?_
 exact ⟨by simp [rowCell, *], rfl⟩
 exact AllT.nil
 refine nx J10 ?_
 clear J10
 refine TC.no rfl ?_
 refine TC.skip ?_
 refine TE.next J9 ?_
 clear J9
 refine sr fun _ J12 => ?_
 refine tp (PV.build (cells := (ints CellT.zero.flat).toArray) rfl rfl (by as_aux_lemma => kernel_rfl)) ?_
 refine TL.store (vs := ints CellT.zero.flat) (i := 0) (Want.plain rfl) rfl rfl rfl rfl rfl (by rw [(CellT.len CellT.zero)]; exact sz60) (ints_one _) rfl rfl (by have h0 := (CellT.len CellT.zero); have h1 := (CellT.len CellT.zero); omega) (wwhole ((CellT.len CellT.zero).trans (CellT.len CellT.zero).symm)) rfl ?_
 refine sg' ?_
 refine nx J12 ?_
 clear J12
 refine TC.ret ?_
 refine TE.retCT (H' := []) rfl rfl rfl Tryz.underlying60 rfl sz60 (Rd.own 0 rfl rfl) (CellT.len CellT.zero) (fun _ s => sep_keep [] rfl s) ?_
 exact ⟨by simp [rowCell, *], rfl⟩
 refine tq (PV.not (r := true) rfl rfl rfl) ?_
 refine tp (PV.pick rfl rfl rfl) ?_
 refine mv ?_
 refine TL.unmet (b := true) rfl rfl rfl rfl (lb rfl) ?_
 refine TL.unmet (b := true) rfl rfl rfl rfl (lb rfl) ?_
 refine tp (PV.pick rfl rfl rfl) ?_
 refine mv ?_
 refine TL.unmet (b := true) rfl rfl rfl rfl (lb rfl) ?_
 refine TL.unmet (b := true) rfl rfl rfl rfl (lb rfl) ?_
 refine tp (PV.pick rfl rfl rfl) ?_
 refine nx J3 ?_
 clear J3
 refine TC.yes rfl ?_
 refine sr fun _ J13 => ?_
 refine tp (PV.build (cells := (ints CellT.zero.flat).toArray) rfl rfl (by as_aux_lemma => kernel_rfl)) ?_
 refine TL.store (vs := ints CellT.zero.flat) (i := 0) (Want.plain rfl) rfl rfl rfl rfl rfl (by rw [(CellT.len CellT.zero)]; exact sz60) (ints_one _) rfl rfl (by have h0 := (CellT.len CellT.zero); have h1 := (CellT.len CellT.zero); omega) (wwhole ((CellT.len CellT.zero).trans (CellT.len CellT.zero).symm)) rfl ?_
 refine sg' ?_
 refine nx J13 ?_
 clear J13
 refine TC.ret ?_
 refine TE.passRet ?_
 clear J2
 refine TE.retCT (H' := []) rfl rfl rfl Tryz.underlying60 rfl sz60 (Rd.own 0 rfl rfl) (CellT.len CellT.zero) (fun _ s => sep_keep [] rfl s) ?_
 exact ⟨by simp [rowCell, *], rfl⟩
 refine tp (PV.not (r := true) rfl rfl rfl) ?_
 refine mv ?_
 refine TL.unmet (b := true) rfl rfl rfl rfl (lb rfl) ?_
 refine TL.unmet (b := true) rfl rfl rfl rfl (lb rfl) ?_
 refine TL.unmet (b := true) rfl rfl rfl rfl (lb rfl) ?_
 refine tp (PV.pick rfl rfl rfl) ?_
 refine mv ?_
 refine TL.unmet (b := true) rfl rfl rfl rfl (lb rfl) ?_
 refine TL.unmet (b := true) rfl rfl rfl rfl (lb rfl) ?_
 refine tp (PV.pick rfl rfl rfl) ?_
 refine mv ?_
 refine TL.unmet (b := true) rfl rfl rfl rfl (lb rfl) ?_
 refine TL.unmet (b := true) rfl rfl rfl rfl (lb rfl) ?_
 refine tp (PV.pick rfl rfl rfl) ?_
 refine nx J3 ?_
 clear J3
 refine TC.yes rfl ?_
 refine sr fun _ J14 => ?_
 refine tp (PV.build (cells := (ints CellT.zero.flat).toArray) rfl rfl (by as_aux_lemma => kernel_rfl)) ?_
 refine TL.store (vs := ints CellT.zero.flat) (i := 0) (Want.plain rfl) rfl rfl rfl rfl rfl (by rw [(CellT.len CellT.zero)]; exact sz60) (ints_one _) rfl rfl (by have h0 := (CellT.len CellT.zero); have h1 := (CellT.len CellT.zero); omega) (wwhole ((CellT.len CellT.zero).trans (CellT.len CellT.zero).symm)) rfl ?_
 refine sg' ?_
 refine nx J14 ?_
 clear J14
 refine TC.ret ?_
 refine TE.passRet ?_
 clear J2
 refine TE.retCT (H' := []) rfl rfl rfl Tryz.underlying60 rfl sz60 (Rd.own 0 rfl rfl) (CellT.len CellT.zero) (fun _ s => sep_keep [] rfl s) ?_
 exact ⟨by simp [rowCell, *], rfl⟩
theorem witnesses_does (who : Int) :
    Leg.Does Tryz.prog 21 #[(.int .i64 (who))] (fun _ => True) [] (Ret (fun r' H => ∃ u, r' = u ∧ H = [own u (witL who).length (ints (witL who)) 3 1])) := by
 refine Leg.Does.body (n := 20) Tryz.func21 rfl rfl rfl (fun w0 F hF => ?_)
 refine sr fun _ J1 => ?_
 refine PS ?_
 refine nx J1 ?_
 refine TC.seq fun _ J2 => ?_
 refine sr fun _ J3 => ?_
 refine PS ?_
 refine CR nm48 (vmachine_does who) (fun _ s => s) fun vR HR hR => ?_
 obtain ⟨rfl, rfl⟩ := hR
 refine TL.decB (fun h6 => ?_) (fun h6 => ?_)
 have hm : 0 ≤ who ∧ who < 5 := of_decide_eq_true h6
 refine tp (PV.not (r := false) rfl rfl rfl) ?_
 refine nx J3 ?_
 refine CN ?_
 refine CX J2 ?_
 refine sr fun _ J4 => ?_
 refine TL.ownNilI 3 1 (fun on => ?_)
 clear on
 refine PS ?_
 refine nx J4 ?_
 refine TC.seq fun _ J5 => ?_
 refine sr fun _ J6 => ?_
 refine PS ?_
 refine nx J6 ?_
 refine TC.block ?_
 refine TC.unroll 3 ?_
 refine TC.seq fun _ J7 => ?_
 refine sr fun _ J8 => ?_
 refine PS ?_
 refine PS ?_
 refine nx J8 ?_
 refine CY ?_
 refine CX J7 ?_
 refine TC.seq fun _ J9 => ?_
 refine TC.block ?_
 refine TC.region ?_
 refine PS ?_
 refine PS ?_
 refine PS ?_
 refine tp (PV.add (r := (who + 1)) rfl rfl rfl (wrap_i64 (by omega) (by omega))) ?_
 refine tp (PV.rem (r := ((who + 1) % 5)) rfl rfl rfl (by omega) (rem_pos (by omega))) ?_
 refine TL.buildSlice (cells := #[(.int .i64 (((who + 1) % 5)))]) (Want.plain rfl) rfl rfl rfl Tryz.underlying50 in3 rfl rfl rfl (by as_aux_lemma => kernel_rfl) (fun b17 => ?_)
 refine TL.append (k := 1) (news := [(.int .i64 (((who + 1) % 5)))]) (nn' := 1) (xs' := [(.int .i64 (((who + 1) % 5)))]) (Want.plain rfl) rfl rfl rfl Tryz.underlying50 in3 rfl rfl rfl rfl rfl rfl (fun _ _ => Src.rd rfl (RO 0) rfl) (by simp [Value.oneCell']) (by simp only [maxLen]; omega) (by omega) (by simp) (by simp) (fun v18 ov18 => ?_)
 refine PS ?_
 refine TL.nil ?_
 refine TE.blockEnd ?_
 refine TE.next J9 ?_
 refine TC.region ?_
 refine PS ?_
 refine tp (PV.add (r := 2) rfl rfl rfl (by decide)) ?_
 refine PS ?_
 refine TL.nil ?_
 refine TE.again ?_
 refine TC.seq fun _ J10 => ?_
 refine sr fun _ J11 => ?_
 refine PS ?_
 refine PS ?_
 refine nx J11 ?_
 refine CY ?_
 refine CX J10 ?_
 refine TC.seq fun _ J12 => ?_
 refine TC.block ?_
 refine TC.region ?_
 refine PS ?_
 refine PS ?_
 refine PS ?_
 refine tp (PV.add (r := (who + 2)) rfl rfl rfl (wrap_i64 (by omega) (by omega))) ?_
 refine tp (PV.rem (r := ((who + 2) % 5)) rfl rfl rfl (by omega) (rem_pos (by omega))) ?_
 refine TL.mono (H' := [own v18 (1) ([(.int .i64 (((who + 1) % 5)))]) 3 1]) (fun _ s => sep_keep [1] rfl s) ?_
 refine TL.buildSlice (cells := #[(.int .i64 (((who + 2) % 5)))]) (Want.plain rfl) rfl rfl rfl Tryz.underlying50 in3 rfl rfl rfl (by as_aux_lemma => kernel_rfl) (fun b17 => ?_)
 refine TL.append (k := 1) (news := [(.int .i64 (((who + 2) % 5)))]) (nn' := 1 + 1) (xs' := [(.int .i64 (((who + 1) % 5)))] ++ [(.int .i64 (((who + 2) % 5)))]) (Want.plain rfl) rfl rfl rfl Tryz.underlying50 in3 rfl rfl rfl rfl rfl rfl (fun _ _ => Src.rd rfl (RO 0) rfl) (by simp [Value.oneCell']) (by simp only [maxLen]; omega) (by omega) (by simp) (by simp) (fun v18 ov18 => ?_)
 refine PS ?_
 refine TL.nil ?_
 refine TE.blockEnd ?_
 refine TE.next J12 ?_
 refine TC.region ?_
 refine PS ?_
 refine tp (PV.add (r := 3) rfl rfl rfl (by decide)) ?_
 refine PS ?_
 refine TL.nil ?_
 refine TE.again ?_
 refine TC.seq fun _ J13 => ?_
 refine sr fun _ J14 => ?_
 refine PS ?_
 refine PS ?_
 refine nx J14 ?_
 refine CN ?_
 refine TC.exit ?_
 refine TE.pass ?_
 refine TE.pass ?_
 refine TE.hit ?_
 refine TE.next J5 ?_
 refine sr fun _ J15 => ?_
 refine PS ?_
 refine PS ?_
 refine nx J15 ?_
 refine TC.ret ?_
 refine WK [1] ?_
 refine TE.ret1 rfl rfl ?_
 exact ⟨_, rfl, by rw [witL, if_pos h6]; rfl⟩
 refine tp (PV.not (r := true) rfl rfl rfl) ?_
 refine nx J3 ?_
 refine CY ?_
 refine sr fun _ J16 => ?_
 refine PS ?_
 refine nx J16 ?_
 refine TC.ret ?_
 refine TE.passRet ?_
 refine TE.weak (H' := [own (.slice none 0 0) 0 [] 3 1]) (Sub.refl _) (fun _ s => sep_ownNil 3 1 s) ?_
 refine TE.ret1 rfl rfl ?_
 exact ⟨_, rfl, by rw [witL, if_neg (by simp [h6])]; rfl⟩
end Go.Proofs.YtobdfjdoilnfcaaGreat
end

section
namespace Go.Proofs.YtobdfjdoilnfcaaGreat

open Go Leg Codec Api

set_option linter.unusedSimpArgs false
set_option linter.unusedVariables false

set_option maxRecDepth 100000

set_option maxHeartbeats 8000000

theorem bookRow_does (b off T : Nat) (cs : BookT → List Value) (hA : Arnd cs (fun x => ints x.flat) off) (B : BookT) (who : Int) :
    Leg.Does Tryz.prog 81 #[(.pointer (some ⟨b, off, none⟩)), (.int .i64 (who))] (fun _ => True) [blkA b (cs B) T] (Ret (fun r' H => r' = .agg (ints (bookRow B who).flat).toArray ∧ H = [blkA b (cs B) T])) := by
 refine Leg.Does.body (vs := [(.pointer (some ⟨b, off, none⟩)), (.int .i64 (who))]) (n := 15) Tryz.func81 rfl rfl rfl (fun w0 F hF => ?_)
 refine sr fun _ J1 => ?_
 refine TL.alloc (Want.plain rfl) rfl rfl rfl z64 (fun b4 => ?_)
 change TL _ _ _ _ _ _ _ _ _ [blkA b4 (ints RowT.zero.flat) 64, blkA b (cs B) T]
 refine nx J1 ?_
 refine TC.seq fun _ J2 => ?_
 refine sr fun _ J3 => ?_
 refine mv ?_
 refine TL.callR (Want.plain rfl) rfl rfl rfl nm90 rfl (bookMachine_does who) (fun _ s => s) (fun _ _ _ => trivial) (fun vR HR hR => ?_)
 obtain ⟨rfl, rfl⟩ := hR
 refine TL.decB (fun h6 => ?_) (fun h6 => ?_)
 have hm : 0 ≤ who ∧ who < 5 := of_decide_eq_true h6
 refine tp (PV.not (r := false) rfl rfl rfl) ?_
 refine nx J3 ?_
 refine TC.no rfl ?_
 refine TC.skip ?_
 refine TE.next J2 ?_
 refine sr fun _ J4 => ?_
 refine mv ?_
 refine mv ?_
 refine tp (PV.nilCheck rfl rfl) ?_
 refine tp (PV.fieldAddr (r := off) rfl Tryz.underlying100 rfl sz65 rfl rfl) ?_
 refine tp (PV.indexArr (r := off + who.toNat * 174) rfl Tryz.underlying65 sz64 rfl rfl (by omega) (by omega) (by omega)) ?_
 refine tp (PV.loadN (vs := ints (B.rows[who.toNat]'(by omega)).flat) rfl Tryz.underlying64 rfl sz64 rfl (Rd.own 1 rfl rfl) (RowT.len (B.rows[who.toNat]'(by omega))) (Arnd.sub hA (j := who.toNat * 174) (by omega) (by have h0 := (BookT.len B); omega) (BookT.sub_rows B (who.toNat * 174) (by omega) (by omega) (vs_sub RowT.flat_length B.rows (i := who.toNat) 0 (by omega) (by omega) (by decide) (whole (RowT.len (B.rows[who.toNat]'(by omega)))))))) ?_
 refine TL.store (vs := ints (B.rows[who.toNat]'(by omega)).flat) (i := 0) (Want.plain rfl) rfl rfl rfl rfl rfl (by rw [(RowT.len (B.rows[who.toNat]'(by omega)))]; exact sz64) (ints_one _) rfl rfl (by have h0 := (RowT.len RowT.zero); have h1 := (RowT.len (B.rows[who.toNat]'(by omega))); omega) (wwhole ((RowT.len RowT.zero).trans (RowT.len (B.rows[who.toNat]'(by omega))).symm)) rfl ?_
 refine nx J4 ?_
 refine TC.ret ?_
 refine TE.retC (H' := [blkA b (cs B) T]) rfl rfl Tryz.underlying64 rfl sz64 (Rd.own 0 rfl rfl) (RowT.len (B.rows[who.toNat]'(by omega))) (fun _ s => sep_keep [1] rfl s) ?_
 exact ⟨by rw [bookRow, dif_pos h6], rfl⟩
 refine tp (PV.not (r := true) rfl rfl rfl) ?_
 refine nx J3 ?_
 refine TC.yes rfl ?_
 refine sr fun _ J5 => ?_
 refine tp (PV.build (cells := (ints RowT.zero.flat).toArray) rfl rfl (by as_aux_lemma => kernel_rfl)) ?_
 refine TL.store (vs := ints RowT.zero.flat) (i := 0) (Want.plain rfl) rfl rfl rfl rfl rfl (by rw [(RowT.len RowT.zero)]; exact sz64) (ints_one _) rfl rfl (by have h0 := (RowT.len RowT.zero); have h1 := (RowT.len RowT.zero); omega) (wwhole ((RowT.len RowT.zero).trans (RowT.len RowT.zero).symm)) rfl ?_
 refine nx J5 ?_
 refine TC.ret ?_
 refine TE.passRet ?_
 refine TE.retC (H' := [blkA b (cs B) T]) rfl rfl Tryz.underlying64 rfl sz64 (Rd.own 0 rfl rfl) (RowT.len RowT.zero) (fun _ s => sep_keep [1] rfl s) ?_
 exact ⟨by rw [bookRow, dif_neg (by simp [h6])], rfl⟩
theorem bookMerge_does (b off T : Nat) (cs : BookT → List Value) (hA : Arnd cs (fun x => ints x.flat) off) (B : BookT) (who : Int) (x : RowT) (hx : WF x.flat) :
    Leg.Does Tryz.prog 112 #[(.pointer (some ⟨b, off, none⟩)), (.int .i64 (who)), (.agg (ints x.flat).toArray)] (fun _ => True) [blkA b (cs B) T] (Ret (fun r' H => r' = .bool (bookMerge B who x).2 ∧ H = [blkA b (cs (bookMerge B who x).1) T])) := by
 refine Leg.Does.body (n := 33) Tryz.func112 rfl rfl rfl (fun w0 F hF => ?_)
 refine sr fun _ J1 => ?_
 refine TL.box (Want.plain rfl) rfl rfl rfl rfl (fun b5 => ?_)
 change TL _ _ _ _ _ _ _ _ _ [blkA b5 (ints x.flat) 64, blkA b (cs B) T]
 refine PS ?_
 refine nx J1 ?_
 refine TC.seq fun _ J2 => ?_
 refine TC.seq fun _ J3 => ?_
 refine D2 0 1 mixed ?_
 refine PD 0 ?_
 refine TD.all [1] (by kernel_rfl) rfl ?_
 refine AllT.cons rfl ?_ ?_
 refine CR nm90 (bookMachine_does who) (fun _ s => s) fun vR HR hR => ?_
 obtain ⟨rfl, rfl⟩ := hR
 refine TL.decB (fun h8 => ?_) (fun h8 => ?_)
 have hm : 0 ≤ who ∧ who < 5 := of_decide_eq_true h8
 have hrow : bookRow B who = B.rows[who.toNat]'(by omega) := by rw [bookRow, dif_pos h8]
 refine TL.nil ?_
 refine E2 0 1 ?_
 refine ta 2 rfl (PV.not (r := false) rfl rfl rfl) ?_
 refine PD 3 ?_
 refine tb 4 rfl (PV.loadN (vs := ints x.flat) rfl Tryz.underlying64 rfl sz64 rfl (fun _ h => h.2.1) (RowT.len x) (whole (RowT.len x))) ?_
 refine TD.all [5] (by kernel_rfl) rfl ?_
 refine AllT.cons rfl ?_ ?_
 refine CR nm131 (rowRight_does x hx) (fun _ s => s) fun vR HR hR => ?_
 obtain ⟨rfl, rfl⟩ := hR
 refine TL.decB (fun h12 => ?_) (fun h12 => ?_)
 refine TL.nil ?_
 refine E2 0 1 ?_
 refine tb 6 rfl (PV.not (r := false) rfl rfl rfl) ?_
 refine PD 7 ?_
 refine PD 8 ?_
 refine FD 9 0 Tryz.underlying64 sz3 ?_
 refine tb 10 rfl (PV.load1 (v := (.int .i64 (x.version))) rfl Tryz.underlying3 rfl rfl (fun _ h => h.2.1) (RowT.at_version x rfl)) ?_
 refine PD 11 ?_
 refine PD 12 ?_
 refine PD 13 ?_
 refine tb 14 rfl (PV.fieldAddr (r := off) rfl Tryz.underlying100 rfl sz65 rfl rfl) ?_
 refine tb 15 rfl (PV.indexArr (r := off + who.toNat * 174) rfl Tryz.underlying65 sz64 rfl rfl (by omega) (by omega) (by omega)) ?_
 refine tb 16 rfl (PV.fieldAddr (r := off + who.toNat * 174) rfl Tryz.underlying64 rfl sz3 rfl rfl) ?_
 refine tb 17 rfl (PV.load1 (v := (.int .i64 ((B.rows[who.toNat]'(by omega)).version))) rfl Tryz.underlying3 rfl rfl (fun _ h => h.2.2.1) (Arnd.at hA (j := who.toNat * 174) (by omega) (by have h0 := (BookT.len B); omega) (BookT.pt_rows B (who.toNat * 174) (by omega) (by omega) (vs_pt RowT.flat_length B.rows (i := who.toNat) 0 (by omega) (by omega) (by decide) (RowT.at_version _ rfl))))) ?_
 refine PD 18 ?_
 refine TD.dec (fun h25 => ?_) (fun h25 => ?_)
 refine PD 19 ?_
 refine TD.done (by kernel_rfl) ?_
 refine TE.next J3 ?_
 refine CY ?_
 refine sr fun _ J4 => ?_
 refine PS ?_
 refine nx J4 ?_
 refine TC.ret ?_
 refine TE.passRet ?_
 refine WK [1] ?_
 refine TE.ret1 rfl rfl ?_
 have e : bookMerge B who x = (B, false) := by rw [bookMerge, if_neg (fun h => by simp only [Bool.and_eq_true, decide_eq_true_iff] at h; rw [hrow] at h; omega)]
 exact ⟨by rw [e], by rw [e]; rfl⟩
 refine PD 19 ?_
 refine TD.done (by kernel_rfl) ?_
 refine TE.next J3 ?_
 refine CN ?_
 refine CX J2 ?_
 refine TC.seq fun _ J5 => ?_
 refine D1 0 mixed ?_
 refine PD 0 ?_
 refine PD 1 ?_
 refine ta 2 rfl (PV.loadN (vs := ints x.flat) rfl Tryz.underlying64 rfl sz64 rfl (fun _ h => h.2.1) (RowT.len x) (whole (RowT.len x))) ?_
 refine PD 3 ?_
 refine ta 4 rfl (PV.fieldAddr (r := off) rfl Tryz.underlying100 rfl sz65 rfl rfl) ?_
 refine ta 5 rfl (PV.indexArr (r := off + who.toNat * 174) rfl Tryz.underlying65 sz64 rfl rfl (by omega) (by omega) (by omega)) ?_
 refine TD.all [6] (by kernel_rfl) rfl ?_
 refine AllT.cons rfl ?_ ?_
 refine TL.store (vs := ints x.flat) (i := 1) (Want.plain rfl) rfl rfl rfl rfl rfl (by rw [(RowT.len x)]; exact sz64) (ints_one _) rfl rfl (by have h0 := (BookT.len B); have h2 := Arnd.le hA B; have h1 := (RowT.len x); omega) (Arnd.wr hA (x := B) (x' := (BookT.mk (B.rows.set who.toNat x (by omega)))) (j := who.toNat * 174) (by omega) (by have h0 := (BookT.len B); have h1 := (RowT.len x); omega) (BookT.wr_rows_ B (who.toNat * 174) (by omega) (by have h1 := (RowT.len x); omega) (vs_wr RowT.flat_length B.rows (i := who.toNat) 0 (by omega) (by omega) (by have h1 := (RowT.len x); omega) (wwhole ((RowT.len (B.rows[who.toNat]'(by omega))).trans (RowT.len x).symm))))) rfl ?_
 refine TL.nil ?_
 refine E1 0 ?_
 refine TD.done (by kernel_rfl) ?_
 refine TE.next J5 ?_
 refine sr fun _ J6 => ?_
 refine PS ?_
 refine nx J6 ?_
 refine TC.ret ?_
 refine WK [1] ?_
 refine TE.ret1 rfl rfl ?_
 have e : bookMerge B who x = (putRow B who x, true) := by rw [bookMerge, if_pos (by simp only [Bool.and_eq_true, decide_eq_true_iff, hrow]; exact ⟨⟨h8, h12⟩, by omega⟩)]
 exact ⟨by rw [e], by rw [e, putRow, dif_pos h8]; rfl⟩
 exact AllT.nil
 refine TL.nil ?_
 refine E2 0 1 ?_
 refine tb 6 rfl (PV.not (r := true) rfl rfl rfl) ?_
 refine PD 7 ?_
 refine PD 8 ?_
 refine NT 9 ?_
 refine NT 10 ?_
 refine NT 11 ?_
 refine NT 12 ?_
 refine NT 13 ?_
 refine NT 14 ?_
 refine NT 15 ?_
 refine NT 16 ?_
 refine NT 17 ?_
 refine NT 18 ?_
 refine PD 19 ?_
 refine TD.done (by kernel_rfl) ?_
 refine TE.next J3 ?_
 refine CY ?_
 refine sr fun _ J7 => ?_
 refine PS ?_
 refine nx J7 ?_
 refine TC.ret ?_
 refine TE.passRet ?_
 refine WK [1] ?_
 refine TE.ret1 rfl rfl ?_
 have e : bookMerge B who x = (B, false) := by rw [bookMerge, if_neg (fun h => by simp only [Bool.and_eq_true, decide_eq_true_iff] at h; rw [h12] at h; exact absurd h.1.2 (by decide))]
 exact ⟨by rw [e], by rw [e]; rfl⟩
 exact AllT.nil
 refine TL.nil ?_
 refine E2 0 1 ?_
 refine ta 2 rfl (PV.not (r := true) rfl rfl rfl) ?_
 refine PD 3 ?_
 refine NT 4 ?_
 refine NT 5 ?_
 refine NT 6 ?_
 refine PD 7 ?_
 refine PD 8 ?_
 refine NT 9 ?_
 refine NT 10 ?_
 refine NT 11 ?_
 refine NT 12 ?_
 refine NT 13 ?_
 refine NT 14 ?_
 refine NT 15 ?_
 refine NT 16 ?_
 refine NT 17 ?_
 refine NT 18 ?_
 refine PD 19 ?_
 refine TD.done (by kernel_rfl) ?_
 refine TE.next J3 ?_
 refine CY ?_
 refine sr fun _ J8 => ?_
 refine PS ?_
 refine nx J8 ?_
 refine TC.ret ?_
 refine TE.passRet ?_
 refine WK [1] ?_
 refine TE.ret1 rfl rfl ?_
 have e : bookMerge B who x = (B, false) := by rw [bookMerge, if_neg (fun h => by simp only [Bool.and_eq_true, decide_eq_true_iff] at h; rw [h8] at h; exact absurd h.1.1 (by decide))]
 exact ⟨by rw [e], by rw [e]; rfl⟩
 exact AllT.nil
theorem bookCell_does (b off T : Nat) (cs : BookT → List Value) (hA : Arnd cs (fun x => ints x.flat) off) (B : BookT) (of' key : Int) :
    Leg.Does Tryz.prog 87 #[(.pointer (some ⟨b, off, none⟩)), (.int .i64 (of')), (.int .i64 (key))] (fun _ => True) [blkA b (cs B) T] (Ret (fun r' H => r' = .agg (ints (bookCell B of' key).flat).toArray ∧ H = [blkA b (cs B) T])) := by
 refine Leg.Does.body (n := 35) Tryz.func87 rfl rfl rfl (fun w0 F hF => ?_)
 refine sr fun _ J1 => ?_
 refine TL.alloc (Want.plain rfl) rfl rfl rfl z60 (fun b6 => ?_)
 change TL _ _ _ _ _ _ _ _ _ [blkA b6 (ints CellT.zero.flat) 60, blkA b (cs B) T]
 refine nx J1 (sr fun _ J2 => ?_)
 refine TL.alloc (Want.plain rfl) rfl rfl rfl z60 (fun b7 => ?_)
 change TL _ _ _ _ _ _ _ _ _ [blkA b7 (ints CellT.zero.flat) 60, blkA b6 (ints CellT.zero.flat) 60, blkA b (cs B) T]
 refine nx J2 (sr fun _ J3 => ?_)
 refine PS ?_
 refine nx J3 ?_
 refine TC.seq fun _ J4 => ?_
 refine sr fun _ J5 => ?_
 refine PS ?_
 refine nx J5 ?_
 refine TC.block ?_
 refine TC.loop (α := (Nat) × (CellT) × (Int)) (fun ⟨k, c, n⟩ => k ≤ 5 ∧ (c, n) = bookTo B of' key k) (fun ⟨k, c, n⟩ => [(0, (.pointer (some ⟨b, off, none⟩))), (1, (.int .i64 (of'))), (2, (.int .i64 (key))), (6, (.pointer (some ⟨b6, 0, none⟩))), (7, (.pointer (some ⟨b7, 0, none⟩))), (8, (.int .i64 (n))), (12, (.int .i64 (((k : Nat) : Int))))]) (fun ⟨k, c, n⟩ => [blkA b7 (ints c.flat) 60, blkA b6 (ints CellT.zero.flat) 60, blkA b (cs B) T]) (fun ⟨k, c, n⟩ => 5 - k) (0, CellT.zero, -1)
     ⟨Nat.zero_le _, rfl⟩ (Sub.r (Sub.r (Sub.r (Sub.r (Sub.r (Sub.cons rfl (by congr 1) (Sub.cons rfl (by congr 1) (Sub.nil _))))))))
     (fun _ s => s) (fun ⟨k, c, n⟩ hinv => ?_)
 obtain ⟨hk, hc⟩ := hinv
 refine sr fun _ J6 => ?_
 refine PS ?_
 refine TL.dec (fun h13 => ?_) (fun h13 => ?_)
 refine nx J6 ?_
 refine TC.seq fun _ J7 => ?_
 refine CY ?_
 refine CX J7 ?_
 refine TC.seq fun _ J8 => ?_
 refine TC.block ?_
 refine sr fun _ J9 => ?_
 refine PS ?_
 refine PS ?_
 refine nx J9 (sr fun _ J10 => ?_)
 refine PS ?_
 refine PS ?_
 refine PS ?_
 refine tp (PV.fieldAddr (r := off) rfl Tryz.underlying100 rfl sz65 rfl rfl) ?_
 refine tp (PV.indexArr (r := off + k * 174) rfl Tryz.underlying65 sz64 rfl rfl (by omega) (by omega) (by omega)) ?_
 refine tp (PV.loadN (vs := ints (B.rows[k]'(by omega)).flat) rfl Tryz.underlying64 rfl sz64 rfl (RO 2) (RowT.len (B.rows[k]'(by omega))) (Arnd.sub hA (j := k * 174) (by omega) (by have h0 := (BookT.len B); omega) (BookT.sub_rows B (k * 174) (by omega) (by omega) (vs_sub RowT.flat_length B.rows (i := k) 0 (by omega) (by omega) (by decide) (whole (RowT.len (B.rows[k]'(by omega)))))))) ?_
 refine PS ?_
 refine PS ?_
 refine PS ?_
 refine CR nm125 (rowCell_does (B.rows[k]'(by omega)) ((k : Nat) : Int) of' key) (fun _ s => s) fun vR HR hR => ?_
 obtain ⟨rfl, rfl⟩ := hR
 refine PS ?_
 refine tp (PV.extract (vs := [(.agg (ints ((rowCell (B.rows[k]'(by omega)) ((k : Nat) : Int) of' key).1).flat).toArray), (.int .i64 ((rowCell (B.rows[k]'(by omega)) ((k : Nat) : Int) of' key).2))]) rfl rfl rfl) ?_
 refine tp (PV.extract (vs := [(.agg (ints ((rowCell (B.rows[k]'(by omega)) ((k : Nat) : Int) of' key).1).flat).toArray), (.int .i64 ((rowCell (B.rows[k]'(by omega)) ((k : Nat) : Int) of' key).2))]) rfl rfl rfl) ?_
 refine TL.alloc (Want.plain rfl) rfl rfl rfl z60 (fun b10 => ?_)
 change TL _ _ _ _ _ _ _ _ _ [blkA b10 (ints CellT.zero.flat) 60, blkA b7 (ints c.flat) 60, blkA b6 (ints CellT.zero.flat) 60, blkA b (cs B) T]
 refine TL.store (vs := ints ((rowCell (B.rows[k]'(by omega)) ((k : Nat) : Int) of' key).1).flat) (i := 0) (Want.plain rfl) rfl rfl rfl rfl rfl (by rw [(CellT.len ((rowCell (B.rows[k]'(by omega)) ((k : Nat) : Int) of' key).1))]; exact sz60) (ints_one _) rfl rfl (by have h0 := (CellT.len CellT.zero); have h1 := (CellT.len ((rowCell (B.rows[k]'(by omega)) ((k : Nat) : Int) of' key).1)); omega) (wwhole ((CellT.len CellT.zero).trans (CellT.len ((rowCell (B.rows[k]'(by omega)) ((k : Nat) : Int) of' key).1)).symm)) rfl ?_
 refine PS ?_
 refine nx J10 (sr fun _ J11 => ?_)
 refine PS ?_
 refine PS ?_
 refine PS ?_
 refine TL.dec (fun h30 => ?_) (fun h30 => ?_)
 refine nx J11 ?_
 refine CY ?_
 refine TC.region ?_
 refine tp (PV.loadN (vs := ints ((rowCell (B.rows[k]'(by omega)) ((k : Nat) : Int) of' key).1).flat) rfl Tryz.underlying60 rfl sz60 rfl (RO 0) (CellT.len ((rowCell (B.rows[k]'(by omega)) ((k : Nat) : Int) of' key).1)) (whole (CellT.len ((rowCell (B.rows[k]'(by omega)) ((k : Nat) : Int) of' key).1)))) ?_
 refine PS ?_
 refine TL.store (vs := ints ((rowCell (B.rows[k]'(by omega)) ((k : Nat) : Int) of' key).1).flat) (i := 1) (Want.plain rfl) rfl rfl rfl rfl rfl (by rw [(CellT.len ((rowCell (B.rows[k]'(by omega)) ((k : Nat) : Int) of' key).1))]; exact sz60) (ints_one _) rfl rfl (by have h0 := (CellT.len c); have h1 := (CellT.len ((rowCell (B.rows[k]'(by omega)) ((k : Nat) : Int) of' key).1)); omega) (wwhole ((CellT.len c).trans (CellT.len ((rowCell (B.rows[k]'(by omega)) ((k : Nat) : Int) of' key).1)).symm)) rfl ?_
 refine PS ?_
 refine TL.nil ?_
 refine TE.blockEnd ?_
 refine TE.next J8 ?_
 refine TC.region ?_
 refine tp (PV.add rfl rfl rfl (wrap_i64 (by omega) (by omega))) ?_
 refine PS ?_
 refine TL.nil ?_
 exact TE.round ((k + 1, (rowCell (B.rows[k]'(by omega)) ((k : Nat) : Int) of' key).1, (rowCell (B.rows[k]'(by omega)) ((k : Nat) : Int) of' key).2) : (Nat) × (CellT) × (Int)) ⟨by omega, by rw [bookTo_succ, ← hc, bookStep, bookRow_at B (by omega)]; simp [h30]⟩ (by show 5 - (k + 1) < 5 - k; omega)
   (Sub.r (Sub.r (Sub.r (Sub.r (Sub.r (Sub.r (Sub.cons rfl (by simp) (Sub.nil _))))))))
   (fun _ s => sep_keep [1, 1, 1] rfl s)
 refine nx J11 ?_
 refine CN ?_
 refine TC.skip ?_
 refine TE.blockEnd ?_
 refine TE.next J8 ?_
 refine TC.region ?_
 refine tp (PV.add rfl rfl rfl (wrap_i64 (by omega) (by omega))) ?_
 refine PS ?_
 refine TL.nil ?_
 exact TE.round ((k + 1, c, n) : (Nat) × (CellT) × (Int)) ⟨by omega, by rw [bookTo_succ, ← hc, bookStep, bookRow_at B (by omega)]; simp [h30]⟩ (by show 5 - (k + 1) < 5 - k; omega)
   (Sub.r (Sub.r (Sub.r (Sub.r (Sub.r (Sub.r (Sub.cons rfl (by simp) (Sub.nil _))))))))
   (fun _ s => sep_keep [1, 1, 1] rfl s)
 refine nx J6 ?_
 refine TC.seq fun _ J12 => ?_
 refine CN ?_
 refine TC.exit ?_
 refine TE.pass ?_
 refine TE.pass ?_
 refine TE.hit ?_
 refine TE.next J4 ?_
 refine sr fun _ J13 => ?_
 refine tp (PV.loadN (vs := ints c.flat) rfl Tryz.underlying60 rfl sz60 rfl (RO 0) (CellT.len c) (whole (CellT.len c))) ?_
 refine TL.store (vs := ints c.flat) (i := 1) (Want.plain rfl) rfl rfl rfl rfl rfl (by rw [(CellT.len c)]; exact sz60) (ints_one _) rfl rfl (by have h0 := (CellT.len CellT.zero); have h1 := (CellT.len c); omega) (wwhole ((CellT.len CellT.zero).trans (CellT.len c).symm)) rfl ?_
 refine nx J13 ?_
 refine TC.ret ?_
 refine TE.retC (H' := [blkA b (cs B) T]) rfl rfl Tryz.underlying60 rfl sz60 (RO 1) (CellT.len c) (fun _ s => sep_keep [2] rfl s) ?_
 obtain rfl : k = 5 := by omega
 exact ⟨by rw [bookCell, ← hc], rfl⟩
theorem bookValue_does (b off T : Nat) (cs : BookT → List Value) (hA : Arnd cs (fun x => ints x.flat) off) (B : BookT) (key : Int) :
    Leg.Does Tryz.prog 51 #[(.pointer (some ⟨b, off, none⟩)), (.int .i64 (key))] (fun _ => True) [blkA b (cs B) T] (Ret (fun r' H => r' = .int .i64 (bookValue B key) ∧ H = [blkA b (cs B) T])) := by
 refine Leg.Does.body (n := 24) Tryz.func51 rfl rfl rfl (fun w0 F hF => ?_)
 refine sr fun _ J1 => ?_
 refine PS ?_
 refine nx J1 (sr fun _ J2 => ?_)
 refine PS ?_
 refine nx J2 ?_
 refine TC.seq fun _ J3 => ?_
 refine sr fun _ J4 => ?_
 refine PS ?_
 refine nx J4 ?_
 refine TC.block ?_
 refine TC.loop (α := (Nat) × (Int)) (fun ⟨k, n⟩ => k ≤ 5 ∧ n = valueTo B key k) (fun ⟨k, n⟩ => [(0, (.pointer (some ⟨b, off, none⟩))), (1, (.int .i64 (key))), (4, (.int .i64 0)), (5, (.int .i64 (n))), (8, (.int .i64 (((k : Nat) : Int))))]) (fun ⟨k, n⟩ => [blkA b (cs B) T]) (fun ⟨k, n⟩ => 5 - k) (0, 0)
     ⟨Nat.zero_le _, rfl⟩ (Sub.r (Sub.r (Sub.r (Sub.cons rfl (by congr 1) (Sub.cons rfl (by congr 1) (Sub.nil _))))))
     (fun _ s => s) (fun ⟨k, n⟩ hinv => ?_)
 obtain ⟨hk, hc⟩ := hinv
 refine sr fun _ J5 => ?_
 refine PS ?_
 refine TL.dec (fun h9 => ?_) (fun h9 => ?_)
 refine nx J5 ?_
 refine TC.seq fun _ J6 => ?_
 refine CY ?_
 refine CX J6 ?_
 refine TC.seq fun _ J7 => ?_
 refine TC.block ?_
 refine sr fun _ J8 => ?_
 refine PS ?_
 refine PS ?_
 refine nx J8 (sr fun _ J9 => ?_)
 refine PS ?_
 refine PS ?_
 refine PS ?_
 refine CR nm87 (bookCell_does b off T cs hA B ((k : Nat) : Int) key) (fun _ s => s) fun vR HR hR => ?_
 obtain ⟨rfl, rfl⟩ := hR
 refine TL.alloc (Want.plain rfl) rfl rfl rfl z60 (fun b7 => ?_)
 change TL _ _ _ _ _ _ _ _ _ [blkA b7 (ints CellT.zero.flat) 60, blkA b (cs B) T]
 refine TL.store (vs := ints (bookCell B ((k : Nat) : Int) key).flat) (i := 0) (Want.plain rfl) rfl rfl rfl rfl rfl (by rw [(CellT.len (bookCell B ((k : Nat) : Int) key))]; exact sz60) (ints_one _) rfl rfl (by have h0 := (CellT.len CellT.zero); have h1 := (CellT.len (bookCell B ((k : Nat) : Int) key)); omega) (wwhole ((CellT.len CellT.zero).trans (CellT.len (bookCell B ((k : Nat) : Int) key)).symm)) rfl ?_
 refine nx J9 ?_
 refine TC.region ?_
 refine PS ?_
 refine FA 0 Tryz.underlying60 sz3 ?_
 refine tp (PV.load1 (v := (.int .i64 ((bookCell B ((k : Nat) : Int) key).inn))) rfl Tryz.underlying3 rfl rfl (RO 0) (CellT.at_inn _ rfl)) ?_
 refine FA 1 Tryz.underlying60 sz3 ?_
 refine tp (PV.load1 (v := (.int .i64 ((bookCell B ((k : Nat) : Int) key).out))) rfl Tryz.underlying3 rfl rfl (RO 0) (CellT.at_out _ rfl)) ?_
 refine tp (PV.sub (r := (w64 (((bookCell B ((k : Nat) : Int) key).inn) - ((bookCell B ((k : Nat) : Int) key).out)))) rfl rfl rfl rfl) ?_
 refine tp (PV.add (r := (w64 (n + (w64 (((bookCell B ((k : Nat) : Int) key).inn) - ((bookCell B ((k : Nat) : Int) key).out)))))) rfl rfl rfl rfl) ?_
 refine PS ?_
 refine TL.nil ?_
 refine TE.blockEnd ?_
 refine TE.next J7 ?_
 refine TC.region ?_
 refine tp (PV.add rfl rfl rfl (wrap_i64 (by omega) (by omega))) ?_
 refine PS ?_
 refine TL.nil ?_
 exact TE.round ((k + 1, (w64 (n + (w64 (((bookCell B ((k : Nat) : Int) key).inn) - ((bookCell B ((k : Nat) : Int) key).out)))))) : (Nat) × (Int)) ⟨by omega, by rw [valueTo_succ, ← hc]⟩ (by show 5 - (k + 1) < 5 - k; omega)
   (Sub.r (Sub.r (Sub.r (Sub.r (Sub.cons rfl (by simp) (Sub.nil _))))))
   (fun _ s => sep_keep [1] rfl s)
 refine nx J5 ?_
 refine TC.seq fun _ J10 => ?_
 refine CN ?_
 refine TC.exit ?_
 refine TE.pass ?_
 refine TE.pass ?_
 refine TE.hit ?_
 refine TE.next J3 ?_
 refine sr fun _ J11 => ?_
 refine PS ?_
 refine PS ?_
 refine nx J11 ?_
 refine TC.ret ?_
 refine WK [0] ?_
 refine TE.ret1 rfl rfl ?_
 obtain rfl : k = 5 := by omega
 exact ⟨by rw [hc]; rfl, rfl⟩
theorem mirRow_does (b off T : Nat) (cs : MirT → List Value) (hA : Arnd cs MirT.cells off) (M : MirT) (who : Int) :
    Leg.Does Tryz.prog 88 #[(.pointer (some ⟨b, off, none⟩)), (.int .i64 (who))] (fun _ => True) [blkA b (cs M) T] (Ret (fun r' H => r' = .agg (ints (mirRow M who).flat).toArray ∧ H = [blkA b (cs M) T])) := by
 refine Leg.Does.body (vs := [(.pointer (some ⟨b, off, none⟩)), (.int .i64 (who))]) (n := 15) Tryz.func88 rfl rfl rfl (fun w0 F hF => ?_)
 refine sr fun _ J1 => ?_
 refine TL.alloc (Want.plain rfl) rfl rfl rfl z64 (fun b4 => ?_)
 change TL _ _ _ _ _ _ _ _ _ [blkA b4 (ints RowT.zero.flat) 64, blkA b (cs M) T]
 refine nx J1 ?_
 refine TC.seq fun _ J2 => ?_
 refine sr fun _ J3 => ?_
 refine mv ?_
 refine TL.callR (Want.plain rfl) rfl rfl rfl nm126 rfl (mirrorMachine_does who) (fun _ s => s) (fun _ _ _ => trivial) (fun vR HR hR => ?_)
 obtain ⟨rfl, rfl⟩ := hR
 refine TL.decB (fun h6 => ?_) (fun h6 => ?_)
 have hm : 0 ≤ who ∧ who < 5 := of_decide_eq_true h6
 refine tp (PV.not (r := false) rfl rfl rfl) ?_
 refine nx J3 ?_
 refine TC.no rfl ?_
 refine TC.skip ?_
 refine TE.next J2 ?_
 refine sr fun _ J4 => ?_
 refine mv ?_
 refine mv ?_
 refine tp (PV.nilCheck rfl rfl) ?_
 refine tp (PV.fieldAddr (r := off) rfl Tryz.underlying93 rfl sz65 rfl rfl) ?_
 refine tp (PV.indexArr (r := off + who.toNat * 174) rfl Tryz.underlying65 sz64 rfl rfl (by omega) (by omega) (by omega)) ?_
 refine tp (PV.loadN (vs := ints (M.rows[who.toNat]'(by omega)).flat) rfl Tryz.underlying64 rfl sz64 rfl (Rd.own 1 rfl rfl) (RowT.len (M.rows[who.toNat]'(by omega))) (Arnd.sub hA (j := who.toNat * 174) (by omega) (by have h0 := (MirT.len M); omega) (MirT.sub_rows M (who.toNat * 174) (by omega) (by omega) (vs_sub RowT.flat_length M.rows (i := who.toNat) 0 (by omega) (by omega) (by decide) (whole (RowT.len (M.rows[who.toNat]'(by omega)))))))) ?_
 refine TL.store (vs := ints (M.rows[who.toNat]'(by omega)).flat) (i := 0) (Want.plain rfl) rfl rfl rfl rfl rfl (by rw [(RowT.len (M.rows[who.toNat]'(by omega)))]; exact sz64) (ints_one _) rfl rfl (by have h0 := (RowT.len RowT.zero); have h1 := (RowT.len (M.rows[who.toNat]'(by omega))); omega) (wwhole ((RowT.len RowT.zero).trans (RowT.len (M.rows[who.toNat]'(by omega))).symm)) rfl ?_
 refine nx J4 ?_
 refine TC.ret ?_
 refine TE.retC (H' := [blkA b (cs M) T]) rfl rfl Tryz.underlying64 rfl sz64 (Rd.own 0 rfl rfl) (RowT.len (M.rows[who.toNat]'(by omega))) (fun _ s => sep_keep [1] rfl s) ?_
 exact ⟨by rw [mirRow, dif_pos h6], rfl⟩
 refine tp (PV.not (r := true) rfl rfl rfl) ?_
 refine nx J3 ?_
 refine TC.yes rfl ?_
 refine sr fun _ J5 => ?_
 refine tp (PV.build (cells := (ints RowT.zero.flat).toArray) rfl rfl (by as_aux_lemma => kernel_rfl)) ?_
 refine TL.store (vs := ints RowT.zero.flat) (i := 0) (Want.plain rfl) rfl rfl rfl rfl rfl (by rw [(RowT.len RowT.zero)]; exact sz64) (ints_one _) rfl rfl (by have h0 := (RowT.len RowT.zero); have h1 := (RowT.len RowT.zero); omega) (wwhole ((RowT.len RowT.zero).trans (RowT.len RowT.zero).symm)) rfl ?_
 refine nx J5 ?_
 refine TC.ret ?_
 refine TE.passRet ?_
 refine TE.retC (H' := [blkA b (cs M) T]) rfl rfl Tryz.underlying64 rfl sz64 (Rd.own 0 rfl rfl) (RowT.len RowT.zero) (fun _ s => sep_keep [1] rfl s) ?_
 exact ⟨by rw [mirRow, dif_neg (by simp [h6])], rfl⟩
theorem mirSealed_does (b off T : Nat) (cs : MirT → List Value) (hA : Arnd cs MirT.cells off) (M : MirT) (who : Int) :
    Leg.Does Tryz.prog 89 #[(.pointer (some ⟨b, off, none⟩)), (.int .i64 (who))] (fun _ => True) [blkA b (cs M) T] (Ret (fun r' H => r' = .bool (mirSealed M who) ∧ H = [blkA b (cs M) T])) := by
 refine Leg.Does.body (n := 15) Tryz.func89 rfl rfl rfl (fun w0 F hF => ?_)
 refine sr fun _ J1 => ?_
 refine PS ?_
 refine nx J1 ?_
 clear J1
 refine sr fun _ J2 => ?_
 refine PS ?_
 refine CR nm126 (mirrorMachine_does who) (fun _ s => s) fun vR HR hR => ?_
 obtain ⟨rfl, rfl⟩ := hR
 refine TL.decB (fun h6 => ?_) (fun h6 => ?_)
 have hm : 0 ≤ who ∧ who < 5 := of_decide_eq_true h6
 refine PS ?_
 refine PS ?_
 refine PS ?_
 refine PS ?_
 refine tq (PV.fieldAddr (r := off + 870) rfl Tryz.underlying93 rfl sz91 rfl rfl) ?_
 refine tq (PV.indexArr (r := off + 870 + who.toNat) rfl Tryz.underlying91 sz4 rfl rfl (by omega) (by omega) (by omega)) ?_
 refine tq (PV.load1 (v := (.bool ((M.sealed[who.toNat]'(by omega))))) rfl Tryz.underlying4 rfl rfl (RO 0) (Arnd.at hA (j := 870 + who.toNat) (by omega) (by have h0 := (MirT.len M); omega) (MirT.pt_sealed M (who.toNat) (by omega) (by omega) (vb_at M.sealed (by omega))))) ?_
 refine PS ?_
 refine PS ?_
 refine nx J2 ?_
 clear J2
 refine TC.ret ?_
 refine WK [0] ?_
 refine TE.ret1 rfl rfl ?_
 exact ⟨by simp [mirSealed, *], rfl⟩
 refine PS ?_
 refine UF ?_
 refine UF ?_
 refine UF ?_
 refine UF ?_
 refine UF ?_
 refine UF ?_
 refine PS ?_
 refine PS ?_
 refine nx J2 ?_
 clear J2
 refine TC.ret ?_
 refine WK [0] ?_
 refine TE.ret1 rfl rfl ?_
 exact ⟨by simp [mirSealed, *], rfl⟩
theorem mirTakes_does (b off T : Nat) (cs : MirT → List Value) (hA : Arnd cs MirT.cells off) (M : MirT) (who : Int) (x : RowT) (hx : WF x.flat) :
    Leg.Does Tryz.prog 136 #[(.pointer (some ⟨b, off, none⟩)), (.int .i64 (who)), (.agg (ints x.flat).toArray)] (fun _ => True) [blkA b (cs M) T] (Ret (fun r' H => r' = .bool (mirTakes M who x) ∧ H = [blkA b (cs M) T])) := by
 refine Leg.Does.body (n := 34) Tryz.func136 rfl rfl rfl (fun w0 F hF => ?_)
 refine sr fun _ J1 => ?_
 refine TL.box (Want.plain rfl) rfl rfl rfl rfl (fun b5 => ?_)
 change TL _ _ _ _ _ _ _ _ _ [blkA b5 (ints x.flat) 64, blkA b (cs M) T]
 refine PS ?_
 refine nx J1 ?_
 clear J1
 refine TC.seq fun _ J2 => ?_
 refine D2 1 0 mixed ?_
 refine PD 0 ?_
 refine TD.all [1] (by kernel_rfl) rfl ?_
 refine AllT.cons rfl ?_ ?_
 refine CR nm126 (mirrorMachine_does who) (fun _ s => s) fun vR HR hR => ?_
 obtain ⟨rfl, rfl⟩ := hR
 refine TL.decB (fun h8 => ?_) (fun h8 => ?_)
 have hm : 0 ≤ who ∧ who < 5 := of_decide_eq_true h8
 refine TL.nil ?_
 refine E2 1 0 ?_
 refine PD 2 ?_
 refine PD 3 ?_
 refine PD 4 ?_
 refine PD 5 ?_
 refine tb 6 rfl (PV.fieldAddr (r := off + 870) rfl Tryz.underlying93 rfl sz91 rfl rfl) ?_
 refine tb 7 rfl (PV.indexArr (r := off + 870 + who.toNat) rfl Tryz.underlying91 sz4 rfl rfl (by omega) (by omega) (by omega)) ?_
 refine tb 8 rfl (PV.load1 (v := (.bool ((M.sealed[who.toNat]'(by omega))))) rfl Tryz.underlying4 rfl rfl (fun _ h => h.2.1) (Arnd.at hA (j := 870 + who.toNat) (by omega) (by have h0 := (MirT.len M); omega) (MirT.pt_sealed M (who.toNat) (by omega) (by omega) (vb_at M.sealed (by omega))))) ?_
 refine TD.decB (fun h15 => ?_) (fun h15 => ?_)
 refine tb 9 rfl (PV.not (r := false) rfl rfl rfl) ?_
 refine PD 10 ?_
 refine PD 11 ?_
 refine NT 12 ?_
 refine NT 13 ?_
 refine PD 14 ?_
 refine PD 15 ?_
 refine NT 16 ?_
 refine NT 17 ?_
 refine NT 18 ?_
 refine NT 19 ?_
 refine NT 20 ?_
 refine NT 21 ?_
 refine NT 22 ?_
 refine NT 23 ?_
 refine NT 24 ?_
 refine NT 25 ?_
 refine PD 26 ?_
 refine PD 27 ?_
 refine TD.done (by kernel_rfl) ?_
 refine TE.next J2 ?_
 clear J2
 refine TC.ret ?_
 refine WK [1] ?_
 refine TE.ret1 rfl rfl ?_
 exact ⟨by simp [mirTakes, mirSealed, mirRow, *], rfl⟩
 refine tb 9 rfl (PV.not (r := true) rfl rfl rfl) ?_
 refine PD 10 ?_
 refine PD 11 ?_
 refine tb 12 rfl (PV.loadN (vs := ints x.flat) rfl Tryz.underlying64 rfl sz64 rfl (fun _ h => h.2.2.1) (RowT.len x) (whole (RowT.len x))) ?_
 refine TD.all [13] (by kernel_rfl) rfl ?_
 refine AllT.cons rfl ?_ ?_
 refine CR nm131 (rowRight_does x hx) (fun _ s => s) fun vR HR hR => ?_
 obtain ⟨rfl, rfl⟩ := hR
 refine TL.decB (fun h20 => ?_) (fun h20 => ?_)
 refine TL.nil ?_
 refine E2 1 0 ?_
 refine PD 14 ?_
 refine PD 15 ?_
 refine FD 16 0 Tryz.underlying64 sz3 ?_
 refine tb 17 rfl (PV.load1 (v := (.int .i64 (x.version))) rfl Tryz.underlying3 rfl rfl (fun _ h => h.2.2.1) (RowT.at_version x rfl)) ?_
 refine PD 18 ?_
 refine PD 19 ?_
 refine PD 20 ?_
 refine tb 21 rfl (PV.fieldAddr (r := off) rfl Tryz.underlying93 rfl sz65 rfl rfl) ?_
 refine tb 22 rfl (PV.indexArr (r := off + who.toNat * 174) rfl Tryz.underlying65 sz64 rfl rfl (by omega) (by omega) (by omega)) ?_
 refine tb 23 rfl (PV.fieldAddr (r := off + who.toNat * 174) rfl Tryz.underlying64 rfl sz3 rfl rfl) ?_
 refine tb 24 rfl (PV.load1 (v := (.int .i64 ((M.rows[who.toNat]'(by omega)).version))) rfl Tryz.underlying3 rfl rfl (fun _ h => h.2.1) (Arnd.at hA (j := who.toNat * 174) (by omega) (by have h0 := (MirT.len M); omega) (MirT.pt_rows M (who.toNat * 174) (by omega) (by omega) (vs_pt RowT.flat_length M.rows (i := who.toNat) 0 (by omega) (by omega) (by decide) (RowT.at_version _ rfl))))) ?_
 refine PD 25 ?_
 refine PD 26 ?_
 refine PD 27 ?_
 refine TD.done (by kernel_rfl) ?_
 refine TE.next J2 ?_
 clear J2
 refine TC.ret ?_
 refine WK [1] ?_
 refine TE.ret1 rfl rfl ?_
 exact ⟨by simp [mirTakes, mirSealed, mirRow, *], rfl⟩
 refine TL.nil ?_
 refine E2 1 0 ?_
 refine PD 14 ?_
 refine PD 15 ?_
 refine NT 16 ?_
 refine NT 17 ?_
 refine NT 18 ?_
 refine NT 19 ?_
 refine NT 20 ?_
 refine NT 21 ?_
 refine NT 22 ?_
 refine NT 23 ?_
 refine NT 24 ?_
 refine NT 25 ?_
 refine PD 26 ?_
 refine PD 27 ?_
 refine TD.done (by kernel_rfl) ?_
 refine TE.next J2 ?_
 clear J2
 refine TC.ret ?_
 refine WK [1] ?_
 refine TE.ret1 rfl rfl ?_
 exact ⟨by simp [mirTakes, mirSealed, mirRow, *], rfl⟩
 exact AllT.nil
 refine TL.nil ?_
 refine E2 1 0 ?_
 refine PD 2 ?_
 refine NT 3 ?_
 refine NT 4 ?_
 refine NT 5 ?_
 refine NT 6 ?_
 refine NT 7 ?_
 refine NT 8 ?_
 refine NT 9 ?_
 refine PD 10 ?_
 refine PD 11 ?_
 refine NT 12 ?_
 refine NT 13 ?_
 refine PD 14 ?_
 refine PD 15 ?_
 refine NT 16 ?_
 refine NT 17 ?_
 refine NT 18 ?_
 refine NT 19 ?_
 refine NT 20 ?_
 refine NT 21 ?_
 refine NT 22 ?_
 refine NT 23 ?_
 refine NT 24 ?_
 refine NT 25 ?_
 refine PD 26 ?_
 refine PD 27 ?_
 refine TD.done (by kernel_rfl) ?_
 refine TE.next J2 ?_
 clear J2
 refine TC.ret ?_
 refine WK [1] ?_
 refine TE.ret1 rfl rfl ?_
 exact ⟨by simp [mirTakes, mirSealed, mirRow, *], rfl⟩
 exact AllT.nil
theorem mirKeep_does (b off T : Nat) (cs : MirT → List Value) (hA : Arnd cs MirT.cells off) (M : MirT) (who : Int) (x : RowT) (hx : WF x.flat) :
    Leg.Does Tryz.prog 98 #[(.pointer (some ⟨b, off, none⟩)), (.int .i64 (who)), (.agg (ints x.flat).toArray)] (fun _ => True) [blkA b (cs M) T] (Ret (fun r' H => r' = .bool (mirKeep M who x).2 ∧ H = [blkA b (cs (mirKeep M who x).1) T])) := by
 refine Leg.Does.body (n := 18) Tryz.func98 rfl rfl rfl (fun w0 F hF => ?_)
 refine sr fun _ J1 => ?_
 refine TL.box (Want.plain rfl) rfl rfl rfl rfl (fun b5 => ?_)
 change TL _ _ _ _ _ _ _ _ _ [blkA b5 (ints x.flat) 64, blkA b (cs M) T]
 refine PS ?_
 refine nx J1 ?_
 refine TC.seq fun _ J2 => ?_
 refine sr fun _ J3 => ?_
 refine PS ?_
 refine PS ?_
 refine tp (PV.loadN (vs := ints x.flat) rfl Tryz.underlying64 rfl sz64 rfl (RO 0) (RowT.len x) (whole (RowT.len x))) ?_
 refine CR nm136 (mirTakes_does b off T cs hA M who x hx) (SM [1]) fun vR HR hR => ?_
 obtain ⟨rfl, rfl⟩ := hR
 refine TL.decB (fun h10 => ?_) (fun h10 => ?_)
 have hm0 : machB who = true := by have := h10; simp only [mirTakes, Bool.and_eq_true] at this; exact this.1.1.1
 have hm : 0 ≤ who ∧ who < 5 := of_decide_eq_true hm0
 refine tp (PV.not (r := false) rfl rfl rfl) ?_
 refine nx J3 ?_
 refine CN ?_
 refine CX J2 ?_
 refine TC.seq fun _ J4 => ?_
 refine D1 1 mixed ?_
 refine PD 0 ?_
 refine PD 1 ?_
 refine ta 2 rfl (PV.loadN (vs := ints x.flat) rfl Tryz.underlying64 rfl sz64 rfl (fun _ h => h.2.1) (RowT.len x) (whole (RowT.len x))) ?_
 refine PD 3 ?_
 refine ta 4 rfl (PV.fieldAddr (r := off) rfl Tryz.underlying93 rfl sz65 rfl rfl) ?_
 refine ta 5 rfl (PV.indexArr (r := off + who.toNat * 174) rfl Tryz.underlying65 sz64 rfl rfl (by omega) (by omega) (by omega)) ?_
 refine TD.all [6] (by kernel_rfl) rfl ?_
 refine AllT.cons rfl ?_ ?_
 refine TL.store (vs := ints x.flat) (i := 0) (Want.plain rfl) rfl rfl rfl rfl rfl (by rw [(RowT.len x)]; exact sz64) (ints_one _) rfl rfl (by have h0 := (MirT.len M); have h2 := Arnd.le hA M; have h1 := (RowT.len x); omega) (Arnd.wr hA (x := M) (x' := (MirT.mk (M.rows.set who.toNat x (by omega)) M.sealed)) (j := who.toNat * 174) (by omega) (by have h0 := (MirT.len M); have h1 := (RowT.len x); omega) (MirT.wr_rows_ M (who.toNat * 174) (by omega) (by have h1 := (RowT.len x); omega) (vs_wr RowT.flat_length M.rows (i := who.toNat) 0 (by omega) (by omega) (by have h1 := (RowT.len x); omega) (wwhole ((RowT.len (M.rows[who.toNat]'(by omega))).trans (RowT.len x).symm))))) rfl ?_
 refine TL.nil ?_
 refine E1 1 ?_
 refine TD.done (by kernel_rfl) ?_
 refine TE.next J4 ?_
 refine sr fun _ J5 => ?_
 refine PS ?_
 refine nx J5 ?_
 refine TC.ret ?_
 refine WK [0] ?_
 refine TE.ret1 rfl rfl ?_
 have e : mirKeep M who x = (mirPut M who x, true) := by rw [mirKeep, if_pos h10]
 exact ⟨by rw [e], by rw [e, mirPut, dif_pos hm0]; rfl⟩
 exact AllT.nil
 refine tp (PV.not (r := true) rfl rfl rfl) ?_
 refine nx J3 ?_
 refine CY ?_
 refine sr fun _ J6 => ?_
 refine PS ?_
 refine nx J6 ?_
 refine TC.ret ?_
 refine TE.passRet ?_
 refine WK [0] ?_
 refine TE.ret1 rfl rfl ?_
 have e : mirKeep M who x = (M, false) := by rw [mirKeep, if_neg (by simp [h10])]
 exact ⟨by rw [e], by rw [e]; rfl⟩
end Go.Proofs.YtobdfjdoilnfcaaGreat
end

section
namespace Api
open Go Leg Codec

def kRow (k : Int) : Bool := decide (k = 0 ∨ k = 2 ∨ k = 9)
def kAsk (k : Int) : Bool := decide (k = 3 ∨ k = 6)
def readMsgP : Ps (MsgT × Bool) := pb (smallP 10) fun k =>
  if kRow k then pb (smallP 5) fun w => pb rowP fun x => pr (⟨k, w, x, 0, 0, .zero, .zero, .zero, .zero⟩, rightR x)
  else if k = 1 then pb numP fun n => pr (⟨k, 0, .zero, n, 0, .zero, .zero, .zero, .zero⟩, true)
  else if kAsk k then pb numP fun n => pb ballotP fun b => pr (⟨k, 0, .zero, 0, n, b, .zero, .zero, .zero⟩, true)
  else if k = 4 then pb numP fun n => pb ballotP fun b => pb ballotP fun d => pb changeP fun c => pr (⟨k, 0, .zero, 0, n, b, d, c, .zero⟩, true)
  else if k = 5 then pb numP fun n => pb ballotP fun b => pb changeP fun c => pr (⟨k, 0, .zero, 0, n, b, .zero, c, .zero⟩, true)
  else if k = 7 then pb viewP fun v => pr (⟨k, 0, .zero, 0, 0, .zero, .zero, .zero, v⟩, rightV v)
  else if k = 8 then pb (smallP 5) fun w => pb viewP fun v => pr (⟨k, w, .zero, 0, 0, .zero, .zero, .zero, v⟩, rightV v)
  else pr (⟨k, 0, .zero, 0, 0, .zero, .zero, .zero, .zero⟩, true)
def readRecP : Ps (RecT × Bool) := pb (smallP 6) fun k =>
  if k = 0 then pb rowP fun x => pr (⟨k, 0, x, 0, .zero, .zero, .zero⟩, rightR x)
  else if k = 1 then pb (smallP 5) fun w => pb rowP fun x => pr (⟨k, w, x, 0, .zero, .zero, .zero⟩, rightR x)
  else if k = 2 then pb (smallP 5) fun w => pr (⟨k, w, .zero, 0, .zero, .zero, .zero⟩, true)
  else if k = 3 then pb numP fun n => pb ballotP fun b => pr (⟨k, 0, .zero, n, b, .zero, .zero⟩, true)
  else if k = 4 then pb numP fun n => pb ballotP fun b => pb changeP fun c => pr (⟨k, 0, .zero, n, b, c, .zero⟩, true)
  else if k = 5 then pb viewP fun v => pr (⟨k, 0, .zero, 0, .zero, .zero, v⟩, rightV v)
  else pr (⟨k, 0, .zero, 0, .zero, .zero, .zero⟩, true)
def decM (bs : List UInt8) : MsgT × Int := match readMsgP bs with
  | some ((m, true), []) => (m, 0)
  | _ => (.zero, 1)
def decR (bs : List UInt8) : RecT × Int := match readRecP bs with
  | some ((m, true), []) => (m, 0)
  | _ => (.zero, 1)
def encM (m : MsgT) : List UInt8 :=
  if kRow m.kind then encs [m.kind, m.whose] ++ encRow m.row
  else if m.kind = 1 then encs [m.kind, m.version]
  else if kAsk m.kind then encs [m.kind, m.epoch] ++ encs m.ballot.flat
  else if m.kind = 4 then encs [m.kind, m.epoch] ++ encs m.ballot.flat ++ encs m.had.flat ++ encs m.change.flat
  else if m.kind = 5 then encs [m.kind, m.epoch] ++ encs m.ballot.flat ++ encs m.change.flat
  else if m.kind = 7 then encs [m.kind] ++ encs m.view.flat
  else if m.kind = 8 then encs [m.kind, m.whose] ++ encs m.view.flat
  else []
def encR (m : RecT) : List UInt8 :=
  if m.kind = 0 then encs [m.kind] ++ encRow m.row
  else if m.kind = 1 then encs [m.kind, m.whose] ++ encRow m.row
  else if m.kind = 2 then encs [m.kind, m.whose]
  else if m.kind = 3 then encs [m.kind, m.epoch] ++ encs m.ballot.flat
  else if m.kind = 4 then encs [m.kind, m.epoch] ++ encs m.ballot.flat ++ encs m.change.flat
  else if m.kind = 5 then encs [m.kind] ++ encs m.view.flat
  else []
theorem view_rng {v : ViewT} {bs r : List UInt8} (h : viewP bs = some (v, r)) : Rng v := fun i hi => by
  have := (view_spec h).1.2.2 i hi
  exact ⟨this.1, by omega⟩
theorem row_wf {x : RowT} {bs r : List UInt8} (h : rowP bs = some (x, r)) : WF x.flat := (row_spec h).1.wf
end Api
end

section
namespace Api
open Go Leg Codec

def Nm (n : Int) : Prop := 0 ≤ n ∧ n < 9223372036854775808
def OkB (b : BallotT) : Prop := Nm b.round ∧ 0 ≤ b.who ∧ b.who < 5
def OkC (c : ChangeT) : Prop := (0 ≤ c.kind ∧ c.kind < 2) ∧ (0 ≤ c.who ∧ c.who < 5) ∧ (0 ≤ c.heir ∧ c.heir < 5)
def OkV (v : ViewT) : Prop := Nm v.epoch ∧ (0 ≤ v.members ∧ v.members < 32) ∧ ∀ (i : Nat) (h : i < 5), 0 ≤ v.heirs[i] ∧ v.heirs[i] < 6
theorem ballot_enc {b : BallotT} (h : OkB b) (r : List UInt8) : ballotP (encs b.flat ++ r) = some (b, r) := by
  obtain ⟨a, c⟩ := b
  obtain ⟨h1, h2, h3⟩ := h
  replace h3 : c < 5 := h3
  simp only [BallotT.flat, encs_cons, encs_nil, List.append_assoc, List.nil_append, ballotP]
  rw [pb_some (numP_encN h1.1 h1.2 _), pb_some (smallP_enc (n := c) h2 h3 (by omega) _)]; rfl
theorem change_enc {c : ChangeT} (h : OkC c) (r : List UInt8) : changeP (encs c.flat ++ r) = some (c, r) := by
  obtain ⟨a, b, d⟩ := c
  obtain ⟨⟨h1, h2⟩, ⟨h3, h4⟩, h5, h6⟩ := h
  simp only at h1 h2 h3 h4 h5 h6
  simp only [ChangeT.flat, encs_cons, encs_nil, List.append_assoc, List.nil_append, changeP]
  rw [pb_some (smallP_enc h1 h2 (by omega) _), pb_some (smallP_enc h3 h4 (by omega) _), pb_some (smallP_enc h5 h6 (by omega) _)]; rfl
theorem view_enc {v : ViewT} (h : OkV v) (r : List UInt8) : viewP (encs v.flat ++ r) = some (v, r) := by
  obtain ⟨i, o, g⟩ := v
  obtain ⟨h1, ⟨h2, h3⟩, h4⟩ := h
  replace h2 : 0 ≤ o := h2
  replace h3 : o < 32 := h3
  revert h4
  refine vec5 (p := fun g => (∀ (i_1 : Nat) (h : i_1 < 5), 0 ≤ g[i_1] ∧ g[i_1] < 6) → viewP (encs (ViewT.flat ⟨i, o, g⟩) ++ r) = some (⟨i, o, g⟩, r)) (fun a b c d e h4 => ?_) g
  have e0 := h4 0 (by omega)
  have e1 := h4 1 (by omega)
  have e2 := h4 2 (by omega)
  have e3 := h4 3 (by omega)
  have e4 := h4 4 (by omega)
  have s := fun n (h : 0 ≤ n ∧ n < 6) r => smallP_enc (n := n) (lim := 6) h.1 h.2 (by omega) r
  simp only [ViewT.flat, Vector.toList_mk, encs_cons, encs_nil, List.append_assoc, List.nil_append, viewP]
  rw [pb_some (numP_encN h1.1 h1.2 _), pb_some (smallP_enc h2 h3 (by omega) _), pb_some (s a e0 _), pb_some (s b e1 _), pb_some (s c e2 _), pb_some (s d e3 _), pb_some (s e e4 _)]; rfl
def normM (m : MsgT) : MsgT :=
  if kRow m.kind then ⟨m.kind, m.whose, m.row, 0, 0, .zero, .zero, .zero, .zero⟩
  else if m.kind = 1 then ⟨m.kind, 0, .zero, m.version, 0, .zero, .zero, .zero, .zero⟩
  else if kAsk m.kind then ⟨m.kind, 0, .zero, 0, m.epoch, m.ballot, .zero, .zero, .zero⟩
  else if m.kind = 4 then ⟨m.kind, 0, .zero, 0, m.epoch, m.ballot, m.had, m.change, .zero⟩
  else if m.kind = 5 then ⟨m.kind, 0, .zero, 0, m.epoch, m.ballot, .zero, m.change, .zero⟩
  else if m.kind = 7 then ⟨m.kind, 0, .zero, 0, 0, .zero, .zero, .zero, m.view⟩
  else ⟨m.kind, m.whose, .zero, 0, 0, .zero, .zero, .zero, m.view⟩
def okM (m : MsgT) : Bool := if kRow m.kind then rightR m.row else if m.kind = 7 ∨ m.kind = 8 then rightV m.view else true
structure OkM (m : MsgT) : Prop where
  kind : 0 ≤ m.kind ∧ m.kind < 10
  whose : 0 ≤ m.whose ∧ m.whose < 5
  row : TameR m.row
  version : Nm m.version
  epoch : Nm m.epoch
  ballot : OkB m.ballot
  had : OkB m.had
  change : OkC m.change
  view : OkV m.view
theorem msg_enc {m : MsgT} (h : OkM m) (r : List UInt8) : readMsgP (encM m ++ r) = some ((normM m, okM m), r) := by
  have hk := h.kind
  have k0 : smallP 10 (encN m.kind ++ r) = some (m.kind, r) := smallP_enc hk.1 hk.2 (by omega) r
  have kk := fun r => smallP_enc hk.1 hk.2 (show m.kind < 9223372036854775808 by omega) r
  have kw := fun r => smallP_enc h.whose.1 h.whose.2 (show m.whose < 9223372036854775808 by have := h.whose; omega) r
  have kv := fun r => numP_encN h.version.1 h.version.2 r
  have ke := fun r => numP_encN h.epoch.1 h.epoch.2 r
  unfold readMsgP encM normM okM
  by_cases c0 : kRow m.kind = true
  · simp only [if_pos c0, encs_cons, encs_nil, List.append_assoc, List.nil_append]
    rw [pb_some (kk _)]; simp only [if_pos c0]; rw [pb_some (kw _), pb_some (rowP_enc h.row _)]; rfl
  simp only [if_neg c0]
  by_cases c1 : m.kind = 1
  · have q : ¬ (m.kind = 7 ∨ m.kind = 8) := by omega
    simp only [if_pos c1, if_neg q, encs_cons, encs_nil, List.append_assoc, List.nil_append]
    rw [pb_some (kk _)]; simp only [if_neg c0, if_pos c1]; rw [pb_some (kv _)]; rfl
  simp only [if_neg c1]
  by_cases c2 : kAsk m.kind = true
  · have q : ¬ (m.kind = 7 ∨ m.kind = 8) := by have := of_decide_eq_true c2; omega
    simp only [if_pos c2, if_neg q, encs_cons, encs_nil, List.append_assoc, List.nil_append]
    rw [pb_some (kk _)]; simp only [if_neg c0, if_neg c1, if_pos c2]; rw [pb_some (ke _), pb_some (ballot_enc h.ballot _)]; rfl
  simp only [if_neg c2]
  by_cases c3 : m.kind = 4
  · have q : ¬ (m.kind = 7 ∨ m.kind = 8) := by omega
    simp only [if_pos c3, if_neg q, encs_cons, encs_nil, List.append_assoc, List.nil_append]
    rw [pb_some (kk _)]; simp only [if_neg c0, if_neg c1, if_neg c2, if_pos c3]; rw [pb_some (ke _), pb_some (ballot_enc h.ballot _), pb_some (ballot_enc h.had _), pb_some (change_enc h.change _)]; rfl
  simp only [if_neg c3]
  by_cases c4 : m.kind = 5
  · have q : ¬ (m.kind = 7 ∨ m.kind = 8) := by omega
    simp only [if_pos c4, if_neg q, encs_cons, encs_nil, List.append_assoc, List.nil_append]
    rw [pb_some (kk _)]; simp only [if_neg c0, if_neg c1, if_neg c2, if_neg c3, if_pos c4]; rw [pb_some (ke _), pb_some (ballot_enc h.ballot _), pb_some (change_enc h.change _)]; rfl
  simp only [if_neg c4]
  by_cases c5 : m.kind = 7
  · have q : m.kind = 7 ∨ m.kind = 8 := .inl c5
    simp only [if_pos c5, if_pos q, encs_cons, encs_nil, List.append_assoc, List.nil_append]
    rw [pb_some (kk _)]; simp only [if_neg c0, if_neg c1, if_neg c2, if_neg c3, if_neg c4, if_pos c5]; rw [pb_some (view_enc h.view _)]; rfl
  have c6 : m.kind = 8 := by
    have n0 : ¬ (m.kind = 0 ∨ m.kind = 2 ∨ m.kind = 9) := fun e => c0 (decide_eq_true e)
    have n2 : ¬ (m.kind = 3 ∨ m.kind = 6) := fun e => c2 (decide_eq_true e)
    omega
  have q : m.kind = 7 ∨ m.kind = 8 := .inr c6
  simp only [if_neg c5, if_pos c6, if_pos q, encs_cons, encs_nil, List.append_assoc, List.nil_append]
  rw [pb_some (kk _)]; simp only [if_neg c0, if_neg c1, if_neg c2, if_neg c3, if_neg c4, if_neg c5, if_pos c6]; rw [pb_some (kw _), pb_some (view_enc h.view _)]; rfl
theorem heir_z (i : Nat) (hi : i < 5) : RowT.zero.heir[i] = 0 := by match i, hi with | 0, _ | 1, _ | 2, _ | 3, _ | 4, _ => rfl
theorem cell_z (k : Nat) (hk : k < 4) : RowT.zero.cells[k] = CellT.zero := by match k, hk with | 0, _ | 1, _ | 2, _ | 3, _ => rfl
theorem left_z (i : Nat) (hi : i < 5) : RowT.zero.left[i] = RowT.zero.cells := by match i, hi with | 0, _ | 1, _ | 2, _ | 3, _ | 4, _ => rfl
theorem tame_rzero : TameR RowT.zero := ⟨⟨by decide, by decide⟩, fun k hk => by rw [cell_z k hk]; exact tame_zero, fun i hi => by rw [heir_z i hi]; decide, fun i k hi hk => by rw [show RowT.zero.left[i][k] = RowT.zero.cells[k] from by rw [left_z i hi], cell_z k hk]; exact tame_zero, fun i hi _ => by rw [left_z i hi, left_z 0 (by decide)]⟩
theorem Ext.if {α : Type} {c : Prop} [Decidable c] {p q : Ps α} (hp : Ext p) (hq : Ext q) : Ext (if c then p else q) := by split <;> assumption
theorem Ext.change : Ext changeP := (Ext.small _).pb fun _ => (Ext.small _).pb fun _ => (Ext.small _).pb fun _ => Ext.pr _
theorem Ext.ballot : Ext ballotP := Ext.num.pb fun _ => (Ext.small _).pb fun _ => Ext.pr _
theorem Ext.view : Ext viewP := Ext.num.pb fun _ => (Ext.small _).pb fun _ => (Ext.small _).pb fun _ => (Ext.small _).pb fun _ => (Ext.small _).pb fun _ => (Ext.small _).pb fun _ => (Ext.small _).pb fun _ => Ext.pr _
theorem Ext.msg : Ext readMsgP := (Ext.small _).pb fun k => Ext.if ((Ext.small _).pb fun _ => Ext.row.pb fun _ => Ext.pr _) (Ext.if (Ext.num.pb fun _ => Ext.pr _) (Ext.if (Ext.num.pb fun _ => Ext.ballot.pb fun _ => Ext.pr _)
  (Ext.if (Ext.num.pb fun _ => Ext.ballot.pb fun _ => Ext.ballot.pb fun _ => Ext.change.pb fun _ => Ext.pr _) (Ext.if (Ext.num.pb fun _ => Ext.ballot.pb fun _ => Ext.change.pb fun _ => Ext.pr _) (Ext.if (Ext.view.pb fun _ => Ext.pr _) (Ext.if ((Ext.small _).pb fun _ => Ext.view.pb fun _ => Ext.pr _) (Ext.pr _)))))))
def normR (m : RecT) : RecT :=
  if m.kind = 0 then ⟨m.kind, 0, m.row, 0, .zero, .zero, .zero⟩
  else if m.kind = 1 then ⟨m.kind, m.whose, m.row, 0, .zero, .zero, .zero⟩
  else if m.kind = 2 then ⟨m.kind, m.whose, .zero, 0, .zero, .zero, .zero⟩
  else if m.kind = 3 then ⟨m.kind, 0, .zero, m.epoch, m.ballot, .zero, .zero⟩
  else if m.kind = 4 then ⟨m.kind, 0, .zero, m.epoch, m.ballot, m.change, .zero⟩
  else ⟨m.kind, 0, .zero, 0, .zero, .zero, m.view⟩
def okRc (m : RecT) : Bool := if m.kind = 0 ∨ m.kind = 1 then rightR m.row else if m.kind = 5 then rightV m.view else true
structure OkRc (m : RecT) : Prop where
  kind : 0 ≤ m.kind ∧ m.kind < 6
  whose : 0 ≤ m.whose ∧ m.whose < 5
  row : TameR m.row
  epoch : Nm m.epoch
  ballot : OkB m.ballot
  change : OkC m.change
  view : OkV m.view
theorem rec_enc {m : RecT} (h : OkRc m) (r : List UInt8) : readRecP (encR m ++ r) = some ((normR m, okRc m), r) := by
  have hk := h.kind
  have kk := fun r => smallP_enc hk.1 hk.2 (show m.kind < 9223372036854775808 by omega) r
  have kw := fun r => smallP_enc h.whose.1 h.whose.2 (show m.whose < 9223372036854775808 by have := h.whose; omega) r
  have ke := fun r => numP_encN h.epoch.1 h.epoch.2 r
  unfold readRecP encR normR okRc
  by_cases c0 : m.kind = 0
  · have q : m.kind = 0 ∨ m.kind = 1 := .inl c0
    simp only [if_pos c0, if_pos q, encs_cons, encs_nil, List.append_assoc, List.nil_append]
    rw [pb_some (kk _)]; simp only [if_pos c0]; rw [pb_some (rowP_enc h.row _)]; rfl
  simp only [if_neg c0]
  by_cases c1 : m.kind = 1
  · have q : m.kind = 0 ∨ m.kind = 1 := .inr c1
    simp only [if_pos c1, if_pos q, encs_cons, encs_nil, List.append_assoc, List.nil_append]
    rw [pb_some (kk _)]; simp only [if_neg c0, if_pos c1]; rw [pb_some (kw _), pb_some (rowP_enc h.row _)]; rfl
  have q : ¬ (m.kind = 0 ∨ m.kind = 1) := by omega
  simp only [if_neg c1, if_neg q]
  by_cases c2 : m.kind = 2
  · have q : ¬ m.kind = 5 := by omega
    simp only [if_pos c2, if_neg q, encs_cons, encs_nil, List.append_assoc, List.nil_append]
    rw [pb_some (kk _)]; simp only [if_neg c0, if_neg c1, if_pos c2]; rw [pb_some (kw _)]; rfl
  simp only [if_neg c2]
  by_cases c3 : m.kind = 3
  · have q : ¬ m.kind = 5 := by omega
    simp only [if_pos c3, if_neg q, encs_cons, encs_nil, List.append_assoc, List.nil_append]
    rw [pb_some (kk _)]; simp only [if_neg c0, if_neg c1, if_neg c2, if_pos c3]; rw [pb_some (ke _), pb_some (ballot_enc h.ballot _)]; rfl
  simp only [if_neg c3]
  by_cases c4 : m.kind = 4
  · have q : ¬ m.kind = 5 := by omega
    simp only [if_pos c4, if_neg q, encs_cons, encs_nil, List.append_assoc, List.nil_append]
    rw [pb_some (kk _)]; simp only [if_neg c0, if_neg c1, if_neg c2, if_neg c3, if_pos c4]; rw [pb_some (ke _), pb_some (ballot_enc h.ballot _), pb_some (change_enc h.change _)]; rfl
  have c5 : m.kind = 5 := by omega
  simp only [if_neg c4, if_pos c5, encs_cons, encs_nil, List.append_assoc, List.nil_append]
  rw [pb_some (kk _)]; simp only [if_neg c0, if_neg c1, if_neg c2, if_neg c3, if_neg c4, if_pos c5]; rw [pb_some (view_enc h.view _)]; rfl
end Api
end

section
namespace Api
open Go Leg Codec

theorem leaveH_rng {c : ChangeT} {i : Nat} {h : Int} (hh : 0 ≤ h ∧ h ≤ 5) (hc : 0 ≤ c.heir ∧ c.heir < 5) : 0 ≤ leaveH c i h ∧ leaveH c i h ≤ 5 := by
  unfold leaveH; split <;> omega
theorem leaveV_get (v : ViewT) (c : ChangeT) (i : Nat) (h : i < 5) : (leaveV v c)[i] = leaveH c i v.heirs[i] := by simp [leaveV]
theorem Rng.zeros {v : ViewT} (h : v.heirs = #v[0, 0, 0, 0, 0]) : Rng v := fun i hi => by
  have : v.heirs[i] = 0 := by
    rw [show v.heirs[i] = (#v[0, 0, 0, 0, 0] : Vector Int 5)[i] from by rw [h]]
    match i, hi with | 0, _ | 1, _ | 2, _ | 3, _ | 4, _ => rfl
  omega
theorem Rng.zero : Rng ViewT.zero := Rng.zeros rfl
theorem Rng.next {v : ViewT} (h : Rng v) (c : ChangeT) : Rng (nextV v c).1 := by
  unfold nextV
  split
  · exact Rng.zero
  rename_i h1
  have hm : 0 ≤ c.heir ∧ c.heir < 5 := by
    simp only [Bool.or_eq_true, Bool.not_eq_true', not_or, Bool.not_eq_false] at h1
    exact of_decide_eq_true h1.2
  split
  · split
    · exact Rng.zero
    · exact h
  · split
    · split
      · exact Rng.zero
      · exact fun i hi => by show 0 ≤ (leaveV v c)[i] ∧ (leaveV v c)[i] ≤ 5; rw [leaveV_get v c i hi]; exact leaveH_rng (h i hi) hm
    · exact Rng.zero
theorem Rng.first : Rng firstV := Rng.zeros rfl
def stepV (v : ViewT) (c : ChangeT) : ViewT := if (nextV v c).2 = 0 then (nextV v c).1 else v
theorem Rng.step {v : ViewT} (h : Rng v) (c : ChangeT) : Rng (stepV v c) := by unfold stepV; split; exact h.next c; exact h
theorem or_bits : ∀ (m : Fin 32) (w u : Fin 5), bitB (orI .i64 ((m.val : Nat) : Int) (2 ^ w.val)) ((u.val : Nat) : Int) = (bitB ((m.val : Nat) : Int) ((u.val : Nat) : Int) || decide (u = w)) ∧ 0 ≤ orI .i64 ((m.val : Nat) : Int) (2 ^ w.val) ∧ orI .i64 ((m.val : Nat) : Int) (2 ^ w.val) < 32 := by decide +kernel
theorem andNot_bits : ∀ (m : Fin 32) (w u : Fin 5), bitB (andNotI .i64 ((m.val : Nat) : Int) (2 ^ w.val)) ((u.val : Nat) : Int) = (bitB ((m.val : Nat) : Int) ((u.val : Nat) : Int) && decide (u ≠ w)) ∧ 0 ≤ andNotI .i64 ((m.val : Nat) : Int) (2 ^ w.val) ∧ andNotI .i64 ((m.val : Nat) : Int) (2 ^ w.val) < 32 := by decide +kernel
structure GoodV (v : ViewT) : Prop where
  epoch : 1 ≤ v.epoch
  mem : 1 ≤ v.members ∧ v.members < 32
  ok : ∀ (i : Nat) (h : i < 5), okH v v.heirs[i] i = true
  rng : Rng v
theorem GoodV.right {v : ViewT} (h : GoodV v) : rightV v = true := by
  unfold rightV
  rw [Bool.and_eq_true, decide_eq_true_iff, decide_eq_true_iff]
  exact ⟨⟨h.epoch, h.mem⟩, h.ok⟩
theorem GoodV.of {v : ViewT} (h : rightV v = true) (hr : Rng v) : GoodV v := by
  unfold rightV at h
  rw [Bool.and_eq_true, decide_eq_true_iff, decide_eq_true_iff] at h
  exact ⟨h.1.1, h.1.2, h.2, hr⟩
theorem memb_or {v v' : ViewT} {w u : Int} (hm : 0 ≤ v.members ∧ v.members < 32) (hw : 0 ≤ w ∧ w < 5) (e : v'.members = orI .i64 v.members (2 ^ w.toNat)) : memb v' u = (memb v u || (machB u && decide (u = w))) ∧ 0 ≤ v'.members ∧ v'.members < 32 := by
  obtain ⟨m, hm', e1⟩ : ∃ m : Nat, m < 32 ∧ v.members = (m : Int) := ⟨v.members.toNat, by omega, by omega⟩
  have hb := or_bits ⟨m, hm'⟩ ⟨w.toNat, by omega⟩
  simp only at hb
  rw [← e1, ← e] at hb
  refine ⟨?_, (hb ⟨0, by decide⟩).2⟩
  by_cases hu : 0 ≤ u ∧ u < 5
  · have h1 := (hb ⟨u.toNat, by omega⟩).1
    simp only at h1
    rw [show ((u.toNat : Nat) : Int) = u by omega] at h1
    have hmu : machB u = true := decide_eq_true hu
    simp only [memb, hmu, Bool.true_and, h1, Fin.mk.injEq]
    congr 1
    rw [decide_eq_decide]; omega
  · have hmu : machB u = false := decide_eq_false hu
    simp [memb, hmu]
theorem memb_andNot {v v' : ViewT} {w u : Int} (hm : 0 ≤ v.members ∧ v.members < 32) (hw : 0 ≤ w ∧ w < 5) (e : v'.members = andNotI .i64 v.members (2 ^ w.toNat)) : memb v' u = (memb v u && decide (u ≠ w)) ∧ 0 ≤ v'.members ∧ v'.members < 32 := by
  obtain ⟨m, hm', e1⟩ : ∃ m : Nat, m < 32 ∧ v.members = (m : Int) := ⟨v.members.toNat, by omega, by omega⟩
  have hb := andNot_bits ⟨m, hm'⟩ ⟨w.toNat, by omega⟩
  simp only at hb
  rw [← e1, ← e] at hb
  refine ⟨?_, (hb ⟨0, by decide⟩).2⟩
  by_cases hu : 0 ≤ u ∧ u < 5
  · have h1 := (hb ⟨u.toNat, by omega⟩).1
    simp only at h1
    rw [show ((u.toNat : Nat) : Int) = u by omega] at h1
    have hmu : machB u = true := decide_eq_true hu
    simp only [memb, hmu, Bool.true_and, h1, ne_eq, Fin.mk.injEq]
    congr 1
    rw [decide_eq_decide]; omega
  · have hmu : machB u = false := decide_eq_false hu
    simp [memb, hmu]
theorem mem_pos {v : ViewT} {u : Int} (h0 : 0 ≤ v.members) (h : memb v u = true) : 1 ≤ v.members := by
  have hb : bitB v.members u = true := by simp only [memb, Bool.and_eq_true] at h; exact h.2
  have : v.members ≠ 0 := fun e => by
    rw [e] at hb
    have := of_decide_eq_true hb
    rw [Int.zero_fdiv] at this; omega
  omega
theorem GoodV.step {v : ViewT} (g : GoodV v) (he : v.epoch < 9223372036854775807) (c : ChangeT) : GoodV (stepV v c) ∧ v.epoch ≤ (stepV v c).epoch ∧ (stepV v c).epoch ≤ v.epoch + 1 := by
  have hw1 : IntKind.i64.wrap (v.epoch + 1) = v.epoch + 1 := wrap_i64 (by have := g.epoch; omega) (by omega)
  by_cases hz : (nextV v c).2 = 0
  rotate_left
  · rw [stepV, if_neg hz]; exact ⟨g, by omega, by omega⟩
  rw [stepV, if_pos hz]
  have hr := g.rng.next c
  unfold nextV at hz hr ⊢
  split at hz
  · exact absurd hz (by decide)
  rename_i h1
  rw [if_neg h1] at hr ⊢
  have hm : machB c.who = true ∧ machB c.heir = true := by
    simp only [Bool.or_eq_true, Bool.not_eq_true', not_or, Bool.not_eq_false] at h1; exact h1
  have hwho := of_decide_eq_true hm.1
  have hheir := of_decide_eq_true hm.2
  split at hz
  · rename_i h2
    rw [if_pos h2] at hr ⊢
    split at hz
    · exact absurd hz (by decide)
    rename_i h3
    rw [if_neg h3] at hr ⊢
    simp only [Bool.or_eq_true, not_or, Bool.not_eq_true] at h3
    have hb := fun u => memb_or (v := v) (v' := ⟨IntKind.i64.wrap (v.epoch + 1), orI .i64 v.members (2 ^ c.who.toNat), v.heirs⟩) (u := u) ⟨by have := g.mem; omega, g.mem.2⟩ hwho rfl
    have hh0 : ∀ (i : Nat) (h : i < 5), (i : Int) = c.who → v.heirs[i] = 0 := fun i h e => by
      have := h3.1
      rw [heirV, dif_pos hwho] at this
      have e2 : c.who.toNat = i := by omega
      simp only [e2] at this
      have hr := g.rng i h
      split at this
      · omega
      · cases this
    refine ⟨⟨by show 1 ≤ IntKind.i64.wrap (v.epoch + 1); rw [hw1]; have := g.epoch; omega, ⟨mem_pos (u := c.who) (hb 0).2.1 (by rw [(hb c.who).1, hm.1]; simp), (hb 0).2.2⟩, fun i h => ?_, hr⟩, by show v.epoch ≤ IntKind.i64.wrap (v.epoch + 1); rw [hw1]; omega, by show IntKind.i64.wrap (v.epoch + 1) ≤ _; rw [hw1]; omega⟩
    have ho := g.ok i h
    unfold okH at ho ⊢
    rw [Bool.or_eq_true, decide_eq_true_iff, Bool.and_eq_true] at ho ⊢
    rcases ho with ho | ⟨h4, h5⟩
    · exact .inl ho
    · by_cases q : (i : Int) = c.who
      · exact .inl (hh0 i h q)
      · refine .inr ⟨by rw [(hb _).1]; show (memb v (v.heirs[i] - 1) || _) = true; rw [h4]; rfl, ?_⟩
        rw [(hb _).1, decide_eq_false q, Bool.and_false, Bool.or_false]; exact h5
  · rename_i h2
    rw [if_neg h2] at hr ⊢
    split at hz
    rotate_left
    · exact absurd hz (by decide)
    rename_i h3
    rw [if_pos h3] at hr ⊢
    split at hz
    · exact absurd hz (by decide)
    rename_i h4
    rw [if_neg h4] at hr ⊢
    simp only [Bool.or_eq_true, Bool.not_eq_true', not_or, Bool.not_eq_false, decide_eq_true_iff] at h4
    obtain ⟨⟨m1, m2⟩, m3⟩ := h4
    have hb := fun u => memb_andNot (v := v) (v' := ⟨IntKind.i64.wrap (v.epoch + 1), andNotI .i64 v.members (2 ^ c.who.toNat), leaveV v c⟩) (u := u) ⟨by have := g.mem; omega, g.mem.2⟩ hwho rfl
    refine ⟨⟨by show 1 ≤ IntKind.i64.wrap (v.epoch + 1); rw [hw1]; have := g.epoch; omega, ⟨mem_pos (u := c.heir) (hb 0).2.1 (by rw [(hb c.heir).1, m2]; simpa using m3), (hb 0).2.2⟩, fun i h => ?_, hr⟩, by show v.epoch ≤ IntKind.i64.wrap (v.epoch + 1); rw [hw1]; omega, by show IntKind.i64.wrap (v.epoch + 1) ≤ _; rw [hw1]; omega⟩
    have ho := g.ok i h
    show okH _ ((leaveV v c)[i]) i = true
    rw [leaveV_get v c i h]
    unfold okH at ho ⊢
    rw [Bool.or_eq_true, decide_eq_true_iff, Bool.and_eq_true] at ho ⊢
    unfold leaveH
    by_cases q : (i : Int) = c.who ∨ v.heirs[i] = c.who + 1
    · rw [if_pos q]
      refine .inr ⟨by rw [(hb _).1, show c.heir + 1 - 1 = c.heir by omega, m2]; simpa using m3, ?_⟩
      rw [(hb _).1]
      rcases q with q | q
      · rw [q]; simp
      · rcases ho with ho | ⟨_, h5⟩
        · omega
        · rw [Bool.not_eq_true'] at h5; rw [h5]; rfl
    · rw [if_neg q]
      rcases ho with ho | ⟨h5, h6⟩
      · exact .inl ho
      · refine .inr ⟨by rw [(hb _).1, h5]; simp; omega, ?_⟩
        rw [Bool.not_eq_true'] at h6
        rw [(hb _).1, h6]; rfl
theorem GoodV.first : GoodV firstV := ⟨by decide, by decide, fun i h => by match i, h with | 0, _ | 1, _ | 2, _ | 3, _ | 4, _ => rfl, Rng.first⟩
end Api
end

section
namespace Api
open Go Leg Codec

def rowMsg (x : RepT) : MsgT := { MsgT.zero with kind := 0, whose := x.id, row := x.own }
def newsMsg (id : Int) (x : RowT) : MsgT := { MsgT.zero with kind := 2, whose := id, row := x }
def bit0 (k w : Int) : Bool := decide (k.fdiv (2 ^ min w.toNat IntKind.i64.bits) % 2 = 0)
def tellL (x : RepT) : List SaidT := ((witL x.id).filter fun w => bit0 x.kept w).map fun w => ⟨w, rowMsg x⟩
def newsTo (id : Int) (x : RowT) (k : Nat) : List SaidT := ((List.range k).filter fun i : Nat => !decide (((i : Nat) : Int) = id)).map fun i : Nat => ⟨((i : Nat) : Int), newsMsg id x⟩
def newsL (id : Int) (x : RowT) : List SaidT := newsTo id x 5
theorem newsTo_succ (id : Int) (x : RowT) (k : Nat) : newsTo id x (k + 1) = newsTo id x k ++ (if ((k : Nat) : Int) = id then [] else [⟨((k : Nat) : Int), newsMsg id x⟩]) := by
  unfold newsTo
  rw [List.range_succ, List.filter_append, List.map_append]
  by_cases h : ((k : Nat) : Int) = id <;> simp [h]
def Alone (x : RepT) : Prop := Rng x.view ∧ ∀ i : Nat, i < 5 → heirV x.view ((i : Nat) : Int) ≠ some x.id
end Api
namespace Api
open Go Leg Codec
def growOf (x : RepT) (o : OpT) : RowT × Int :=
  if o.kind = 0 then rowInc x.own o.key o.n else if o.kind = 1 then rowDec x.own o.key o.n else if o.kind = 2 then (if o.to' ≠ x.id then rowGive x.own o.key o.n o.to' else (.zero, 5)) else (.zero, 5)
def planF (x : RepT) (o : OpT) : RowT × Int × Int :=
  if memb x.view x.id = false then (.zero, 0, 9) else if keyB o.key = false then (.zero, 0, 5) else if o.kind = 3 then (.zero, bookValue x.book o.key, 0) else if x.busy then (.zero, 0, 8)
  else if (growOf x o).2 ≠ 0 then (.zero, 0, (growOf x o).2) else if o.kind ≠ 0 ∧ bookRights x.book x.id o.key < o.n then (.zero, 0, 7) else ((growOf x o).1, 0, 0)
def rowRec (y : RowT) : RecT := { RecT.zero with kind := 0, row := y }
def growF (x : RepT) (y : RowT) (op : Int) : RepT := { x with own := y, busy := true, kept := 0, waits := op }
end Api
namespace Api
open Go Leg Codec
def enterF (x : RepT) (v : ViewT) : RepT := { x with view := v, acc := { AccT.zero with epoch := v.epoch }, vote := .pointer none, round := 0 }
def newRep (id : Int) (lg : Nat) : RepT := enterF { RepT.zero with id := id, log := .pointer (some ⟨lg, 0, none⟩) } firstV
def opsF (x : RepT) : RepT := { x with ops := w64 (x.ops + 1) }
theorem rowRec_len (y : RowT) : (encR (rowRec y)).length ≤ 1760 := by
  have h1 := encRow_len y
  have h2 := encs_len [(0 : Int)]
  simp only [encR, rowRec, if_true, List.length_append, List.length_cons, List.length_nil] at *
  omega
end Api
namespace Api
open Go Leg Codec
def countF (x : RepT) : RepT := { x with busy := false, book := (bookMerge x.book x.id x.own).1, waits := if x.waits > 0 then 0 else x.waits }
def countR (x : RepT) (rs : List ReplyT) : List ReplyT := if x.waits > 0 then rs ++ [⟨x.waits, 0, 0⟩] else rs
def keptB (x : RepT) (from' ver : Int) : Bool := x.busy && decide (ver = x.own.version) && decide (from' ∈ witL x.id)
def keptX (x : RepT) (from' : Int) : RepT := { x with kept := orI .i64 x.kept (IntKind.i64.wrap (1 * 2 ^ min from'.toNat IntKind.i64.bits)) }
def fullB (x : RepT) : Bool := (witL x.id).all fun w => !bit0 x.kept w
def keptS (x : RepT) (from' ver : Int) : RepT := if keptB x from' ver then (if fullB (keptX x from') then countF (keptX x from') else keptX x from') else x
def keptR (x : RepT) (from' ver : Int) (rs : List ReplyT) : List ReplyT := if keptB x from' ver && fullB (keptX x from') then countR x rs else rs
def keptO (x : RepT) (from' ver : Int) : List SaidT := if keptB x from' ver && fullB (keptX x from') then newsL x.id x.own else []
end Api
namespace Api
open Go Leg Codec
def cN (x : RepT) (o : OpT) : RowT × Int × Int := planF (opsF x) o
def doneB (x : RepT) (o : OpT) : Bool := decide ((cN x o).2.2 ≠ 0 ∨ o.kind = 3)
def clientX (x : RepT) (o : OpT) : RepT := if doneB x o then opsF x else growF (opsF x) (cN x o).1 (opsF x).ops
def clientC (x : RepT) (o : OpT) (recs : List (List UInt8)) : List (List UInt8) := if doneB x o then recs else recs ++ [encR (rowRec (cN x o).1)]
def clientR (x : RepT) (o : OpT) (rs : List ReplyT) : List ReplyT := if doneB x o then rs ++ [ReplyT.mk (opsF x).ops (cN x o).2.2 (cN x o).2.1] else rs
def clientO (x : RepT) (o : OpT) : List SaidT := if doneB x o then [] else tellL (growF (opsF x) (cN x o).1 (opsF x).ops)
theorem alone_first {x : RepT} (h : x.view = firstV) : Alone x := by
  unfold Alone
  rw [h]
  refine ⟨Rng.first, fun i hi => ?_⟩
  match i, hi with
  | 0, _ | 1, _ | 2, _ | 3, _ | 4, _ => exact fun e => nomatch (show (none : Option Int) = some x.id from e)
end Api
namespace Api
open Go Leg Codec
theorem keptS_own (y : RepT) (w ver : Int) : (keptS y w ver).own = y.own ∧ (keptS y w ver).id = y.id ∧ (keptS y w ver).view = y.view ∧ (keptS y w ver).log = y.log ∧ (keptS y w ver).ops = y.ops := by
  unfold keptS
  split
  · split <;> exact ⟨rfl, rfl, rfl, rfl, rfl⟩
  · exact ⟨rfl, rfl, rfl, rfl, rfl⟩
end Api
end

section
namespace Leg
open Go Go.ChangeShapes Go.WideShapes Codec Api

section
variable {P : Program} {W : World} {H : Type} {enc : TypeId × Value → H} {B0 : Nat} {spare : Nat → Bool} {held : Bool}
theorem Fits.append {a b : List (Option IntKind)} {x y : List Lit} (h : Fits a x) (g : Fits b y) : Fits (a ++ b) (x ++ y) :=
  ⟨by rw [List.map_append, List.map_append, h.1, g.1], fun l hl => (List.mem_append.1 hl).elim (h.2 l) (g.2 l)⟩
end
end Leg
end

section
namespace Leg
open Go

section
variable {P : Program} {w0 : World} {F : Hl} {n : Nat} {ops : Array Oper} {Q : QQ} {D : List Deferred} {L : List (Nat × Value)} {H : List HP} {o : Oper} {l : List Oper} {d : Nat} {S : World → Prop}
def IsMethod (P : Program) (t : TypeId) (rv : Value) (nm : String) (f : FuncId) : Prop := ∀ w, (method (P.types.size + Made.depth) t rv nm).run P w = .ok (f, rv) w
theorem TL.callI {recv : Operand} {nm : String} {t : TypeId} {rv : Value} {f : FuncId} {xs : Array Operand} {ts : Array TypeId} {vs : List Value} {R : Hl → Prop} {A B : List HP} {p : Value → List HP → Prop} (hw : Want n D ops o L)
    (ho : o.op = .call { callee := .invoke recv nm, args := xs, argTypes := ts }) (hd : o.dst = some d) (hn : Nat.blt d n = true) (hr : evL L recv = some (.iface t rv)) (hm : IsMethod P t rv nm f) (hf : Named P f) (hx : evs L xs.toList = some vs)
    (sp : Does P f (rv :: vs).toArray R A (Ret p)) (hp : ∀ h, sep H h → sep (A ++ B) h) (hR : ∀ g, Dj g F → sep B g → R (jn g F))
    (hret : ∀ v H', p v H' → TL P w0 F n ops Q l D ((d, v) :: L) (H' ++ B)) : TL P w0 F n ops Q (o :: l) D L H :=
  TL.callw hw (fun a w g => by
      have e : xs.map a.eval = vs.toArray := g.evals hx
      have e2 : a.eval recv = .iface t rv := g.eval hr
      have e3 := hm w
      simp [execOp, ho, resolve, invoke, callMethod, e, e2, e3, run_callFunc hf])
    sp hp hR (fun v H' q a g w s m => by rw [hd]; exact hret v H' q _ w (g.put (lb hn) v) s m) (fun _ _ h => h.elim) (fun _ h => h)
theorem TE.retCTT {H' : List HP} {fn : Func} {post : Ending → List HP → Prop} {t t' t2 ty e m b : Nat} {cs : List Value} {z : Nat × Nat} {dt : TypeDesc} {v' v2 : Value} (hr : fn.results = #[.cell t ty, .tmp t', .tmp t2]) (he : lk L t = some (.pointer (some ⟨b, 0, none⟩))) (e' : lk L t' = some v') (e2 : lk L t2 = some v2)
    (hu : P.underlying ty = some dt) (hp : plainT dt = false) (hm : (P.info? ty).map (·.size) = some m) (hR : Rd (Sat H F) b (.cells cs.toArray e z)) (hl : cs.length = m) (hk : ∀ h, sep H h → sep H' h)
    (h : post (.returned (.tuple #[.agg cs.toArray, v', v2])) H') : TE w0 F n (bodyPost P fn (postOf post w0 F)) .ret [] L H := fun a w f s q => by
  have h1 : a.tmps.getD t undef = .pointer (some ⟨b, 0, none⟩) := f.eval (x := .tmp t) he
  have h2 : a.tmps.getD t' undef = v' := f.eval (x := .tmp t') e'
  have h4 : a.tmps.getD t2 undef = v2 := f.eval (x := .tmp t2) e2
  have h3 : (results fn a.tmps).run P w = .ok (.tuple #[.agg cs.toArray, v', v2]) w := by
    have h1' : a.tmps[t]?.getD undef = .pointer (some ⟨b, 0, none⟩) := by simpa using h1
    have h2' : a.tmps[t']?.getD undef = v' := by simpa using h2
    have h4' : a.tmps[t2]?.getD undef = v2 := by simpa using h4
    simp [results, hr, h1', h2', h4', asAddr, run_loadVar_row w b e ty cs.toArray z dt (hR w q) hu (by cases dt <;> simp [plainT] at hp ⊢) (by simp [hm, hl])]
  exact bodyPost_ret h3 f.2.1 ⟨s, H', q.mono hk, h⟩
theorem PV.ifaceNotNil {t t' u : TypeId} {x : Operand} {v : Value} {ms : Array (String × TypeId)} (ho : o.op = .binOp .neq t x (.const .nilIface) t') (ht : P.underlying t = some (.interface ms)) (hx : evL L x = some (.iface u v)) : PV P n D L S o (.bool true) :=
  PV.bin ho hx rfl fun w => by
    have := eqIn_ifaceNil (P := P) (w := w) 9999 (u := u) (v := v) ht
    simp [eqGuard, binOp, Op.equal, Op.maxDepth, this]
end
theorem isI_own (i : Nat) {v : Value} {l : List Int} {e : Nat} {B : List HP} {F : Hl} (hi : Nat.blt i B.length = true) (hH : B.getD i (fun _ => True) = own v l.length (Api.ints l) e 1) : ∀ g, Dj g F → sep B g → IsI .i64 v l (jn g F) := fun g _ s => by
  obtain ⟨h1, h2, d', rfl, a, _⟩ := sep_get i (lb hi) s
  rw [hH] at a
  rcases a with ⟨_, ⟨h0, hn, _⟩ | ⟨g, cap, cur, hv, hh, h3, h4, h5, h6⟩⟩
  · exact .inl ⟨h0, List.eq_nil_of_length_eq_zero hn⟩
  · refine .inr ⟨g, 0, cap, cur.toList, e, (0, 0), hv, h3, by simp only [maxLen] at h4; omega, jn_some (jn_some (by rw [hh]; simp [sg])), fun j hj => ?_⟩
    rw [Nat.mul_one] at h6
    have e1 : (cur.toList.take l.length)[j]? = some (.int .i64 (l.getD j 0)) := by rw [h6]; exact Api.ints_get l j hj
    rw [List.getElem?_take, if_pos hj] at e1
    simpa using e1
end Leg
end

section
namespace Dsk
open Go Leg Codec Api

abbrev Sec := List UInt8
def zs : Sec := List.replicate 64 0
def secV (b : Sec) : Value := .agg (u8s b).toArray
abbrev Secs := List (Int × Sec)
def sget (s : Secs) (k : Int) : Sec := match s with
  | [] => zs
  | (a, b) :: s => if k = a then b else sget s k
def sput (s : Secs) (k : Int) (v : Sec) : Secs := match s with
  | [] => [(k, v)]
  | (a, b) :: s => if k = a then (a, v) :: s else (a, b) :: sput s k v
theorem sget_put (s : Secs) (k j : Int) (v : Sec) : sget (sput s k v) j = if j = k then v else sget s j := by
  induction s with
  | nil => simp [sput, sget]
  | cons p s ih =>
    obtain ⟨a, b⟩ := p
    simp only [sput]
    by_cases h : k = a
    · subst h
      rw [if_pos rfl]
      by_cases h2 : j = k
      · simp [sget, h2]
      · simp [sget, h2]
    · rw [if_neg h]
      simp only [sget]
      by_cases h2 : j = a
      · subst h2
        rw [if_pos rfl, if_pos rfl, if_neg (by omega)]
      · rw [if_neg h2, if_neg h2, ih]
def kvS (s : Secs) : List (Int × Value) := s.map fun p => (p.1, secV p.2)
theorem kget_kvS (s : Secs) (k : Int) : (kget (kvS s) k).getD (secV zs) = secV (sget s k) := by
  induction s with
  | nil => rfl
  | cons p s ih =>
    obtain ⟨a, b⟩ := p
    simp only [kvS, List.map_cons, kget, sget] at ih ⊢
    split
    · rfl
    · exact ih
theorem kput_kvS (s : Secs) (k : Int) (v : Sec) : kput (kvS s) k (secV v) = kvS (sput s k v) := by
  induction s with
  | nil => rfl
  | cons p s ih =>
    obtain ⟨a, b⟩ := p
    simp only [kvS, List.map_cons, kput, sput] at ih ⊢
    split
    · rfl
    · rw [ih]; rfl
def wcell (p : Int × Sec) : List Value := .int .i64 p.1 :: u8s p.2
def wflat (ws : Secs) : List Value := ws.flatMap wcell
def padS (b : List UInt8) : Sec := b ++ List.replicate (64 - b.length) 0
theorem padS_len {b : List UInt8} (h : b.length ≤ 64) : (padS b).length = 64 := by simp [padS]; omega
def Whole (s : Secs) : Prop := ∀ p ∈ s, p.2.length = 64
theorem wcell_len {p : Int × Sec} (h : p.2.length = 64) : (wcell p).length = 65 := by simp [wcell, u8s, h]
theorem wflat_get {ws : Secs} (h : Whole ws) {k : Nat} (hk : k < ws.length) : ((wflat ws).drop (k * 65)).take 65 = wcell ws[k] := by
  induction ws generalizing k with
  | nil => simp at hk
  | cons p ws ih =>
    have h1 := wcell_len (h p (by simp))
    simp only [wflat, List.flatMap_cons] at ih ⊢
    cases k with
    | zero =>
      simp only [Nat.zero_mul, List.drop_zero, List.getElem_cons_zero]
      rw [List.take_append_of_le_length (by omega), List.take_of_length_le (by omega)]
    | succ k =>
      rw [List.drop_append, List.drop_of_length_le (by omega), h1, show (k + 1) * 65 - 65 = k * 65 by omega, List.nil_append]
      simpa using ih (fun q hq => h q (by simp [hq])) (by simpa using hk)
theorem sget_whole {s : Secs} (h : Whole s) (k : Int) : (sget s k).length = 64 := by
  induction s with
  | nil => simp [sget, zs]
  | cons p s ih =>
    obtain ⟨a, b⟩ := p
    simp only [sget]
    split
    · exact h (a, b) (by simp)
    · exact ih fun q hq => h q (by simp [hq])
theorem Whole.put {s : Secs} (h : Whole s) (k : Int) {v : Sec} (hv : v.length = 64) : Whole (sput s k v) := by
  induction s with
  | nil => intro p hp; simp only [sput, List.mem_singleton] at hp; subst hp; exact hv
  | cons p s ih =>
    obtain ⟨a, b⟩ := p
    intro q hq
    simp only [sput] at hq
    split at hq
    · rcases List.mem_cons.1 hq with rfl | hq
      · exact hv
      · exact h q (by simp [hq])
    · rcases List.mem_cons.1 hq with rfl | hq
      · exact h (a, b) (by simp)
      · exact ih (fun q hq => h q (by simp [hq])) q hq
theorem Whole.add {s : Secs} (h : Whole s) (k : Int) {v : Sec} (hv : v.length = 64) : Whole (s ++ [(k, v)]) := fun p hp => by
  rcases List.mem_append.1 hp with hp | hp
  · exact h p hp
  · simp only [List.mem_singleton] at hp; subst hp; exact hv
section
variable {P : Program} {n : Nat} {D : List Deferred} {L : List (Nat × Value)} {S : World → Prop} {o : Oper}
theorem PV.mapNil {t t' k e m : TypeId} {x y : Operand} (ho : o.op = .binOp .eql t x y t') (hu : P.underlying t = some (.map k e)) (hx : evL L x = some (.map (some m))) (hy : evL L y = some (.map none)) : PV P n D L S o (.bool false) :=
  PV.bin ho hx hy fun w => by
    have e : (Op.equal t (.map (some m)) (.map none)).run P w = .ok false w := run_equalIn_map_nil w 9999 t k e (some m) hu
    simp [eqGuard, binOp, e]
end
end Dsk
namespace Dsk
open Go Leg Codec Api
theorem wr_pad {k : Int} {b : List UInt8} (h : b.length ≤ 64) : wr (.int .i64 k :: u8s zs) 1 ((u8s b).take (min b.length 64)) = wcell (k, padS b) := by
  have e : (u8s b).take (min b.length 64) = u8s b := List.take_of_length_le (by rw [u8s_length]; omega)
  rw [e, wr, u8s_length]
  have e2 : (Value.int IntKind.i64 k :: u8s zs).drop (1 + b.length) = u8s (List.replicate (64 - b.length) 0) := by
    rw [show 1 + b.length = b.length + 1 by omega, List.drop_succ_cons]
    rw [u8s, u8s, zs, ← List.map_drop, List.drop_replicate]
  rw [e2]
  simp only [wcell, padS, u8s, List.map_append, List.take_succ_cons, List.take_zero, List.cons_append, List.nil_append]
theorem fold_set (vs : List Value) : ∀ (j : Nat) (pre zeros : List Value), pre.length = j → zeros.length = vs.length →
    ((vs.zipIdx j).foldl (fun (cs : Array Value) (c, i) => cs.setIfInBounds (0 + i) c) (pre ++ zeros).toArray) = (pre ++ vs).toArray := by
  induction vs with
  | nil => intro j pre zeros _ h; rw [List.eq_nil_of_length_eq_zero h]; rfl
  | cons v vs ih =>
    intro j pre zeros hp hz
    match zeros, hz with
    | z :: zeros, hz =>
      rw [List.zipIdx_cons, List.foldl_cons]
      have e : (pre ++ z :: zeros).toArray.setIfInBounds (0 + j) v = ((pre ++ [v]) ++ zeros).toArray := by
        rw [Nat.zero_add, List.setIfInBounds_toArray, List.set_append_right _ _ (by omega), hp, Nat.sub_self, List.set_cons_zero, List.append_assoc]
        rfl
      simp only [e]
      rw [ih (j + 1) (pre ++ [v]) zeros (by simp [hp]) (by simpa using hz), List.append_assoc]
      rfl
theorem fill_whole {zeros : Array Value} {vs : List Value} (h : zeros.size = vs.length) : Instr.fill (fun i => some (i * vs.length, vs.length)) zeros [(0, .agg vs.toArray)] = some vs.toArray := by
  have e := fold_set vs 0 [] zeros.toList rfl (by simpa using h)
  simp only [List.nil_append, Array.toArray_toList] at e
  simp only [Instr.fill, Value.cells, List.size_toArray, Nat.zero_mul, Nat.zero_add, ne_eq, not_true_eq_false, false_or, decide_false, Bool.false_or]
  rw [if_neg (by simp [h])]
  rw [← Array.foldl_toList, Array.toList_zipIdx]
  simp only [Nat.zero_add] at e
  rw [e]
theorem fill_at {zeros : Array Value} {vs : List Value} {size : Nat} (h : vs.length = size) (hz : zeros.size = size) : Instr.fill (fun i => some (i * size, size)) zeros [(0, .agg vs.toArray)] = some vs.toArray := by
  subst h; exact fill_whole hz
theorem wcell_one (p : Int × Sec) : ∀ u ∈ wcell p, u.oneCell' = true := by
  intro u hu
  rcases List.mem_cons.1 hu with rfl | hu
  · rfl
  · exact u8s_one _ u hu
end Dsk
namespace Leg
open Go
section
variable {P : Program} {w0 : World} {F : Hl} {n : Nat} {ops : Array Oper} {Q : QQ} {D : List Deferred} {L : List (Nat × Value)} {H : List HP} {l : List Oper}
end
end Leg
namespace Dsk
open Go Leg Codec Api
def wat (ws : Secs) (k : Nat) : Int × Sec := ws.getD k (0, zs)
theorem wat_eq {ws : Secs} {k : Nat} (hk : k < ws.length) : wat ws k = ws[k] := by simp [wat, List.getD_eq_getElem?_getD, hk]
theorem wat_len {ws : Secs} (h : Whole ws) {k : Nat} (hk : k < ws.length) : (wat ws k).2.length = 64 := by rw [wat_eq hk]; exact h _ (List.getElem_mem hk)
theorem wflat_atN {ws : Secs} (h : Whole ws) {k : Nat} (hk : k < ws.length) : ((wflat ws).drop (k * 65)).take 65 = wcell (wat ws k) := by rw [wat_eq hk]; exact wflat_get h hk
theorem wflat_at0 {ws : Secs} (h : Whole ws) {k : Nat} (hk : k < ws.length) : (wflat ws)[k * 65]? = some (.int .i64 (wat ws k).1) := by
  have e := congrArg (fun l : List Value => l[0]?) (wflat_atN h hk)
  simpa [wcell] using e
theorem wflat_at1 {ws : Secs} (h : Whole ws) {k : Nat} (hk : k < ws.length) : ((wflat ws).drop (k * 65 + 1)).take 64 = u8s (wat ws k).2 := by
  have e := congrArg (fun l : List Value => l.drop 1) (wflat_atN h hk)
  simp only [List.drop_take, List.drop_drop, wcell, List.drop_succ_cons, List.drop_zero] at e
  exact e
theorem wcell_tail {p : Int × Sec} (h : p.2.length = 64) : ((wcell p).drop 1).take 64 = u8s p.2 := by
  simp only [wcell, List.drop_succ_cons, List.drop_zero]
  exact List.take_of_length_le (by rw [u8s_length, h]; exact Nat.le_refl _)
theorem wcell_tailN {p : Int × Sec} {c : Nat} (h : p.2.length = 64) (hc : c ≤ 64) : ((wcell p).drop 1).take (min c 64) = (u8s p.2).take c := by
  simp only [wcell, List.drop_succ_cons, List.drop_zero]
  congr 1; omega
theorem take_all {l : List Value} {n : Nat} (h : l.length = n) : (l.drop 0).take n = l := by rw [List.drop_zero, List.take_of_length_le (by omega)]
def layN (s ws : Secs) : Nat → Secs
  | 0 => s
  | k + 1 => sput (layN s ws k) (wat ws k).1 (wat ws k).2
theorem Whole.lay {s ws : Secs} (h : Whole s) (hw : Whole ws) : ∀ k, k ≤ ws.length → Whole (layN s ws k)
  | 0, _ => h
  | k + 1, hk => (Whole.lay h hw k (by omega)).put _ (wat_len hw (by omega))
def tornS (old new : Sec) (c : Nat) : Sec := new.take c ++ old.drop c
theorem tornS_len {old new : Sec} {c : Nat} (h1 : old.length = 64) (h2 : new.length = 64) : (tornS old new c).length = 64 := by simp [tornS]; omega
def cutN (n : Int) : Nat := (min (max n 0) 64).toNat
theorem cutN_eq (n : Int) : min (max n 0) 64 = ((cutN n : Nat) : Int) := by unfold cutN; omega
theorem cutN_le (n : Int) : cutN n ≤ 64 := by unfold cutN; omega
def crashStep (mask torn : Int) (c : Nat) (s : Secs) (k : Nat) (p : Int × Sec) : Secs :=
  if (k : Int) = torn then sput s p.1 (tornS (sget s p.1) p.2 c) else if mask.fdiv (2 ^ (k % 32)) % 2 = 1 then sput s p.1 p.2 else s
def crashN (mask torn : Int) (c : Nat) (s ws : Secs) : Nat → Secs
  | 0 => s
  | k + 1 => crashStep mask torn c (crashN mask torn c s ws k) k (wat ws k)
theorem Whole.crash {mask torn : Int} {c : Nat} {s ws : Secs} (h : Whole s) (hw : Whole ws) : ∀ k, k ≤ ws.length → Whole (crashN mask torn c s ws k)
  | 0, _ => h
  | k + 1, hk => by
    have ih := Whole.crash (mask := mask) (torn := torn) (c := c) h hw k (by omega)
    simp only [crashN, crashStep]
    split
    · exact ih.put _ (tornS_len (sget_whole ih _) (wat_len hw (by omega)))
    · split
      · exact ih.put _ (wat_len hw (by omega))
      · exact ih
def readN (s ws : Secs) (at' : Int) : Nat → Sec
  | 0 => sget s at'
  | k + 1 => if (wat ws k).1 = at' then (wat ws k).2 else readN s ws at' k
theorem readN_len {s ws : Secs} (h : Whole s) (hw : Whole ws) (at' : Int) : ∀ k, k ≤ ws.length → (readN s ws at' k).length = 64
  | 0, _ => sget_whole h _
  | k + 1, hk => by
    simp only [readN]
    split
    · exact wat_len hw (by omega)
    · exact readN_len h hw at' k (by omega)
theorem readN_hit {s ws : Secs} {at' : Int} {k : Nat} (h : (wat ws k).1 = at') : readN s ws at' (k + 1) = (wat ws k).2 := by simp [readN, h]
theorem readN_miss {s ws : Secs} {at' : Int} {k : Nat} (h : (wat ws k).1 ≠ at') : readN s ws at' (k + 1) = readN s ws at' k := by simp [readN, h]
theorem torn_copy {old new : Sec} {c m : Nat} (hc : c ≤ 64) (h1 : old.length = 64) (h2 : new.length = 64) (hm : m = c) : wr (u8s old) 0 (((u8s new).take c).take m) = u8s (tornS old new c) := by
  subst hm
  have : ((u8s new).take m).length = m := by rw [List.length_take, u8s_length]; omega
  rw [List.take_of_length_le (by omega), wr, this, List.take_zero, List.nil_append, Nat.zero_add]
  simp [u8s, tornS, List.map_take, List.map_drop]
structure DS where
  s : Secs
  ws : Secs
  ar : Bool
  lf : Int
  dn : Bool
structure DS.Ok (D : DS) : Prop where
  s : Whole D.s
  ws : Whole D.ws
  lf : 0 ≤ D.lf ∧ D.lf ≤ 9223372036854775807
def DS.new : DS := ⟨[], [], false, 0, false⟩
def DS.write (D : DS) (at' : Int) (bs : List UInt8) : Int × DS :=
  if at' < 0 ∨ 2048 ≤ at' ∨ 64 < bs.length then (5, D)
  else if D.dn = true ∨ (D.ar = true ∧ D.lf = 0) then (4, { D with dn := true })
  else (0, { D with ws := D.ws ++ [(at', padS bs)], lf := if D.ar = true then D.lf - 1 else D.lf, dn := false })
def DS.sync (D : DS) : Int × DS := if D.dn = true then (4, D) else (0, { D with s := layN D.s D.ws D.ws.length, ws := [] })
def DS.crash (D : DS) (mask torn n : Int) : DS := ⟨crashN mask torn (cutN n) D.s D.ws D.ws.length, [], false, 0, false⟩
def DS.read (D : DS) (at' : Int) : Sec := readN D.s D.ws at' D.ws.length
theorem whole_nil : Whole [] := fun _ h => absurd h (by simp)
theorem DS.new_ok : DS.new.Ok := ⟨whole_nil, whole_nil, ⟨by decide, by decide⟩⟩
theorem DS.write_ok {D : DS} (h : D.Ok) (at' : Int) (bs : List UInt8) : (D.write at' bs).2.Ok := by
  unfold DS.write
  split
  · exact h
  · split
    · exact ⟨h.s, h.ws, h.lf⟩
    · rename_i h1 h2
      refine ⟨h.s, h.ws.add _ (padS_len (by omega)), ?_⟩
      have := h.lf
      show 0 ≤ (if D.ar = true then D.lf - 1 else D.lf) ∧ (if D.ar = true then D.lf - 1 else D.lf) ≤ 9223372036854775807
      split <;> rename_i h3
      · have : D.lf ≠ 0 := fun q => h2 (.inr ⟨h3, q⟩)
        exact ⟨by omega, by omega⟩
      · exact this
theorem DS.sync_ok {D : DS} (h : D.Ok) : D.sync.2.Ok := by
  unfold DS.sync
  split
  · exact h
  · exact ⟨h.s.lay h.ws _ (Nat.le_refl _), whole_nil, h.lf⟩
theorem DS.crash_ok {D : DS} (h : D.Ok) (mask torn n : Int) : (D.crash mask torn n).Ok := ⟨h.s.crash h.ws _ (Nat.le_refl _), whole_nil, ⟨by simp [DS.crash], by simp [DS.crash]⟩⟩
theorem DS.read_len {D : DS} (h : D.Ok) (at' : Int) : (D.read at').length = 64 := readN_len h.s h.ws _ _ (Nat.le_refl _)
theorem DS.write_ws {D : DS} {at' : Int} {bs : List UInt8} : (D.write at' bs).2.ws.length ≤ D.ws.length + 1 := by
  unfold DS.write
  split
  · simp
  · split
    · simp
    · simp
abbrev diskP (DT WT : Nat) (d : Nat) (D : DS) : HP := pack fun x : Nat × Value => [blkA d [.map (some x.1), x.2, .bool D.ar, .int .i64 D.lf, .bool D.dn] DT, mapP x.1 (kvS D.s), own x.2 D.ws.length (wflat D.ws) WT 65]
end Dsk
end

section
namespace Go.Proofs.YtobdfjdoilnfcaaGreat

open Go Leg Codec Api Dsk

set_option maxRecDepth 100000

theorem dr_down_does (d m : Nat) (wv : Value) (ar dn : Bool) (lf : Int) :
    Leg.Does Tryz.prog 40 #[(.pointer (some ⟨d, 0, none⟩))] (fun _ => True) [blkA d [(.map (some m)), wv, (.bool (ar)), (.int .i64 (lf)), (.bool (dn))] 125] (Ret (fun v H => v = .bool dn ∧ H = [blkA d [(.map (some m)), wv, (.bool (ar)), (.int .i64 (lf)), (.bool (dn))] 125])) := by
 refine Leg.Does.body (n := 7) Tryz.func40 rfl rfl rfl (fun w0 F hF => ?_)
 refine sr fun _ J1 => ?_
 refine PS ?_
 refine nx J1 (sr fun _ J2 => ?_)
 refine PS ?_
 refine PS ?_
 refine FA 4 Tryz.underlying125 sz4 ?_
 refine LA 0 Tryz.underlying4 ?_
 refine PS ?_
 refine nx J2 ?_
 refine TC.ret ?_
 refine WK [0] ?_
 refine TE.ret1 rfl rfl ?_
 exact ⟨rfl, rfl⟩
theorem dr_new_does  :
    Leg.Does Tryz.prog 37 #[] (fun _ => True) [] (Ret (fun v H => ∃ d m, v = .pointer (some ⟨d, 0, none⟩) ∧ H = [blkA d [(.map (some m)), (.slice none 0 0), (.bool false), (.int .i64 0), (.bool false)] 125, mapP m ([])])) := by
 refine Leg.Does.body (n := 4) Tryz.func37 rfl rfl rfl (fun w0 F hF => ?_)
 refine sr fun _ J1 => ?_
 refine PS ?_
 refine nx J1 (sr fun _ J2 => ?_)
 refine TL.makeMap (Want.plain rfl) rfl rfl rfl (fun m1 => ?_)
 refine tp (PV.build (cells := #[(.map (some m1)), (.slice none 0 0), (.bool false), (.int .i64 0), (.bool false)]) rfl rfl (by as_aux_lemma => kernel_rfl)) ?_
 refine TL.box (Want.plain rfl) rfl rfl rfl rfl (fun b3 => ?_)
 refine PS ?_
 refine nx J2 ?_
 refine TC.ret ?_
 refine WK [0, 0] ?_
 refine TE.ret1 rfl rfl ?_
 exact ⟨b3, m1, rfl, rfl⟩
theorem mixedD : Tryz.prog.follows .mixedOrders = true := by kernel_rfl

theorem dr_last_does (d m : Nat) (wv : Value) (s : Secs) (ar dn : Bool) (lf at' : Int) (b : List UInt8) (hb : b.length = 64) :
    Leg.Does Tryz.prog 86 #[(.pointer (some ⟨d, 0, none⟩)), (.int .i64 (at')), (.agg (u8s b).toArray)] (fun _ => True) [blkA d [(.map (some m)), wv, (.bool (ar)), (.int .i64 (lf)), (.bool (dn))] 125, mapP m (kvS s)] (Ret (fun _ H => H = [blkA d [(.map (some m)), wv, (.bool (ar)), (.int .i64 (lf)), (.bool (dn))] 125, mapP m (kvS (sput s at' b))])) := by
 refine Leg.Does.body (n := 21) Tryz.func86 rfl rfl rfl (fun w0 F hF => ?_)
 refine sr fun _ J1 => ?_
 refine TL.box (Want.plain rfl) rfl rfl rfl rfl (fun b5 => ?_)
 change TL _ _ _ _ _ _ _ _ _ [blkA b5 (u8s b) 109, blkA d [(.map (some m)), wv, (.bool (ar)), (.int .i64 (lf)), (.bool (dn))] 125, mapP m (kvS s)]
 refine nx J1 ?_
 refine TC.seq fun _ J2 => ?_
 refine sr fun _ J3 => ?_
 refine PS ?_
 refine PS ?_
 refine FA 0 Tryz.underlying125 sz122 ?_
 refine LA 1 Tryz.underlying122 ?_
 refine tp (PV.mapNil rfl Tryz.underlying122 rfl rfl) ?_
 refine nx J3 ?_
 refine CN ?_
 refine CX J2 ?_
 refine D2 1 0 mixedD ?_
 refine PD 0 ?_
 refine PD 1 ?_
 refine FD 2 0 Tryz.underlying125 sz122 ?_
 refine ta 3 rfl (PV.load1 (v := (.map (some m))) rfl Tryz.underlying122 rfl rfl (fun _ h => h.2.1) rfl) ?_
 refine PD 4 ?_
 refine ta 5 rfl (PV.loadN (vs := u8s b) rfl Tryz.underlying109 rfl sz109 rfl (fun _ h => h.2.2.1) (by rw [u8s_length]; exact hb) (by rw [List.drop_zero, List.take_of_length_le (by rw [u8s_length, hb]; exact Nat.le_refl _)])) ?_
 refine TD.all [6] (by kernel_rfl) rfl ?_
 refine AllT.cons rfl ?_ ?_
 refine TL.mapUpdate (i := 2) (H' := [blkA b5 (u8s b) 109, blkA d [(.map (some m)), wv, (.bool (ar)), (.int .i64 (lf)), (.bool (dn))] 125, mapP m (kvS (sput s at' b))]) (Want.plain rfl) rfl rfl Tryz.underlying122 Tryz.underlying3 rfl rfl rfl rfl rfl (congrArg (fun q => List.set _ 2 (mapP m q)) (kput_kvS _ _ _)) ?_
 refine TL.nil ?_
 refine E2 1 0 ?_
 refine TD.done (by kernel_rfl) ?_
 refine WK [1, 1] ?_
 refine TE.end0 rfl ?_
 exact rfl
 exact AllT.nil
theorem dr_write_does (d m : Nat) (wv : Value) (ws : Secs) (ar dn : Bool) (lf at' : Int) (x : Value) (bs : List UInt8) (hl : 0 ≤ lf ∧ lf ≤ 9223372036854775807) (hw : ws.length ≤ 1000000000) :
    Leg.Does Tryz.prog 56 #[(.pointer (some ⟨d, 0, none⟩)), (.int .i64 (at')), x] (IsW x bs) [blkA d [(.map (some m)), wv, (.bool (ar)), (.int .i64 (lf)), (.bool (dn))] 125, own wv (ws.length) (wflat ws) 156 65] (Ret (fun v H => if at' < 0 ∨ 2048 ≤ at' ∨ 64 < bs.length then v = .int .i64 5 ∧ H = [blkA d [(.map (some m)), wv, (.bool (ar)), (.int .i64 (lf)), (.bool (dn))] 125, own wv (ws.length) (wflat ws) 156 65] else if dn = true ∨ (ar = true ∧ lf = 0) then v = .int .i64 4 ∧ H = [blkA d [(.map (some m)), wv, (.bool (ar)), (.int .i64 (lf)), (.bool true)] 125, own wv (ws.length) (wflat ws) 156 65] else v = .int .i64 0 ∧ ∃ wv', H = [blkA d [(.map (some m)), wv', (.bool (ar)), (.int .i64 ((if ar = true then lf - 1 else lf))), (.bool false)] 125, own wv' ((ws ++ [(at', padS bs)]).length) (wflat (ws ++ [(at', padS bs)])) 156 65])) := by
 refine Leg.Does.body (n := 64) Tryz.func56 rfl rfl rfl (fun w0 F hF => ?_)
 refine sr fun _ J1 => ?_
 refine PS ?_
 refine nx J1 ?_
 clear J1
 refine TC.seq fun _ J2 => ?_
 refine sr fun _ J3 => ?_
 refine PS ?_
 refine PS ?_
 refine TL.dec (fun h9 => ?_) (fun h9 => ?_)
 refine PS ?_
 refine UT ?_
 refine UT ?_
 refine PS ?_
 refine PS ?_
 refine UT ?_
 refine UT ?_
 refine UT ?_
 refine PS ?_
 refine nx J3 ?_
 clear J3
 refine CY ?_
 refine sr fun _ J4 => ?_
 refine PS ?_
 refine nx J4 ?_
 clear J4
 refine TC.ret ?_
 refine TE.passRet ?_
 clear J2
 refine WK [0, 0] ?_
 refine TE.ret1 rfl rfl ?_
 show (if _ then _ else _)
 first
   | (rw [if_pos (by omega)]; exact ⟨rfl, rfl⟩)
   | (rw [if_neg (by omega), if_pos (by simp_all)]; exact ⟨rfl, by simp_all <;> rfl⟩)
   | (rw [if_neg (by omega), if_neg (by simp_all)]; exact ⟨rfl, v61, by simp_all <;> rfl⟩)
 refine PS ?_
 refine PS ?_
 refine PS ?_
 refine TL.dec (fun h12 => ?_) (fun h12 => ?_)
 refine PS ?_
 refine PS ?_
 refine UT ?_
 refine UT ?_
 refine UT ?_
 refine PS ?_
 refine nx J3 ?_
 clear J3
 refine CY ?_
 refine sr fun _ J5 => ?_
 refine PS ?_
 refine nx J5 ?_
 clear J5
 refine TC.ret ?_
 refine TE.passRet ?_
 clear J2
 refine WK [0, 0] ?_
 refine TE.ret1 rfl rfl ?_
 show (if _ then _ else _)
 first
   | (rw [if_pos (by omega)]; exact ⟨rfl, rfl⟩)
   | (rw [if_neg (by omega), if_pos (by simp_all)]; exact ⟨rfl, by simp_all <;> rfl⟩)
   | (rw [if_neg (by omega), if_neg (by simp_all)]; exact ⟨rfl, v61, by simp_all <;> rfl⟩)
 refine PS ?_
 refine PS ?_
 refine PS ?_
 refine tq (PV.lenV rfl Tryz.underlying72 rfl hF.len) ?_
 refine PS ?_
 refine TL.dec (fun h17 => ?_) (fun h17 => ?_)
 refine PS ?_
 refine nx J3 ?_
 clear J3
 refine CY ?_
 refine sr fun _ J6 => ?_
 refine PS ?_
 refine nx J6 ?_
 clear J6
 refine TC.ret ?_
 refine TE.passRet ?_
 clear J2
 refine WK [0, 0] ?_
 refine TE.ret1 rfl rfl ?_
 show (if _ then _ else _)
 first
   | (rw [if_pos (by omega)]; exact ⟨rfl, rfl⟩)
   | (rw [if_neg (by omega), if_pos (by simp_all)]; exact ⟨rfl, by simp_all <;> rfl⟩)
   | (rw [if_neg (by omega), if_neg (by simp_all)]; exact ⟨rfl, v61, by simp_all <;> rfl⟩)
 refine PS ?_
 refine nx J3 ?_
 clear J3
 refine CN ?_
 refine CX J2 ?_
 clear J2
 refine TC.seq fun _ J7 => ?_
 refine sr fun _ J8 => ?_
 refine PS ?_
 refine PS ?_
 refine FA 2 Tryz.underlying125 sz4 ?_
 refine LA 0 Tryz.underlying4 ?_
 refine TL.decB (fun h22 => ?_) (fun h22 => ?_)
 refine PS ?_
 refine PS ?_
 refine PS ?_
 refine FA 3 Tryz.underlying125 sz3 ?_
 refine LA 0 Tryz.underlying3 ?_
 refine PS ?_
 refine TL.dec (fun h28 => ?_) (fun h28 => ?_)
 refine PS ?_
 refine nx J8 ?_
 clear J8
 refine CY ?_
 refine TC.region ?_
 refine PS ?_
 refine PS ?_
 refine FA 4 Tryz.underlying125 sz4 ?_
 refine S0 0 sz4 ?_
 refine nx J7 ?_
 clear J7
 refine TC.seq fun _ J9 => ?_
 refine sr fun _ J10 => ?_
 refine PS ?_
 refine PS ?_
 refine FA 4 Tryz.underlying125 sz4 ?_
 refine LA 0 Tryz.underlying4 ?_
 refine nx J10 ?_
 clear J10
 refine CY ?_
 refine sr fun _ J11 => ?_
 refine PS ?_
 refine nx J11 ?_
 clear J11
 refine TC.ret ?_
 refine TE.passRet ?_
 clear J9
 refine WK [0, 0] ?_
 refine TE.ret1 rfl rfl ?_
 show (if _ then _ else _)
 first
   | (rw [if_pos (by omega)]; exact ⟨rfl, rfl⟩)
   | (rw [if_neg (by omega), if_pos (by simp_all)]; exact ⟨rfl, by simp_all <;> rfl⟩)
   | (rw [if_neg (by omega), if_neg (by simp_all)]; exact ⟨rfl, v61, by simp_all <;> rfl⟩)
 refine PS ?_
 refine nx J8 ?_
 clear J8
 refine CN ?_
 refine CX J7 ?_
 clear J7
 refine TC.seq fun _ J12 => ?_
 refine sr fun _ J13 => ?_
 refine PS ?_
 refine PS ?_
 refine FA 4 Tryz.underlying125 sz4 ?_
 refine LA 0 Tryz.underlying4 ?_
 refine TL.decB (fun h36 => ?_) (fun h36 => ?_)
 refine nx J13 ?_
 clear J13
 refine CY ?_
 refine sr fun _ J14 => ?_
 refine PS ?_
 refine nx J14 ?_
 clear J14
 refine TC.ret ?_
 refine TE.passRet ?_
 clear J12
 refine WK [0, 0] ?_
 refine TE.ret1 rfl rfl ?_
 show (if _ then _ else _)
 first
   | (rw [if_pos (by omega)]; exact ⟨rfl, rfl⟩)
   | (rw [if_neg (by omega), if_pos (by simp_all)]; exact ⟨rfl, by simp_all <;> rfl⟩)
   | (rw [if_neg (by omega), if_neg (by simp_all)]; exact ⟨rfl, v61, by simp_all <;> rfl⟩)
 refine nx J13 ?_
 clear J13
 refine CN ?_
 refine CX J12 ?_
 clear J12
 refine TC.seq fun _ J15 => ?_
 refine sr fun _ J16 => ?_
 refine PS ?_
 refine PS ?_
 refine FA 2 Tryz.underlying125 sz4 ?_
 refine LA 0 Tryz.underlying4 ?_
 refine TL.decB (fun h40 => ?_) (fun h40 => ?_)
 refine nx J16 ?_
 clear J16
 refine CY ?_
 refine TC.region ?_
 refine PS ?_
 refine PS ?_
 refine FA 3 Tryz.underlying125 sz3 ?_
 refine LA 0 Tryz.underlying3 ?_
 refine tp (PV.sub rfl rfl rfl (wrap_i64 (by omega) (by omega))) ?_
 refine PS ?_
 refine FA 3 Tryz.underlying125 sz3 ?_
 refine S0 0 sz3 ?_
 refine nx J15 ?_
 clear J15
 refine sr fun _ J17 => ?_
 refine PS ?_
 refine tp (PV.build (cells := #[(.int .i64 (at')), (.int .u8 0), (.int .u8 0), (.int .u8 0), (.int .u8 0), (.int .u8 0), (.int .u8 0), (.int .u8 0), (.int .u8 0), (.int .u8 0), (.int .u8 0), (.int .u8 0), (.int .u8 0), (.int .u8 0), (.int .u8 0), (.int .u8 0), (.int .u8 0), (.int .u8 0), (.int .u8 0), (.int .u8 0), (.int .u8 0), (.int .u8 0), (.int .u8 0), (.int .u8 0), (.int .u8 0), (.int .u8 0), (.int .u8 0), (.int .u8 0), (.int .u8 0), (.int .u8 0), (.int .u8 0), (.int .u8 0), (.int .u8 0), (.int .u8 0), (.int .u8 0), (.int .u8 0), (.int .u8 0), (.int .u8 0), (.int .u8 0), (.int .u8 0), (.int .u8 0), (.int .u8 0), (.int .u8 0), (.int .u8 0), (.int .u8 0), (.int .u8 0), (.int .u8 0), (.int .u8 0), (.int .u8 0), (.int .u8 0), (.int .u8 0), (.int .u8 0), (.int .u8 0), (.int .u8 0), (.int .u8 0), (.int .u8 0), (.int .u8 0), (.int .u8 0), (.int .u8 0), (.int .u8 0), (.int .u8 0), (.int .u8 0), (.int .u8 0), (.int .u8 0), (.int .u8 0)]) rfl rfl (by as_aux_lemma => kernel_rfl)) ?_
 refine TL.alloc (Want.plain rfl) rfl rfl rfl z156 (fun b7 => ?_)
 refine TL.store (vs := [(.int .i64 (at')), (.int .u8 0), (.int .u8 0), (.int .u8 0), (.int .u8 0), (.int .u8 0), (.int .u8 0), (.int .u8 0), (.int .u8 0), (.int .u8 0), (.int .u8 0), (.int .u8 0), (.int .u8 0), (.int .u8 0), (.int .u8 0), (.int .u8 0), (.int .u8 0), (.int .u8 0), (.int .u8 0), (.int .u8 0), (.int .u8 0), (.int .u8 0), (.int .u8 0), (.int .u8 0), (.int .u8 0), (.int .u8 0), (.int .u8 0), (.int .u8 0), (.int .u8 0), (.int .u8 0), (.int .u8 0), (.int .u8 0), (.int .u8 0), (.int .u8 0), (.int .u8 0), (.int .u8 0), (.int .u8 0), (.int .u8 0), (.int .u8 0), (.int .u8 0), (.int .u8 0), (.int .u8 0), (.int .u8 0), (.int .u8 0), (.int .u8 0), (.int .u8 0), (.int .u8 0), (.int .u8 0), (.int .u8 0), (.int .u8 0), (.int .u8 0), (.int .u8 0), (.int .u8 0), (.int .u8 0), (.int .u8 0), (.int .u8 0), (.int .u8 0), (.int .u8 0), (.int .u8 0), (.int .u8 0), (.int .u8 0), (.int .u8 0), (.int .u8 0), (.int .u8 0), (.int .u8 0)]) (i := 0) (Want.plain rfl) rfl rfl rfl rfl rfl sz156 (by simp [Value.oneCell']) rfl rfl (lbe rfl) rfl rfl ?_
 refine nx J17 ?_
 clear J17
 refine sr fun _ J18 => ?_
 refine FA 1 Tryz.underlying156 sz109 ?_
 refine tp (PV.sliceArr rfl Tryz.underlying109 sz5 rfl) ?_
 refine PS ?_
 refine TL.copy (i := 0) (m := bs.length) (news := (u8s bs)) (H' := [blkA b7 (wcell (at', padS bs)) 156, blkA d [(.map (some m)), wv, (.bool (ar)), (.int .i64 (lf - 1)), (.bool (dn))] 125, own wv (ws.length) (wflat ws) 156 65]) (Want.plain rfl) rfl rfl rfl Tryz.underlying72 sz5 rfl rfl rfl rfl (fun _ _ => hF.src (fun _ h => Frm.of h)) (u8s_one _) (by show 1 + min bs.length 64 ≤ 65; omega) (wr_pad (by omega)) rfl ?_
 refine nx J18 ?_
 clear J18
 refine TC.seq fun _ J19 => ?_
 refine D1 0 mixedD ?_
 refine PD 0 ?_
 refine PD 1 ?_
 refine PD 2 ?_
 refine FD 3 1 Tryz.underlying125 sz123 ?_
 refine ta 5 rfl (PV.loadN (vs := wcell (at', padS bs)) rfl Tryz.underlying156 rfl sz156 rfl (fun _ h => h.2.1) (wcell_len (padS_len (by omega))) (by rw [List.drop_zero, List.take_of_length_le (by rw [(wcell_len (padS_len (by omega)))]; exact Nat.le_refl _)])) ?_
 refine TD.all [4, 6] (by kernel_rfl) rfl ?_
 refine AllT.cons rfl ?_ ?_
 refine LA 1 Tryz.underlying123 ?_
 refine TL.nil ?_
 refine E1 0 ?_
 refine TD.all [6] (by kernel_rfl) rfl ?_
 refine AllT.cons rfl ?_ ?_
 refine TL.buildSlice (cells := (wcell (at', padS bs)).toArray) (Want.plain rfl) rfl rfl rfl Tryz.underlying123 in156 rfl rfl rfl (fill_at (wcell_len (padS_len (by omega))) (by simp)) (fun b60 => ?_)
 change TL _ _ _ _ _ _ _ _ _ [blkA b60 (wcell (at', padS bs)) 156, blkA b7 (wcell (at', padS bs)) 156, blkA d [(.map (some m)), wv, (.bool (ar)), (.int .i64 (lf - 1)), (.bool (dn))] 125, own wv (ws.length) (wflat ws) 156 65]
 refine TL.nil ?_
 refine E1 1 ?_
 refine TD.all [7] (by kernel_rfl) rfl ?_
 refine AllT.cons rfl ?_ ?_
 refine TL.append (k := 3) (news := wcell (at', padS bs)) (nn' := (ws ++ [(at', padS bs)]).length) (xs' := wflat (ws ++ [(at', padS bs)])) (Want.plain rfl) rfl rfl rfl Tryz.underlying123 in156 rfl rfl rfl rfl rfl rfl (fun _ _ => Src.rd (wcell_len (padS_len (by omega))) (RO 0) (by rw [List.drop_zero, List.take_of_length_le (Nat.le_refl _)])) (wcell_one _) (by simp only [maxLen]; omega) (by omega) (by simp) (by simp [wflat]) (fun v61 ov61 => ?_)
 refine TL.nil ?_
 refine E1 1 ?_
 refine PD 8 ?_
 refine FD 9 1 Tryz.underlying125 sz123 ?_
 refine TD.all [10] (by kernel_rfl) rfl ?_
 refine AllT.cons rfl ?_ ?_
 refine TL.store1 (i := 2) (Want.plain rfl) rfl rfl rfl rfl ov61 sz123 rfl rfl (lb rfl) rfl rfl ?_
 refine TL.nil ?_
 refine E1 1 ?_
 refine TD.done (by kernel_rfl) ?_
 refine TE.next J19 ?_
 clear J19
 refine sr fun _ J20 => ?_
 refine PS ?_
 refine nx J20 ?_
 clear J20
 refine TC.ret ?_
 refine WK [2, 2] ?_
 refine TE.ret1 rfl rfl ?_
 show (if _ then _ else _)
 first
   | (rw [if_pos (by omega)]; exact ⟨rfl, rfl⟩)
   | (rw [if_neg (by omega), if_pos (by simp_all)]; exact ⟨rfl, by simp_all <;> rfl⟩)
   | (rw [if_neg (by omega), if_neg (by simp_all)]; exact ⟨rfl, v61, by simp_all <;> rfl⟩)
 exact AllT.nil
 exact AllT.nil
 exact AllT.nil
 refine AllT.cons rfl ?_ ?_
 refine TL.buildSlice (cells := (wcell (at', padS bs)).toArray) (Want.plain rfl) rfl rfl rfl Tryz.underlying123 in156 rfl rfl rfl (fill_at (wcell_len (padS_len (by omega))) (by simp)) (fun b60 => ?_)
 change TL _ _ _ _ _ _ _ _ _ [blkA b60 (wcell (at', padS bs)) 156, blkA b7 (wcell (at', padS bs)) 156, blkA d [(.map (some m)), wv, (.bool (ar)), (.int .i64 (lf - 1)), (.bool (dn))] 125, own wv (ws.length) (wflat ws) 156 65]
 refine TL.nil ?_
 refine E1 1 ?_
 refine TD.all [4] (by kernel_rfl) rfl ?_
 refine AllT.cons rfl ?_ ?_
 refine LA 2 Tryz.underlying123 ?_
 refine TL.nil ?_
 refine E1 1 ?_
 refine TD.all [7] (by kernel_rfl) rfl ?_
 refine AllT.cons rfl ?_ ?_
 refine TL.append (k := 3) (news := wcell (at', padS bs)) (nn' := (ws ++ [(at', padS bs)]).length) (xs' := wflat (ws ++ [(at', padS bs)])) (Want.plain rfl) rfl rfl rfl Tryz.underlying123 in156 rfl rfl rfl rfl rfl rfl (fun _ _ => Src.rd (wcell_len (padS_len (by omega))) (RO 0) (by rw [List.drop_zero, List.take_of_length_le (Nat.le_refl _)])) (wcell_one _) (by simp only [maxLen]; omega) (by omega) (by simp) (by simp [wflat]) (fun v61 ov61 => ?_)
 refine TL.nil ?_
 refine E1 1 ?_
 refine PD 8 ?_
 refine FD 9 1 Tryz.underlying125 sz123 ?_
 refine TD.all [10] (by kernel_rfl) rfl ?_
 refine AllT.cons rfl ?_ ?_
 refine TL.store1 (i := 2) (Want.plain rfl) rfl rfl rfl rfl ov61 sz123 rfl rfl (lb rfl) rfl rfl ?_
 refine TL.nil ?_
 refine E1 1 ?_
 refine TD.done (by kernel_rfl) ?_
 refine TE.next J19 ?_
 clear J19
 refine sr fun _ J21 => ?_
 refine PS ?_
 refine nx J21 ?_
 clear J21
 refine TC.ret ?_
 refine WK [2, 2] ?_
 refine TE.ret1 rfl rfl ?_
 show (if _ then _ else _)
 first
   | (rw [if_pos (by omega)]; exact ⟨rfl, rfl⟩)
   | (rw [if_neg (by omega), if_pos (by simp_all)]; exact ⟨rfl, by simp_all <;> rfl⟩)
   | (rw [if_neg (by omega), if_neg (by simp_all)]; exact ⟨rfl, v61, by simp_all <;> rfl⟩)
 exact AllT.nil
 exact AllT.nil
 exact AllT.nil
 exact AllT.nil
 refine nx J16 ?_
 clear J16
 refine CN ?_
 refine CX J15 ?_
 clear J15
 refine sr fun _ J22 => ?_
 refine PS ?_
 refine tp (PV.build (cells := #[(.int .i64 (at')), (.int .u8 0), (.int .u8 0), (.int .u8 0), (.int .u8 0), (.int .u8 0), (.int .u8 0), (.int .u8 0), (.int .u8 0), (.int .u8 0), (.int .u8 0), (.int .u8 0), (.int .u8 0), (.int .u8 0), (.int .u8 0), (.int .u8 0), (.int .u8 0), (.int .u8 0), (.int .u8 0), (.int .u8 0), (.int .u8 0), (.int .u8 0), (.int .u8 0), (.int .u8 0), (.int .u8 0), (.int .u8 0), (.int .u8 0), (.int .u8 0), (.int .u8 0), (.int .u8 0), (.int .u8 0), (.int .u8 0), (.int .u8 0), (.int .u8 0), (.int .u8 0), (.int .u8 0), (.int .u8 0), (.int .u8 0), (.int .u8 0), (.int .u8 0), (.int .u8 0), (.int .u8 0), (.int .u8 0), (.int .u8 0), (.int .u8 0), (.int .u8 0), (.int .u8 0), (.int .u8 0), (.int .u8 0), (.int .u8 0), (.int .u8 0), (.int .u8 0), (.int .u8 0), (.int .u8 0), (.int .u8 0), (.int .u8 0), (.int .u8 0), (.int .u8 0), (.int .u8 0), (.int .u8 0), (.int .u8 0), (.int .u8 0), (.int .u8 0), (.int .u8 0), (.int .u8 0)]) rfl rfl (by as_aux_lemma => kernel_rfl)) ?_
 refine TL.alloc (Want.plain rfl) rfl rfl rfl z156 (fun b7 => ?_)
 refine TL.store (vs := [(.int .i64 (at')), (.int .u8 0), (.int .u8 0), (.int .u8 0), (.int .u8 0), (.int .u8 0), (.int .u8 0), (.int .u8 0), (.int .u8 0), (.int .u8 0), (.int .u8 0), (.int .u8 0), (.int .u8 0), (.int .u8 0), (.int .u8 0), (.int .u8 0), (.int .u8 0), (.int .u8 0), (.int .u8 0), (.int .u8 0), (.int .u8 0), (.int .u8 0), (.int .u8 0), (.int .u8 0), (.int .u8 0), (.int .u8 0), (.int .u8 0), (.int .u8 0), (.int .u8 0), (.int .u8 0), (.int .u8 0), (.int .u8 0), (.int .u8 0), (.int .u8 0), (.int .u8 0), (.int .u8 0), (.int .u8 0), (.int .u8 0), (.int .u8 0), (.int .u8 0), (.int .u8 0), (.int .u8 0), (.int .u8 0), (.int .u8 0), (.int .u8 0), (.int .u8 0), (.int .u8 0), (.int .u8 0), (.int .u8 0), (.int .u8 0), (.int .u8 0), (.int .u8 0), (.int .u8 0), (.int .u8 0), (.int .u8 0), (.int .u8 0), (.int .u8 0), (.int .u8 0), (.int .u8 0), (.int .u8 0), (.int .u8 0), (.int .u8 0), (.int .u8 0), (.int .u8 0), (.int .u8 0)]) (i := 0) (Want.plain rfl) rfl rfl rfl rfl rfl sz156 (by simp [Value.oneCell']) rfl rfl (lbe rfl) rfl rfl ?_
 refine nx J22 ?_
 clear J22
 refine sr fun _ J23 => ?_
 refine FA 1 Tryz.underlying156 sz109 ?_
 refine tp (PV.sliceArr rfl Tryz.underlying109 sz5 rfl) ?_
 refine PS ?_
 refine TL.copy (i := 0) (m := bs.length) (news := (u8s bs)) (H' := [blkA b7 (wcell (at', padS bs)) 156, blkA d [(.map (some m)), wv, (.bool (ar)), (.int .i64 (lf)), (.bool (dn))] 125, own wv (ws.length) (wflat ws) 156 65]) (Want.plain rfl) rfl rfl rfl Tryz.underlying72 sz5 rfl rfl rfl rfl (fun _ _ => hF.src (fun _ h => Frm.of h)) (u8s_one _) (by show 1 + min bs.length 64 ≤ 65; omega) (wr_pad (by omega)) rfl ?_
 refine nx J23 ?_
 clear J23
 refine TC.seq fun _ J24 => ?_
 refine D1 0 mixedD ?_
 refine PD 0 ?_
 refine PD 1 ?_
 refine PD 2 ?_
 refine FD 3 1 Tryz.underlying125 sz123 ?_
 refine ta 5 rfl (PV.loadN (vs := wcell (at', padS bs)) rfl Tryz.underlying156 rfl sz156 rfl (fun _ h => h.2.1) (wcell_len (padS_len (by omega))) (by rw [List.drop_zero, List.take_of_length_le (by rw [(wcell_len (padS_len (by omega)))]; exact Nat.le_refl _)])) ?_
 refine TD.all [4, 6] (by kernel_rfl) rfl ?_
 refine AllT.cons rfl ?_ ?_
 refine LA 1 Tryz.underlying123 ?_
 refine TL.nil ?_
 refine E1 0 ?_
 refine TD.all [6] (by kernel_rfl) rfl ?_
 refine AllT.cons rfl ?_ ?_
 refine TL.buildSlice (cells := (wcell (at', padS bs)).toArray) (Want.plain rfl) rfl rfl rfl Tryz.underlying123 in156 rfl rfl rfl (fill_at (wcell_len (padS_len (by omega))) (by simp)) (fun b60 => ?_)
 change TL _ _ _ _ _ _ _ _ _ [blkA b60 (wcell (at', padS bs)) 156, blkA b7 (wcell (at', padS bs)) 156, blkA d [(.map (some m)), wv, (.bool (ar)), (.int .i64 (lf)), (.bool (dn))] 125, own wv (ws.length) (wflat ws) 156 65]
 refine TL.nil ?_
 refine E1 1 ?_
 refine TD.all [7] (by kernel_rfl) rfl ?_
 refine AllT.cons rfl ?_ ?_
 refine TL.append (k := 3) (news := wcell (at', padS bs)) (nn' := (ws ++ [(at', padS bs)]).length) (xs' := wflat (ws ++ [(at', padS bs)])) (Want.plain rfl) rfl rfl rfl Tryz.underlying123 in156 rfl rfl rfl rfl rfl rfl (fun _ _ => Src.rd (wcell_len (padS_len (by omega))) (RO 0) (by rw [List.drop_zero, List.take_of_length_le (Nat.le_refl _)])) (wcell_one _) (by simp only [maxLen]; omega) (by omega) (by simp) (by simp [wflat]) (fun v61 ov61 => ?_)
 refine TL.nil ?_
 refine E1 1 ?_
 refine PD 8 ?_
 refine FD 9 1 Tryz.underlying125 sz123 ?_
 refine TD.all [10] (by kernel_rfl) rfl ?_
 refine AllT.cons rfl ?_ ?_
 refine TL.store1 (i := 2) (Want.plain rfl) rfl rfl rfl rfl ov61 sz123 rfl rfl (lb rfl) rfl rfl ?_
 refine TL.nil ?_
 refine E1 1 ?_
 refine TD.done (by kernel_rfl) ?_
 refine TE.next J24 ?_
 clear J24
 refine sr fun _ J25 => ?_
 refine PS ?_
 refine nx J25 ?_
 clear J25
 refine TC.ret ?_
 refine WK [2, 2] ?_
 refine TE.ret1 rfl rfl ?_
 show (if _ then _ else _)
 first
   | (rw [if_pos (by omega)]; exact ⟨rfl, rfl⟩)
   | (rw [if_neg (by omega), if_pos (by simp_all)]; exact ⟨rfl, by simp_all <;> rfl⟩)
   | (rw [if_neg (by omega), if_neg (by simp_all)]; exact ⟨rfl, v61, by simp_all <;> rfl⟩)
 exact AllT.nil
 exact AllT.nil
 exact AllT.nil
 refine AllT.cons rfl ?_ ?_
 refine TL.buildSlice (cells := (wcell (at', padS bs)).toArray) (Want.plain rfl) rfl rfl rfl Tryz.underlying123 in156 rfl rfl rfl (fill_at (wcell_len (padS_len (by omega))) (by simp)) (fun b60 => ?_)
 change TL _ _ _ _ _ _ _ _ _ [blkA b60 (wcell (at', padS bs)) 156, blkA b7 (wcell (at', padS bs)) 156, blkA d [(.map (some m)), wv, (.bool (ar)), (.int .i64 (lf)), (.bool (dn))] 125, own wv (ws.length) (wflat ws) 156 65]
 refine TL.nil ?_
 refine E1 1 ?_
 refine TD.all [4] (by kernel_rfl) rfl ?_
 refine AllT.cons rfl ?_ ?_
 refine LA 2 Tryz.underlying123 ?_
 refine TL.nil ?_
 refine E1 1 ?_
 refine TD.all [7] (by kernel_rfl) rfl ?_
 refine AllT.cons rfl ?_ ?_
 refine TL.append (k := 3) (news := wcell (at', padS bs)) (nn' := (ws ++ [(at', padS bs)]).length) (xs' := wflat (ws ++ [(at', padS bs)])) (Want.plain rfl) rfl rfl rfl Tryz.underlying123 in156 rfl rfl rfl rfl rfl rfl (fun _ _ => Src.rd (wcell_len (padS_len (by omega))) (RO 0) (by rw [List.drop_zero, List.take_of_length_le (Nat.le_refl _)])) (wcell_one _) (by simp only [maxLen]; omega) (by omega) (by simp) (by simp [wflat]) (fun v61 ov61 => ?_)
 refine TL.nil ?_
 refine E1 1 ?_
 refine PD 8 ?_
 refine FD 9 1 Tryz.underlying125 sz123 ?_
 refine TD.all [10] (by kernel_rfl) rfl ?_
 refine AllT.cons rfl ?_ ?_
 refine TL.store1 (i := 2) (Want.plain rfl) rfl rfl rfl rfl ov61 sz123 rfl rfl (lb rfl) rfl rfl ?_
 refine TL.nil ?_
 refine E1 1 ?_
 refine TD.done (by kernel_rfl) ?_
 refine TE.next J24 ?_
 clear J24
 refine sr fun _ J26 => ?_
 refine PS ?_
 refine nx J26 ?_
 clear J26
 refine TC.ret ?_
 refine WK [2, 2] ?_
 refine TE.ret1 rfl rfl ?_
 show (if _ then _ else _)
 first
   | (rw [if_pos (by omega)]; exact ⟨rfl, rfl⟩)
   | (rw [if_neg (by omega), if_pos (by simp_all)]; exact ⟨rfl, by simp_all <;> rfl⟩)
   | (rw [if_neg (by omega), if_neg (by simp_all)]; exact ⟨rfl, v61, by simp_all <;> rfl⟩)
 exact AllT.nil
 exact AllT.nil
 exact AllT.nil
 exact AllT.nil
 refine PS ?_
 refine UF ?_
 refine UF ?_
 refine UF ?_
 refine UF ?_
 refine UF ?_
 refine PS ?_
 refine nx J8 ?_
 clear J8
 refine CN ?_
 refine CX J7 ?_
 clear J7
 refine TC.seq fun _ J27 => ?_
 refine sr fun _ J28 => ?_
 refine PS ?_
 refine PS ?_
 refine FA 4 Tryz.underlying125 sz4 ?_
 refine LA 0 Tryz.underlying4 ?_
 refine TL.decB (fun h36 => ?_) (fun h36 => ?_)
 refine nx J28 ?_
 clear J28
 refine CY ?_
 refine sr fun _ J29 => ?_
 refine PS ?_
 refine nx J29 ?_
 clear J29
 refine TC.ret ?_
 refine TE.passRet ?_
 clear J27
 refine WK [0, 0] ?_
 refine TE.ret1 rfl rfl ?_
 show (if _ then _ else _)
 first
   | (rw [if_pos (by omega)]; exact ⟨rfl, rfl⟩)
   | (rw [if_neg (by omega), if_pos (by simp_all)]; exact ⟨rfl, by simp_all <;> rfl⟩)
   | (rw [if_neg (by omega), if_neg (by simp_all)]; exact ⟨rfl, v61, by simp_all <;> rfl⟩)
 refine nx J28 ?_
 clear J28
 refine CN ?_
 refine CX J27 ?_
 clear J27
 refine TC.seq fun _ J30 => ?_
 refine sr fun _ J31 => ?_
 refine PS ?_
 refine PS ?_
 refine FA 2 Tryz.underlying125 sz4 ?_
 refine LA 0 Tryz.underlying4 ?_
 refine TL.decB (fun h40 => ?_) (fun h40 => ?_)
 refine nx J31 ?_
 clear J31
 refine CY ?_
 refine TC.region ?_
 refine PS ?_
 refine PS ?_
 refine FA 3 Tryz.underlying125 sz3 ?_
 refine LA 0 Tryz.underlying3 ?_
 refine tp (PV.sub rfl rfl rfl (wrap_i64 (by omega) (by omega))) ?_
 refine PS ?_
 refine FA 3 Tryz.underlying125 sz3 ?_
 refine S0 0 sz3 ?_
 refine nx J30 ?_
 clear J30
 refine sr fun _ J32 => ?_
 refine PS ?_
 refine tp (PV.build (cells := #[(.int .i64 (at')), (.int .u8 0), (.int .u8 0), (.int .u8 0), (.int .u8 0), (.int .u8 0), (.int .u8 0), (.int .u8 0), (.int .u8 0), (.int .u8 0), (.int .u8 0), (.int .u8 0), (.int .u8 0), (.int .u8 0), (.int .u8 0), (.int .u8 0), (.int .u8 0), (.int .u8 0), (.int .u8 0), (.int .u8 0), (.int .u8 0), (.int .u8 0), (.int .u8 0), (.int .u8 0), (.int .u8 0), (.int .u8 0), (.int .u8 0), (.int .u8 0), (.int .u8 0), (.int .u8 0), (.int .u8 0), (.int .u8 0), (.int .u8 0), (.int .u8 0), (.int .u8 0), (.int .u8 0), (.int .u8 0), (.int .u8 0), (.int .u8 0), (.int .u8 0), (.int .u8 0), (.int .u8 0), (.int .u8 0), (.int .u8 0), (.int .u8 0), (.int .u8 0), (.int .u8 0), (.int .u8 0), (.int .u8 0), (.int .u8 0), (.int .u8 0), (.int .u8 0), (.int .u8 0), (.int .u8 0), (.int .u8 0), (.int .u8 0), (.int .u8 0), (.int .u8 0), (.int .u8 0), (.int .u8 0), (.int .u8 0), (.int .u8 0), (.int .u8 0), (.int .u8 0), (.int .u8 0)]) rfl rfl (by as_aux_lemma => kernel_rfl)) ?_
 refine TL.alloc (Want.plain rfl) rfl rfl rfl z156 (fun b7 => ?_)
 refine TL.store (vs := [(.int .i64 (at')), (.int .u8 0), (.int .u8 0), (.int .u8 0), (.int .u8 0), (.int .u8 0), (.int .u8 0), (.int .u8 0), (.int .u8 0), (.int .u8 0), (.int .u8 0), (.int .u8 0), (.int .u8 0), (.int .u8 0), (.int .u8 0), (.int .u8 0), (.int .u8 0), (.int .u8 0), (.int .u8 0), (.int .u8 0), (.int .u8 0), (.int .u8 0), (.int .u8 0), (.int .u8 0), (.int .u8 0), (.int .u8 0), (.int .u8 0), (.int .u8 0), (.int .u8 0), (.int .u8 0), (.int .u8 0), (.int .u8 0), (.int .u8 0), (.int .u8 0), (.int .u8 0), (.int .u8 0), (.int .u8 0), (.int .u8 0), (.int .u8 0), (.int .u8 0), (.int .u8 0), (.int .u8 0), (.int .u8 0), (.int .u8 0), (.int .u8 0), (.int .u8 0), (.int .u8 0), (.int .u8 0), (.int .u8 0), (.int .u8 0), (.int .u8 0), (.int .u8 0), (.int .u8 0), (.int .u8 0), (.int .u8 0), (.int .u8 0), (.int .u8 0), (.int .u8 0), (.int .u8 0), (.int .u8 0), (.int .u8 0), (.int .u8 0), (.int .u8 0), (.int .u8 0), (.int .u8 0)]) (i := 0) (Want.plain rfl) rfl rfl rfl rfl rfl sz156 (by simp [Value.oneCell']) rfl rfl (lbe rfl) rfl rfl ?_
 refine nx J32 ?_
 clear J32
 refine sr fun _ J33 => ?_
 refine FA 1 Tryz.underlying156 sz109 ?_
 refine tp (PV.sliceArr rfl Tryz.underlying109 sz5 rfl) ?_
 refine PS ?_
 refine TL.copy (i := 0) (m := bs.length) (news := (u8s bs)) (H' := [blkA b7 (wcell (at', padS bs)) 156, blkA d [(.map (some m)), wv, (.bool (ar)), (.int .i64 (lf - 1)), (.bool (dn))] 125, own wv (ws.length) (wflat ws) 156 65]) (Want.plain rfl) rfl rfl rfl Tryz.underlying72 sz5 rfl rfl rfl rfl (fun _ _ => hF.src (fun _ h => Frm.of h)) (u8s_one _) (by show 1 + min bs.length 64 ≤ 65; omega) (wr_pad (by omega)) rfl ?_
 refine nx J33 ?_
 clear J33
 refine TC.seq fun _ J34 => ?_
 refine D1 0 mixedD ?_
 refine PD 0 ?_
 refine PD 1 ?_
 refine PD 2 ?_
 refine FD 3 1 Tryz.underlying125 sz123 ?_
 refine ta 5 rfl (PV.loadN (vs := wcell (at', padS bs)) rfl Tryz.underlying156 rfl sz156 rfl (fun _ h => h.2.1) (wcell_len (padS_len (by omega))) (by rw [List.drop_zero, List.take_of_length_le (by rw [(wcell_len (padS_len (by omega)))]; exact Nat.le_refl _)])) ?_
 refine TD.all [4, 6] (by kernel_rfl) rfl ?_
 refine AllT.cons rfl ?_ ?_
 refine LA 1 Tryz.underlying123 ?_
 refine TL.nil ?_
 refine E1 0 ?_
 refine TD.all [6] (by kernel_rfl) rfl ?_
 refine AllT.cons rfl ?_ ?_
 refine TL.buildSlice (cells := (wcell (at', padS bs)).toArray) (Want.plain rfl) rfl rfl rfl Tryz.underlying123 in156 rfl rfl rfl (fill_at (wcell_len (padS_len (by omega))) (by simp)) (fun b60 => ?_)
 change TL _ _ _ _ _ _ _ _ _ [blkA b60 (wcell (at', padS bs)) 156, blkA b7 (wcell (at', padS bs)) 156, blkA d [(.map (some m)), wv, (.bool (ar)), (.int .i64 (lf - 1)), (.bool (dn))] 125, own wv (ws.length) (wflat ws) 156 65]
 refine TL.nil ?_
 refine E1 1 ?_
 refine TD.all [7] (by kernel_rfl) rfl ?_
 refine AllT.cons rfl ?_ ?_
 refine TL.append (k := 3) (news := wcell (at', padS bs)) (nn' := (ws ++ [(at', padS bs)]).length) (xs' := wflat (ws ++ [(at', padS bs)])) (Want.plain rfl) rfl rfl rfl Tryz.underlying123 in156 rfl rfl rfl rfl rfl rfl (fun _ _ => Src.rd (wcell_len (padS_len (by omega))) (RO 0) (by rw [List.drop_zero, List.take_of_length_le (Nat.le_refl _)])) (wcell_one _) (by simp only [maxLen]; omega) (by omega) (by simp) (by simp [wflat]) (fun v61 ov61 => ?_)
 refine TL.nil ?_
 refine E1 1 ?_
 refine PD 8 ?_
 refine FD 9 1 Tryz.underlying125 sz123 ?_
 refine TD.all [10] (by kernel_rfl) rfl ?_
 refine AllT.cons rfl ?_ ?_
 refine TL.store1 (i := 2) (Want.plain rfl) rfl rfl rfl rfl ov61 sz123 rfl rfl (lb rfl) rfl rfl ?_
 refine TL.nil ?_
 refine E1 1 ?_
 refine TD.done (by kernel_rfl) ?_
 refine TE.next J34 ?_
 clear J34
 refine sr fun _ J35 => ?_
 refine PS ?_
 refine nx J35 ?_
 clear J35
 refine TC.ret ?_
 refine WK [2, 2] ?_
 refine TE.ret1 rfl rfl ?_
 show (if _ then _ else _)
 first
   | (rw [if_pos (by omega)]; exact ⟨rfl, rfl⟩)
   | (rw [if_neg (by omega), if_pos (by simp_all)]; exact ⟨rfl, by simp_all <;> rfl⟩)
   | (rw [if_neg (by omega), if_neg (by simp_all)]; exact ⟨rfl, v61, by simp_all <;> rfl⟩)
 exact AllT.nil
 exact AllT.nil
 exact AllT.nil
 refine AllT.cons rfl ?_ ?_
 refine TL.buildSlice (cells := (wcell (at', padS bs)).toArray) (Want.plain rfl) rfl rfl rfl Tryz.underlying123 in156 rfl rfl rfl (fill_at (wcell_len (padS_len (by omega))) (by simp)) (fun b60 => ?_)
 change TL _ _ _ _ _ _ _ _ _ [blkA b60 (wcell (at', padS bs)) 156, blkA b7 (wcell (at', padS bs)) 156, blkA d [(.map (some m)), wv, (.bool (ar)), (.int .i64 (lf - 1)), (.bool (dn))] 125, own wv (ws.length) (wflat ws) 156 65]
 refine TL.nil ?_
 refine E1 1 ?_
 refine TD.all [4] (by kernel_rfl) rfl ?_
 refine AllT.cons rfl ?_ ?_
 refine LA 2 Tryz.underlying123 ?_
 refine TL.nil ?_
 refine E1 1 ?_
 refine TD.all [7] (by kernel_rfl) rfl ?_
 refine AllT.cons rfl ?_ ?_
 refine TL.append (k := 3) (news := wcell (at', padS bs)) (nn' := (ws ++ [(at', padS bs)]).length) (xs' := wflat (ws ++ [(at', padS bs)])) (Want.plain rfl) rfl rfl rfl Tryz.underlying123 in156 rfl rfl rfl rfl rfl rfl (fun _ _ => Src.rd (wcell_len (padS_len (by omega))) (RO 0) (by rw [List.drop_zero, List.take_of_length_le (Nat.le_refl _)])) (wcell_one _) (by simp only [maxLen]; omega) (by omega) (by simp) (by simp [wflat]) (fun v61 ov61 => ?_)
 refine TL.nil ?_
 refine E1 1 ?_
 refine PD 8 ?_
 refine FD 9 1 Tryz.underlying125 sz123 ?_
 refine TD.all [10] (by kernel_rfl) rfl ?_
 refine AllT.cons rfl ?_ ?_
 refine TL.store1 (i := 2) (Want.plain rfl) rfl rfl rfl rfl ov61 sz123 rfl rfl (lb rfl) rfl rfl ?_
 refine TL.nil ?_
 refine E1 1 ?_
 refine TD.done (by kernel_rfl) ?_
 refine TE.next J34 ?_
 clear J34
 refine sr fun _ J36 => ?_
 refine PS ?_
 refine nx J36 ?_
 clear J36
 refine TC.ret ?_
 refine WK [2, 2] ?_
 refine TE.ret1 rfl rfl ?_
 show (if _ then _ else _)
 first
   | (rw [if_pos (by omega)]; exact ⟨rfl, rfl⟩)
   | (rw [if_neg (by omega), if_pos (by simp_all)]; exact ⟨rfl, by simp_all <;> rfl⟩)
   | (rw [if_neg (by omega), if_neg (by simp_all)]; exact ⟨rfl, v61, by simp_all <;> rfl⟩)
 exact AllT.nil
 exact AllT.nil
 exact AllT.nil
 exact AllT.nil
 refine nx J31 ?_
 clear J31
 refine CN ?_
 refine CX J30 ?_
 clear J30
 refine sr fun _ J37 => ?_
 refine PS ?_
 refine tp (PV.build (cells := #[(.int .i64 (at')), (.int .u8 0), (.int .u8 0), (.int .u8 0), (.int .u8 0), (.int .u8 0), (.int .u8 0), (.int .u8 0), (.int .u8 0), (.int .u8 0), (.int .u8 0), (.int .u8 0), (.int .u8 0), (.int .u8 0), (.int .u8 0), (.int .u8 0), (.int .u8 0), (.int .u8 0), (.int .u8 0), (.int .u8 0), (.int .u8 0), (.int .u8 0), (.int .u8 0), (.int .u8 0), (.int .u8 0), (.int .u8 0), (.int .u8 0), (.int .u8 0), (.int .u8 0), (.int .u8 0), (.int .u8 0), (.int .u8 0), (.int .u8 0), (.int .u8 0), (.int .u8 0), (.int .u8 0), (.int .u8 0), (.int .u8 0), (.int .u8 0), (.int .u8 0), (.int .u8 0), (.int .u8 0), (.int .u8 0), (.int .u8 0), (.int .u8 0), (.int .u8 0), (.int .u8 0), (.int .u8 0), (.int .u8 0), (.int .u8 0), (.int .u8 0), (.int .u8 0), (.int .u8 0), (.int .u8 0), (.int .u8 0), (.int .u8 0), (.int .u8 0), (.int .u8 0), (.int .u8 0), (.int .u8 0), (.int .u8 0), (.int .u8 0), (.int .u8 0), (.int .u8 0), (.int .u8 0)]) rfl rfl (by as_aux_lemma => kernel_rfl)) ?_
 refine TL.alloc (Want.plain rfl) rfl rfl rfl z156 (fun b7 => ?_)
 refine TL.store (vs := [(.int .i64 (at')), (.int .u8 0), (.int .u8 0), (.int .u8 0), (.int .u8 0), (.int .u8 0), (.int .u8 0), (.int .u8 0), (.int .u8 0), (.int .u8 0), (.int .u8 0), (.int .u8 0), (.int .u8 0), (.int .u8 0), (.int .u8 0), (.int .u8 0), (.int .u8 0), (.int .u8 0), (.int .u8 0), (.int .u8 0), (.int .u8 0), (.int .u8 0), (.int .u8 0), (.int .u8 0), (.int .u8 0), (.int .u8 0), (.int .u8 0), (.int .u8 0), (.int .u8 0), (.int .u8 0), (.int .u8 0), (.int .u8 0), (.int .u8 0), (.int .u8 0), (.int .u8 0), (.int .u8 0), (.int .u8 0), (.int .u8 0), (.int .u8 0), (.int .u8 0), (.int .u8 0), (.int .u8 0), (.int .u8 0), (.int .u8 0), (.int .u8 0), (.int .u8 0), (.int .u8 0), (.int .u8 0), (.int .u8 0), (.int .u8 0), (.int .u8 0), (.int .u8 0), (.int .u8 0), (.int .u8 0), (.int .u8 0), (.int .u8 0), (.int .u8 0), (.int .u8 0), (.int .u8 0), (.int .u8 0), (.int .u8 0), (.int .u8 0), (.int .u8 0), (.int .u8 0), (.int .u8 0)]) (i := 0) (Want.plain rfl) rfl rfl rfl rfl rfl sz156 (by simp [Value.oneCell']) rfl rfl (lbe rfl) rfl rfl ?_
 refine nx J37 ?_
 clear J37
 refine sr fun _ J38 => ?_
 refine FA 1 Tryz.underlying156 sz109 ?_
 refine tp (PV.sliceArr rfl Tryz.underlying109 sz5 rfl) ?_
 refine PS ?_
 refine TL.copy (i := 0) (m := bs.length) (news := (u8s bs)) (H' := [blkA b7 (wcell (at', padS bs)) 156, blkA d [(.map (some m)), wv, (.bool (ar)), (.int .i64 (lf)), (.bool (dn))] 125, own wv (ws.length) (wflat ws) 156 65]) (Want.plain rfl) rfl rfl rfl Tryz.underlying72 sz5 rfl rfl rfl rfl (fun _ _ => hF.src (fun _ h => Frm.of h)) (u8s_one _) (by show 1 + min bs.length 64 ≤ 65; omega) (wr_pad (by omega)) rfl ?_
 refine nx J38 ?_
 clear J38
 refine TC.seq fun _ J39 => ?_
 refine D1 0 mixedD ?_
 refine PD 0 ?_
 refine PD 1 ?_
 refine PD 2 ?_
 refine FD 3 1 Tryz.underlying125 sz123 ?_
 refine ta 5 rfl (PV.loadN (vs := wcell (at', padS bs)) rfl Tryz.underlying156 rfl sz156 rfl (fun _ h => h.2.1) (wcell_len (padS_len (by omega))) (by rw [List.drop_zero, List.take_of_length_le (by rw [(wcell_len (padS_len (by omega)))]; exact Nat.le_refl _)])) ?_
 refine TD.all [4, 6] (by kernel_rfl) rfl ?_
 refine AllT.cons rfl ?_ ?_
 refine LA 1 Tryz.underlying123 ?_
 refine TL.nil ?_
 refine E1 0 ?_
 refine TD.all [6] (by kernel_rfl) rfl ?_
 refine AllT.cons rfl ?_ ?_
 refine TL.buildSlice (cells := (wcell (at', padS bs)).toArray) (Want.plain rfl) rfl rfl rfl Tryz.underlying123 in156 rfl rfl rfl (fill_at (wcell_len (padS_len (by omega))) (by simp)) (fun b60 => ?_)
 change TL _ _ _ _ _ _ _ _ _ [blkA b60 (wcell (at', padS bs)) 156, blkA b7 (wcell (at', padS bs)) 156, blkA d [(.map (some m)), wv, (.bool (ar)), (.int .i64 (lf)), (.bool (dn))] 125, own wv (ws.length) (wflat ws) 156 65]
 refine TL.nil ?_
 refine E1 1 ?_
 refine TD.all [7] (by kernel_rfl) rfl ?_
 refine AllT.cons rfl ?_ ?_
 refine TL.append (k := 3) (news := wcell (at', padS bs)) (nn' := (ws ++ [(at', padS bs)]).length) (xs' := wflat (ws ++ [(at', padS bs)])) (Want.plain rfl) rfl rfl rfl Tryz.underlying123 in156 rfl rfl rfl rfl rfl rfl (fun _ _ => Src.rd (wcell_len (padS_len (by omega))) (RO 0) (by rw [List.drop_zero, List.take_of_length_le (Nat.le_refl _)])) (wcell_one _) (by simp only [maxLen]; omega) (by omega) (by simp) (by simp [wflat]) (fun v61 ov61 => ?_)
 refine TL.nil ?_
 refine E1 1 ?_
 refine PD 8 ?_
 refine FD 9 1 Tryz.underlying125 sz123 ?_
 refine TD.all [10] (by kernel_rfl) rfl ?_
 refine AllT.cons rfl ?_ ?_
 refine TL.store1 (i := 2) (Want.plain rfl) rfl rfl rfl rfl ov61 sz123 rfl rfl (lb rfl) rfl rfl ?_
 refine TL.nil ?_
 refine E1 1 ?_
 refine TD.done (by kernel_rfl) ?_
 refine TE.next J39 ?_
 clear J39
 refine sr fun _ J40 => ?_
 refine PS ?_
 refine nx J40 ?_
 clear J40
 refine TC.ret ?_
 refine WK [2, 2] ?_
 refine TE.ret1 rfl rfl ?_
 show (if _ then _ else _)
 first
   | (rw [if_pos (by omega)]; exact ⟨rfl, rfl⟩)
   | (rw [if_neg (by omega), if_pos (by simp_all)]; exact ⟨rfl, by simp_all <;> rfl⟩)
   | (rw [if_neg (by omega), if_neg (by simp_all)]; exact ⟨rfl, v61, by simp_all <;> rfl⟩)
 exact AllT.nil
 exact AllT.nil
 exact AllT.nil
 refine AllT.cons rfl ?_ ?_
 refine TL.buildSlice (cells := (wcell (at', padS bs)).toArray) (Want.plain rfl) rfl rfl rfl Tryz.underlying123 in156 rfl rfl rfl (fill_at (wcell_len (padS_len (by omega))) (by simp)) (fun b60 => ?_)
 change TL _ _ _ _ _ _ _ _ _ [blkA b60 (wcell (at', padS bs)) 156, blkA b7 (wcell (at', padS bs)) 156, blkA d [(.map (some m)), wv, (.bool (ar)), (.int .i64 (lf)), (.bool (dn))] 125, own wv (ws.length) (wflat ws) 156 65]
 refine TL.nil ?_
 refine E1 1 ?_
 refine TD.all [4] (by kernel_rfl) rfl ?_
 refine AllT.cons rfl ?_ ?_
 refine LA 2 Tryz.underlying123 ?_
 refine TL.nil ?_
 refine E1 1 ?_
 refine TD.all [7] (by kernel_rfl) rfl ?_
 refine AllT.cons rfl ?_ ?_
 refine TL.append (k := 3) (news := wcell (at', padS bs)) (nn' := (ws ++ [(at', padS bs)]).length) (xs' := wflat (ws ++ [(at', padS bs)])) (Want.plain rfl) rfl rfl rfl Tryz.underlying123 in156 rfl rfl rfl rfl rfl rfl (fun _ _ => Src.rd (wcell_len (padS_len (by omega))) (RO 0) (by rw [List.drop_zero, List.take_of_length_le (Nat.le_refl _)])) (wcell_one _) (by simp only [maxLen]; omega) (by omega) (by simp) (by simp [wflat]) (fun v61 ov61 => ?_)
 refine TL.nil ?_
 refine E1 1 ?_
 refine PD 8 ?_
 refine FD 9 1 Tryz.underlying125 sz123 ?_
 refine TD.all [10] (by kernel_rfl) rfl ?_
 refine AllT.cons rfl ?_ ?_
 refine TL.store1 (i := 2) (Want.plain rfl) rfl rfl rfl rfl ov61 sz123 rfl rfl (lb rfl) rfl rfl ?_
 refine TL.nil ?_
 refine E1 1 ?_
 refine TD.done (by kernel_rfl) ?_
 refine TE.next J39 ?_
 clear J39
 refine sr fun _ J41 => ?_
 refine PS ?_
 refine nx J41 ?_
 clear J41
 refine TC.ret ?_
 refine WK [2, 2] ?_
 refine TE.ret1 rfl rfl ?_
 show (if _ then _ else _)
 first
   | (rw [if_pos (by omega)]; exact ⟨rfl, rfl⟩)
   | (rw [if_neg (by omega), if_pos (by simp_all)]; exact ⟨rfl, by simp_all <;> rfl⟩)
   | (rw [if_neg (by omega), if_neg (by simp_all)]; exact ⟨rfl, v61, by simp_all <;> rfl⟩)
 exact AllT.nil
 exact AllT.nil
 exact AllT.nil
 exact AllT.nil
theorem dr_syncDown_does (d m : Nat) (wv : Value) (ar : Bool) (lf : Int) :
    Leg.Does Tryz.prog 57 #[(.pointer (some ⟨d, 0, none⟩))] (fun _ => True) [blkA d [(.map (some m)), wv, (.bool (ar)), (.int .i64 (lf)), (.bool true)] 125] (Ret (fun v H => v = .int .i64 4 ∧ H = [blkA d [(.map (some m)), wv, (.bool (ar)), (.int .i64 (lf)), (.bool true)] 125])) := by
 refine Leg.Does.body (n := 28) Tryz.func57 rfl rfl rfl (fun w0 F hF => ?_)
 refine sr fun _ J1 => ?_
 refine PS ?_
 refine nx J1 ?_
 refine TC.seq fun _ J2 => ?_
 refine sr fun _ J3 => ?_
 refine PS ?_
 refine PS ?_
 refine FA 4 Tryz.underlying125 sz4 ?_
 refine LA 0 Tryz.underlying4 ?_
 refine nx J3 ?_
 refine CY ?_
 refine sr fun _ J4 => ?_
 refine PS ?_
 refine nx J4 ?_
 refine TC.ret ?_
 refine TE.passRet ?_
 refine WK [0] ?_
 refine TE.ret1 rfl rfl ?_
 exact ⟨rfl, rfl⟩
theorem dr_syncUp_does (d m : Nat) (wv : Value) (s ws : Secs) (ar : Bool) (lf : Int) (hw : Whole ws) :
    Leg.Does Tryz.prog 57 #[(.pointer (some ⟨d, 0, none⟩))] (fun _ => True) [blkA d [(.map (some m)), wv, (.bool (ar)), (.int .i64 (lf)), (.bool false)] 125, mapP m (kvS s), own wv (ws.length) (wflat ws) 156 65] (Ret (fun v H => v = .int .i64 0 ∧ H = [blkA d [(.map (some m)), (.slice none 0 0), (.bool (ar)), (.int .i64 (lf)), (.bool false)] 125, mapP m (kvS (layN s ws ws.length)), own (.slice none 0 0) 0 [] 156 65])) := by
 refine Leg.Does.body (n := 28) Tryz.func57 rfl rfl rfl (fun w0 F hF => ?_)
 refine sr fun _ J1 => ?_
 refine TL.ownLen 2 rfl rfl (fun hwl _ => ?_)
 refine PS ?_
 refine nx J1 ?_
 refine TC.seq fun _ J2 => ?_
 refine sr fun _ J3 => ?_
 refine PS ?_
 refine PS ?_
 refine FA 4 Tryz.underlying125 sz4 ?_
 refine LA 0 Tryz.underlying4 ?_
 refine nx J3 ?_
 refine CN ?_
 refine CX J2 ?_
 refine TC.seq fun _ J4 => ?_
 refine sr fun _ J5 => ?_
 refine PS ?_
 refine PS ?_
 refine FA 1 Tryz.underlying125 sz123 ?_
 refine LA 0 Tryz.underlying123 ?_
 refine tp (PV.lenV rfl Tryz.underlying123 rfl hwl) ?_
 refine PS ?_
 refine nx J5 ?_
 refine TC.block ?_
 refine TC.loop (α := (Nat) × (Secs)) (fun ⟨k, s'⟩ => k ≤ ws.length ∧ s' = layN s ws k) (fun ⟨k, s'⟩ => [(0, (.pointer (some ⟨d, 0, none⟩))), (2, (.int .i64 0)), (12, wv), (13, (.int .i64 (((ws.length : Nat) : Int)))), (14, (.int .i64 (((k : Nat) : Int))))]) (fun ⟨k, s'⟩ => [blkA d [(.map (some m)), wv, (.bool (ar)), (.int .i64 (lf)), (.bool false)] 125, mapP m (kvS s'), own wv (ws.length) (wflat ws) 156 65]) (fun ⟨k, s'⟩ => ws.length - k) (0, s)
     ⟨Nat.zero_le _, rfl⟩ (Sub.r (Sub.r (Sub.r (Sub.r (Sub.cons rfl (by congr 1) (Sub.nil _))))))
     (fun _ s => s) (fun ⟨k, s'⟩ hinv => ?_)
 obtain ⟨hk, hs'⟩ := hinv
 refine sr fun _ J6 => ?_
 refine PS ?_
 refine TL.dec (fun h15 => ?_) (fun h15 => ?_)
 refine TL.ownAt 2 rfl rfl (by omega) (fun g cap hv hcap => ?_)
 refine nx J6 ?_
 refine TC.seq fun _ J7 => ?_
 refine CY ?_
 refine CX J7 ?_
 refine TC.seq fun _ J8 => ?_
 refine TC.block ?_
 refine sr fun _ J9 => ?_
 refine tp (PV.indexSlV (r := k * 65) hv rfl Tryz.underlying123 sz156 rfl rfl (by omega) (by omega) (by omega)) ?_
 refine tp (PV.loadNX (vs := wcell (wat ws k)) rfl Tryz.underlying156 rfl sz156 rfl (RdX.own 2 rfl hv rfl) (wcell_len (wat_len hw (by omega))) (wflat_atN hw (by omega))) ?_
 refine TL.alloc (Want.plain rfl) rfl rfl rfl z156 (fun b4 => ?_)
 refine TL.store (vs := wcell (wat ws k)) (i := 0) (Want.plain rfl) rfl rfl rfl rfl rfl (by rw [wcell_len (wat_len hw (by omega))]; exact sz156) (wcell_one _) rfl rfl (by rw [wcell_len (wat_len hw (by omega))]; exact Nat.le_refl _) (wr_whole (Eq.trans (rfl : _ = 65) (by rw [wcell_len (wat_len hw (by omega))] : (wcell (wat ws k)).length = 65).symm)) rfl ?_
 refine nx J9 ?_
 refine TC.region ?_
 refine PS ?_
 refine FA 0 Tryz.underlying156 sz3 ?_
 refine LA 0 Tryz.underlying3 ?_
 refine FA 1 Tryz.underlying156 sz109 ?_
 refine tp (PV.loadN (vs := u8s (wat ws k).2) rfl Tryz.underlying109 rfl sz109 rfl (RO 0) (by rw [u8s_length]; exact wat_len hw (by omega)) (wcell_tail (wat_len hw (by omega)))) ?_
 refine CR nm86 (dr_last_does d m wv s' ar false lf ((wat ws k).1) (wat ws k).2 (by exact wat_len hw (by omega))) (SM [1, 1]) fun vR HR hR => ?_
 subst hR
 refine TL.nil ?_
 refine TE.blockEnd ?_
 refine TE.next J8 ?_
 refine TC.region ?_
 refine tp (PV.add rfl rfl rfl (wrap_i64 (by omega) (by omega))) ?_
 refine PS ?_
 refine TL.nil ?_
 exact TE.round ((k + 1, sput s' (wat ws k).1 (wat ws k).2) : (Nat) × (Secs)) ⟨by omega, by rw [hs']; rfl⟩ (by show ws.length - (k + 1) < ws.length - k; omega)
   (Sub.r (Sub.r (Sub.r (Sub.r (Sub.cons rfl (by simp) (Sub.nil _))))))
   (fun _ s => sep_keep [0, 0, 1] rfl s)
 refine nx J6 ?_
 refine TC.seq fun _ J10 => ?_
 refine CN ?_
 refine TC.exit ?_
 refine TE.pass ?_
 refine TE.pass ?_
 refine TE.hit ?_
 refine TE.next J4 ?_
 refine sr fun _ J11 => ?_
 refine PS ?_
 refine PS ?_
 refine FA 1 Tryz.underlying125 sz123 ?_
 refine S0 0 sz123 ?_
 refine nx J11 (sr fun _ J12 => ?_)
 refine PS ?_
 refine nx J12 ?_
 refine TC.ret ?_
 refine TE.weak (H' := [blkA d [(.map (some m)), (.slice none 0 0), (.bool (ar)), (.int .i64 (lf)), (.bool false)] 125, mapP m (kvS s'), own (.slice none 0 0) 0 [] 156 65]) (Sub.refl _) (fun _ s => sep_perm (List.Perm.trans (List.Perm.swap _ _ _) (List.Perm.cons _ (List.Perm.swap _ _ _))) (sep_ownNil 156 65 (sep_keep [0, 0] rfl s))) ?_
 refine TE.ret1 rfl rfl ?_
 obtain rfl : k = ws.length := by omega
 subst hs'
 exact ⟨rfl, rfl⟩
theorem dr_read_does (d m : Nat) (wv : Value) (s ws : Secs) (ar dn : Bool) (lf at' : Int) (hs2 : Whole s) (hw : Whole ws) (hb : ws.length ≤ 1000000000) :
    Leg.Does Tryz.prog 94 #[(.pointer (some ⟨d, 0, none⟩)), (.int .i64 (at'))] (fun _ => True) [blkA d [(.map (some m)), wv, (.bool (ar)), (.int .i64 (lf)), (.bool (dn))] 125, mapP m (kvS s), own wv (ws.length) (wflat ws) 156 65] (Ret (fun v H => v = secV (readN s ws at' ws.length) ∧ H = [blkA d [(.map (some m)), wv, (.bool (ar)), (.int .i64 (lf)), (.bool (dn))] 125, mapP m (kvS s), own wv (ws.length) (wflat ws) 156 65])) := by
 refine Leg.Does.body (n := 40) Tryz.func94 rfl rfl rfl (fun w0 F hF => ?_)
 refine sr fun _ J1 => ?_
 refine TL.ownLen 2 rfl rfl (fun hwl _ => ?_)
 refine TL.alloc (Want.plain rfl) rfl rfl rfl z109 (fun b4 => ?_)
 refine nx J1 ?_
 refine TC.seq fun _ J2 => ?_
 refine sr fun _ J3 => ?_
 refine PS ?_
 refine PS ?_
 refine FA 1 Tryz.underlying125 sz123 ?_
 refine LA 1 Tryz.underlying123 ?_
 refine tp (PV.lenV rfl Tryz.underlying123 rfl hwl) ?_
 refine tp (PV.sub rfl rfl rfl (wrap_i64 (by omega) (by omega))) ?_
 refine PS ?_
 refine nx J3 ?_
 refine TC.block ?_
 refine TC.loop (α := (Int)) (fun p => -1 ≤ p ∧ p < ws.length ∧ readN s ws at' (p + 1).toNat = readN s ws at' ws.length) (fun p => [(0, (.pointer (some ⟨d, 0, none⟩))), (1, (.int .i64 (at'))), (4, (.pointer (some ⟨b4, 0, none⟩))), (5, (.int .i64 (p)))]) (fun p => [blkA b4 [(.int .u8 0), (.int .u8 0), (.int .u8 0), (.int .u8 0), (.int .u8 0), (.int .u8 0), (.int .u8 0), (.int .u8 0), (.int .u8 0), (.int .u8 0), (.int .u8 0), (.int .u8 0), (.int .u8 0), (.int .u8 0), (.int .u8 0), (.int .u8 0), (.int .u8 0), (.int .u8 0), (.int .u8 0), (.int .u8 0), (.int .u8 0), (.int .u8 0), (.int .u8 0), (.int .u8 0), (.int .u8 0), (.int .u8 0), (.int .u8 0), (.int .u8 0), (.int .u8 0), (.int .u8 0), (.int .u8 0), (.int .u8 0), (.int .u8 0), (.int .u8 0), (.int .u8 0), (.int .u8 0), (.int .u8 0), (.int .u8 0), (.int .u8 0), (.int .u8 0), (.int .u8 0), (.int .u8 0), (.int .u8 0), (.int .u8 0), (.int .u8 0), (.int .u8 0), (.int .u8 0), (.int .u8 0), (.int .u8 0), (.int .u8 0), (.int .u8 0), (.int .u8 0), (.int .u8 0), (.int .u8 0), (.int .u8 0), (.int .u8 0), (.int .u8 0), (.int .u8 0), (.int .u8 0), (.int .u8 0), (.int .u8 0), (.int .u8 0), (.int .u8 0), (.int .u8 0)] 109, blkA d [(.map (some m)), wv, (.bool (ar)), (.int .i64 (lf)), (.bool (dn))] 125, mapP m (kvS s), own wv (ws.length) (wflat ws) 156 65]) (fun p => (p + 1).toNat) (((ws.length : Nat) : Int) - 1)
     ⟨by omega, by omega, by congr 1; omega⟩ (Sub.r (Sub.r (Sub.r (Sub.cons rfl (by congr 1) (Sub.nil _)))))
     (fun _ s => s) (fun p hinv => ?_)
 obtain ⟨hp1, hp2, hp3⟩ := hinv
 refine TC.seq fun _ J4 => ?_
 refine sr fun _ J5 => ?_
 refine PS ?_
 refine PS ?_
 refine TL.dec (fun h13 => ?_) (fun h13 => ?_)
 refine TL.ownAt 3 rfl rfl (by omega) (fun g cap hv hcap => ?_)
 refine nx J5 ?_
 refine CY ?_
 refine CX J4 ?_
 refine TC.seq fun _ J6 => ?_
 refine TC.block ?_
 refine sr fun _ J7 => ?_
 refine PS ?_
 refine PS ?_
 refine FA 1 Tryz.underlying125 sz123 ?_
 refine LA 1 Tryz.underlying123 ?_
 refine PS ?_
 refine tp (PV.indexSlV (r := p.toNat * 65) hv rfl Tryz.underlying123 sz156 rfl rfl (by omega) (by omega) (by omega)) ?_
 refine tp (PV.fieldAddr (r := p.toNat * 65) rfl Tryz.underlying156 rfl sz3 rfl rfl) ?_
 refine tp (PV.load1X (v := (.int .i64 ((wat ws p.toNat).1))) rfl Tryz.underlying3 rfl rfl (RdX.own 3 rfl hv rfl) (wflat_at0 hw (by omega))) ?_
 refine PS ?_
 refine PS ?_
 refine TL.dec (fun h25 => ?_) (fun h25 => ?_)
 refine nx J7 ?_
 refine CY ?_
 refine sr fun _ J8 => ?_
 refine PS ?_
 refine PS ?_
 refine FA 1 Tryz.underlying125 sz123 ?_
 refine LA 1 Tryz.underlying123 ?_
 refine PS ?_
 refine tp (PV.indexSlV (r := p.toNat * 65) hv rfl Tryz.underlying123 sz156 rfl rfl (by omega) (by omega) (by omega)) ?_
 refine tp (PV.fieldAddr (r := p.toNat * 65 + 1) rfl Tryz.underlying156 rfl sz109 rfl rfl) ?_
 refine tp (PV.loadNX (vs := u8s (wat ws p.toNat).2) rfl Tryz.underlying109 rfl sz109 rfl (RdX.own 3 rfl hv rfl) (by rw [u8s_length]; exact wat_len hw (by omega)) (wflat_at1 hw (by omega))) ?_
 refine TL.store (vs := u8s (wat ws p.toNat).2) (i := 0) (Want.plain rfl) rfl rfl rfl rfl rfl (by rw [u8s_length, wat_len hw (by omega)]; exact sz109) (u8s_one _) rfl rfl (by rw [u8s_length, wat_len hw (by omega)]; exact Nat.le_refl _) (wr_whole (Eq.trans (rfl : _ = 64) (by rw [u8s_length, wat_len hw (by omega)] : (u8s (wat ws p.toNat).2).length = 64).symm)) rfl ?_
 refine nx J8 ?_
 refine TC.ret ?_
 refine TE.blockRet ?_
 refine TE.passRet ?_
 refine TE.passRet ?_
 refine TE.blockRet ?_
 refine TE.passRet ?_
 refine TE.retC (H' := [blkA d [(.map (some m)), wv, (.bool (ar)), (.int .i64 (lf)), (.bool (dn))] 125, mapP m (kvS s), own wv (ws.length) (wflat ws) 156 65]) rfl rfl Tryz.underlying109 rfl sz109 (RO 0) (by rw [u8s_length]; exact wat_len hw (by omega)) (fun _ s => sep_keep [1, 1, 1] rfl s) ?_
 have e := readN_hit (s := s) h25
 rw [show p.toNat + 1 = (p + 1).toNat by omega, hp3] at e
 exact ⟨by rw [e]; rfl, rfl⟩
 refine nx J7 ?_
 refine CN ?_
 refine TC.skip ?_
 refine TE.blockEnd ?_
 refine TE.next J6 ?_
 refine TC.region ?_
 refine PS ?_
 refine tp (PV.sub rfl rfl rfl (wrap_i64 (by omega) (by omega))) ?_
 refine PS ?_
 refine TL.nil ?_
 exact TE.round ((p - 1) : (Int)) ⟨by omega, by omega, by rw [← hp3, show (p + 1).toNat = p.toNat + 1 by omega, readN_miss h25]; congr 1; omega⟩ (by show (p - 1 + 1).toNat < (p + 1).toNat; omega)
   (Sub.r (Sub.r (Sub.r (Sub.r (Sub.nil _)))))
   (fun _ s => s)
 refine nx J5 ?_
 refine CN ?_
 refine TC.exit ?_
 refine TE.pass ?_
 refine TE.pass ?_
 refine TE.hit ?_
 refine TE.next J2 ?_
 refine sr fun _ J9 => ?_
 refine PS ?_
 refine PS ?_
 refine FA 0 Tryz.underlying125 sz122 ?_
 refine LA 1 Tryz.underlying122 ?_
 refine PS ?_
 refine tp (PV.lookup rfl Tryz.underlying122 Tryz.underlying3 z109 rfl rfl (RdM.own 2 rfl rfl) (kget_kvS _ _)) ?_
 refine TL.store (vs := u8s (sget s at')) (i := 0) (Want.plain rfl) rfl rfl rfl rfl rfl (by rw [u8s_length, sget_whole hs2]; exact sz109) (u8s_one _) rfl rfl (by rw [u8s_length, sget_whole hs2]; exact Nat.le_refl _) (wr_whole (Eq.trans (rfl : _ = 64) (by rw [u8s_length, sget_whole hs2] : (u8s (sget s at')).length = 64).symm)) rfl ?_
 refine nx J9 ?_
 refine TC.ret ?_
 refine TE.retC (H' := [blkA d [(.map (some m)), wv, (.bool (ar)), (.int .i64 (lf)), (.bool (dn))] 125, mapP m (kvS s), own wv (ws.length) (wflat ws) 156 65]) rfl rfl Tryz.underlying109 rfl sz109 (RO 0) (by rw [u8s_length]; exact sget_whole hs2 _) (fun _ s => sep_keep [1, 1, 1] rfl s) ?_
 rw [show (p + 1).toNat = 0 by omega] at hp3
 exact ⟨by rw [← hp3]; rfl, rfl⟩
theorem dr_crash_does (d m : Nat) (wv : Value) (s ws : Secs) (ar dn : Bool) (lf mask torn n : Int) (hs1 : Whole s) (hw : Whole ws) :
    Leg.Does Tryz.prog 45 #[(.pointer (some ⟨d, 0, none⟩)), (.int .i64 (mask)), (.int .i64 (torn)), (.int .i64 (n))] (fun _ => True) [blkA d [(.map (some m)), wv, (.bool (ar)), (.int .i64 (lf)), (.bool (dn))] 125, mapP m (kvS s), own wv (ws.length) (wflat ws) 156 65] (Ret (fun _ H => H = [blkA d [(.map (some m)), (.slice none 0 0), (.bool false), (.int .i64 0), (.bool false)] 125, mapP m (kvS (crashN mask torn (cutN n) s ws ws.length)), own (.slice none 0 0) 0 [] 156 65])) := by
 refine Leg.Does.body (n := 70) Tryz.func45 rfl rfl rfl (fun w0 F hF => ?_)
 refine sr fun _ J1 => ?_
 refine TL.ownLen 2 rfl rfl (fun hwl _ => ?_)
 refine PS ?_
 refine tp (PV.maxI rfl rfl rfl) ?_
 refine tp (PV.to (v' := (.int .i64 (((cutN n : Nat) : Int)))) (PV.minI rfl rfl rfl) (congrArg (Value.int .i64) (cutN_eq n))) ?_
 refine PS ?_
 refine nx J1 ?_
 refine TC.seq fun _ J2 => ?_
 refine sr fun _ J3 => ?_
 refine PS ?_
 refine PS ?_
 refine FA 1 Tryz.underlying125 sz123 ?_
 refine LA 0 Tryz.underlying123 ?_
 refine tp (PV.lenV rfl Tryz.underlying123 rfl hwl) ?_
 refine PS ?_
 refine nx J3 ?_
 refine TC.block ?_
 refine TC.loop (α := (Nat) × (Secs)) (fun ⟨k, s'⟩ => k ≤ ws.length ∧ s' = crashN mask torn (cutN n) s ws k) (fun ⟨k, s'⟩ => [(0, (.pointer (some ⟨d, 0, none⟩))), (1, (.int .i64 (mask))), (2, (.int .i64 (torn))), (3, (.int .i64 (((cutN n : Nat) : Int)))), (17, wv), (18, (.int .i64 (((ws.length : Nat) : Int)))), (19, (.int .i64 (((k : Nat) : Int))))]) (fun ⟨k, s'⟩ => [blkA d [(.map (some m)), wv, (.bool (ar)), (.int .i64 (lf)), (.bool (dn))] 125, mapP m (kvS s'), own wv (ws.length) (wflat ws) 156 65]) (fun ⟨k, s'⟩ => ws.length - k) (0, s)
     ⟨Nat.zero_le _, rfl⟩ (Sub.r (Sub.r (Sub.r (Sub.r (Sub.r (Sub.r (Sub.cons rfl (by congr 1) (Sub.nil _))))))))
     (fun _ s => s) (fun ⟨k, s'⟩ hinv => ?_)
 obtain ⟨hk, hs'⟩ := hinv
 have hs2 : Whole s' := by rw [hs']; exact hs1.crash hw k hk
 have hcn := cutN_le n
 refine sr fun _ J4 => ?_
 refine PS ?_
 refine TL.dec (fun h20 => ?_) (fun h20 => ?_)
 refine TL.ownAt 2 rfl rfl (by omega) (fun g cap hv hcap => ?_)
 refine nx J4 ?_
 refine TC.seq fun _ J5 => ?_
 refine CY ?_
 refine CX J5 ?_
 refine TC.seq fun _ J6 => ?_
 refine TC.block ?_
 refine sr fun _ J7 => ?_
 refine PS ?_
 refine tp (PV.indexSlV (r := k * 65) hv rfl Tryz.underlying123 sz156 rfl rfl (by omega) (by omega) (by omega)) ?_
 refine tp (PV.loadNX (vs := wcell (wat ws k)) rfl Tryz.underlying156 rfl sz156 rfl (RdX.own 2 rfl hv rfl) (wcell_len (wat_len hw (by omega))) (wflat_atN hw (by omega))) ?_
 refine TL.alloc (Want.plain rfl) rfl rfl rfl z156 (fun b9 => ?_)
 refine PS ?_
 refine TL.store (vs := wcell (wat ws k)) (i := 0) (Want.plain rfl) rfl rfl rfl rfl rfl (by rw [wcell_len (wat_len hw (by omega))]; exact sz156) (wcell_one _) rfl rfl (by rw [wcell_len (wat_len hw (by omega))]; exact Nat.le_refl _) (wr_whole (Eq.trans (rfl : _ = 65) (by rw [wcell_len (wat_len hw (by omega))] : (wcell (wat ws k)).length = 65).symm)) rfl ?_
 refine nx J7 (sr fun _ J8 => ?_)
 refine PS ?_
 refine PS ?_
 refine PS ?_
 refine TL.dec (fun h26 => ?_) (fun h26 => ?_)
 refine nx J8 ?_
 refine CY ?_
 refine TC.seq fun _ J9 => ?_
 refine TC.draw (fun w => Frm F w ∧ w.heap[d]? = some (.cells ([(.map (some m)), wv, (.bool (ar)), (.int .i64 (lf)), (.bool (dn))]).toArray 125 (0, 0)) ∧ Hm m (kvS s') w ∧ w.heap[b9]? = some (.cells (wcell (wat ws k)).toArray 156 (0, 0)) ∧ True) mixedD rfl (fun _ s => ⟨Frm.of s, s.block 1 (lb rfl) rfl, s.map 2 rfl rfl, s.block 0 (lb rfl) rfl, trivial⟩) ?_
 refine PD 0 ?_
 refine PD 1 ?_
 refine FD 2 0 Tryz.underlying125 sz122 ?_
 refine ta 3 rfl (PV.load1 (v := (.map (some m))) rfl Tryz.underlying122 rfl rfl (fun _ h => h.2.1) rfl) ?_
 refine FD 4 0 Tryz.underlying156 sz3 ?_
 refine ta 5 rfl (PV.load1 (v := (.int .i64 ((wat ws k).1))) rfl Tryz.underlying3 rfl rfl (fun _ h => h.2.2.2.1) rfl) ?_
 refine ta 6 rfl (PV.lookup rfl Tryz.underlying122 Tryz.underlying3 z109 rfl rfl (fun _ h => h.2.2.1) (kget_kvS _ _)) ?_
 refine TD.all [7] (by kernel_rfl) rfl ?_
 refine AllT.cons rfl ?_ ?_
 refine TL.alloc (Want.plain rfl) rfl rfl rfl z109 (fun b10 => ?_)
 refine TL.nil ?_
 refine TE.draw (fun _ s => ⟨Frm.of s, s.block 2 (lb rfl) rfl, s.map 3 rfl rfl, s.block 1 (lb rfl) rfl, trivial⟩) ?_
 refine TD.all [8] (by kernel_rfl) rfl ?_
 refine AllT.cons rfl ?_ ?_
 refine TL.store (vs := u8s (sget s' ((wat ws k).1))) (i := 0) (Want.plain rfl) rfl rfl rfl rfl rfl (by rw [u8s_length, sget_whole hs2]; exact sz109) (u8s_one _) rfl rfl (by rw [u8s_length, sget_whole hs2]; exact Nat.le_refl _) (wr_whole (Eq.trans (rfl : _ = 64) (by rw [u8s_length, sget_whole hs2] : (u8s (sget s' ((wat ws k).1))).length = 64).symm)) rfl ?_
 refine TL.nil ?_
 refine TE.draw (fun _ s => ⟨Frm.of s, s.block 2 (lb rfl) rfl, s.map 3 rfl rfl, s.block 1 (lb rfl) rfl, trivial⟩) ?_
 refine TD.done (by kernel_rfl) ?_
 refine TE.next J9 ?_
 refine TC.seq fun _ J10 => ?_
 refine D1 1 mixedD ?_
 refine PD 0 ?_
 refine ta 1 rfl (PV.sliceArrHi (k := cutN n) rfl Tryz.underlying109 sz5 rfl rfl (by omega) (by omega) rfl) ?_
 refine FD 2 1 Tryz.underlying156 sz109 ?_
 refine PD 3 ?_
 refine ta 4 rfl (PV.sliceArrHi (k := cutN n) rfl Tryz.underlying109 sz5 rfl rfl (by omega) (by omega) rfl) ?_
 refine TD.all [5] (by kernel_rfl) rfl ?_
 refine AllT.cons rfl ?_ ?_
 refine TL.copy (i := 0) (m := cutN n) (news := ((u8s (wat ws k).2).take (cutN n))) (H' := [blkA b10 (u8s (tornS (sget s' ((wat ws k).1)) (wat ws k).2 (cutN n))) 109, blkA b9 (wcell (wat ws k)) 156, blkA d [(.map (some m)), wv, (.bool (ar)), (.int .i64 (lf)), (.bool (dn))] 125, mapP m (kvS s'), own wv (ws.length) (wflat ws) 156 65]) (Want.plain rfl) rfl rfl rfl Tryz.underlying72 sz5 rfl rfl rfl rfl (fun _ _ => Src.rd (by rw [List.length_take, u8s_length, wat_len hw (by omega)]; have := cutN_le n; omega) (RO 1) (by rw [List.length_take, u8s_length, wat_len hw (by omega)]; exact wcell_tailN (wat_len hw (by omega)) (cutN_le n))) (fun u hu => u8s_one _ u (List.mem_of_mem_take hu)) (by rw [u8s_length, sget_whole hs2]; have := cutN_le n; omega) (torn_copy (cutN_le n) (sget_whole hs2 _) (wat_len hw (by omega)) (by omega)) rfl ?_
 refine TL.nil ?_
 refine E1 1 ?_
 refine TD.done (by kernel_rfl) ?_
 refine TE.next J10 ?_
 refine TC.region ?_
 refine PS ?_
 refine FA 0 Tryz.underlying156 sz3 ?_
 refine LA 1 Tryz.underlying3 ?_
 refine tp (PV.loadN (vs := u8s (tornS (sget s' ((wat ws k).1)) (wat ws k).2 (cutN n))) rfl Tryz.underlying109 rfl sz109 rfl (RO 0) (by rw [u8s_length]; exact tornS_len (sget_whole hs2 _) (wat_len hw (by omega))) (take_all (by rw [u8s_length]; exact tornS_len (sget_whole hs2 _) (wat_len hw (by omega))))) ?_
 refine CR nm86 (dr_last_does d m wv s' ar (dn) lf ((wat ws k).1) (tornS (sget s' ((wat ws k).1)) (wat ws k).2 (cutN n)) (by exact tornS_len (sget_whole hs2 _) (wat_len hw (by omega)))) (SM [2, 2]) fun vR HR hR => ?_
 subst hR
 refine TL.nil ?_
 refine TE.blockEnd ?_
 refine TE.next J6 ?_
 refine TC.region ?_
 refine tp (PV.add rfl rfl rfl (wrap_i64 (by omega) (by omega))) ?_
 refine PS ?_
 refine TL.nil ?_
 exact TE.round ((k + 1, sput s' (wat ws k).1 (tornS (sget s' (wat ws k).1) (wat ws k).2 (cutN n))) : (Nat) × (Secs)) ⟨by omega, by rw [hs', crashN, crashStep, if_pos h26]⟩ (by show ws.length - (k + 1) < ws.length - k; omega)
   (Sub.r (Sub.r (Sub.r (Sub.r (Sub.r (Sub.r (Sub.cons rfl (by simp) (Sub.nil _))))))))
   (fun _ s => sep_keep [0, 0, 2] rfl s)
 exact AllT.nil
 exact AllT.nil
 exact AllT.nil
 refine nx J8 ?_
 refine CN ?_
 refine sr fun _ J11 => ?_
 refine PS ?_
 refine PS ?_
 refine tp (PV.rem (r := ((k % 32 : Nat) : Int)) rfl rfl rfl (by omega) (by rw [show (32 : Int) = ((32 : Nat) : Int) from rfl, ← Int.ofNat_tmod])) ?_
 refine tp (PV.shr (r := mask.fdiv (2 ^ (k % 32))) rfl rfl rfl (by omega) (by congr 2; show min ((k % 32 : Nat) : Int).toNat 64 = k % 32; omega)) ?_
 refine tp (PV.and (r := mask.fdiv (2 ^ (k % 32)) % 2) rfl rfl rfl (and1 _)) ?_
 refine PS ?_
 refine TL.dec (fun h50 => ?_) (fun h50 => ?_)
 refine nx J11 ?_
 refine CY ?_
 refine TC.region ?_
 refine PS ?_
 refine FA 0 Tryz.underlying156 sz3 ?_
 refine LA 0 Tryz.underlying3 ?_
 refine FA 1 Tryz.underlying156 sz109 ?_
 refine tp (PV.loadN (vs := u8s (wat ws k).2) rfl Tryz.underlying109 rfl sz109 rfl (RO 0) (by rw [u8s_length]; exact wat_len hw (by omega)) (wcell_tail (wat_len hw (by omega)))) ?_
 refine CR nm86 (dr_last_does d m wv s' ar (dn) lf ((wat ws k).1) (wat ws k).2 (by exact wat_len hw (by omega))) (SM [1, 1]) fun vR HR hR => ?_
 subst hR
 refine TL.nil ?_
 refine TE.blockEnd ?_
 refine TE.next J6 ?_
 refine TC.region ?_
 refine tp (PV.add rfl rfl rfl (wrap_i64 (by omega) (by omega))) ?_
 refine PS ?_
 refine TL.nil ?_
 exact TE.round ((k + 1, sput s' (wat ws k).1 (wat ws k).2) : (Nat) × (Secs)) ⟨by omega, by rw [hs', crashN, crashStep, if_neg h26, if_pos h50]⟩ (by show ws.length - (k + 1) < ws.length - k; omega)
   (Sub.r (Sub.r (Sub.r (Sub.r (Sub.r (Sub.r (Sub.cons rfl (by simp) (Sub.nil _))))))))
   (fun _ s => sep_keep [0, 0, 1] rfl s)
 refine nx J11 ?_
 refine CN ?_
 refine TC.skip ?_
 refine TE.blockEnd ?_
 refine TE.next J6 ?_
 refine TC.region ?_
 refine tp (PV.add rfl rfl rfl (wrap_i64 (by omega) (by omega))) ?_
 refine PS ?_
 refine TL.nil ?_
 exact TE.round ((k + 1, s') : (Nat) × (Secs)) ⟨by omega, by rw [crashN, crashStep, if_neg h26, if_neg h50]; exact hs'⟩ (by show ws.length - (k + 1) < ws.length - k; omega)
   (Sub.r (Sub.r (Sub.r (Sub.r (Sub.r (Sub.r (Sub.cons rfl (by simp) (Sub.nil _))))))))
   (fun _ s => sep_keep [1, 1, 1] rfl s)
 refine nx J4 ?_
 refine TC.seq fun _ J12 => ?_
 refine CN ?_
 refine TC.exit ?_
 refine TE.pass ?_
 refine TE.pass ?_
 refine TE.hit ?_
 refine TE.next J2 ?_
 refine TC.region ?_
 refine PS ?_
 refine PS ?_
 refine PS ?_
 refine PS ?_
 refine PS ?_
 refine FA 1 Tryz.underlying125 sz123 ?_
 refine S0 0 sz123 ?_
 refine PS ?_
 refine FA 2 Tryz.underlying125 sz4 ?_
 refine S0 0 sz4 ?_
 refine PS ?_
 refine FA 3 Tryz.underlying125 sz3 ?_
 refine S0 0 sz3 ?_
 refine PS ?_
 refine FA 4 Tryz.underlying125 sz4 ?_
 refine S0 0 sz4 ?_
 refine TL.nil ?_
 refine TE.weak (H' := [blkA d [(.map (some m)), (.slice none 0 0), (.bool false), (.int .i64 0), (.bool false)] 125, mapP m (kvS s'), own (.slice none 0 0) 0 [] 156 65]) (Sub.refl _) (fun _ s => sep_perm (List.Perm.trans (List.Perm.swap _ _ _) (List.Perm.cons _ (List.Perm.swap _ _ _))) (sep_ownNil 156 65 (sep_keep [0, 0] rfl s))) ?_
 refine TE.end0 rfl ?_
 obtain rfl : k = ws.length := by omega
 subst hs'
 exact rfl
theorem sg109 : Tryz.prog.eqGuardType Tryz.prog.depth 109 = false := by kernel_rfl
theorem sk109 : Tryz.prog.keyTypeAt 2 109 = true := by kernel_rfl
theorem sf109 : flatK Tryz.prog 2 109 = some (List.replicate 64 (some .u8)) := by kernel_rfl
theorem sa109 : aggT Tryz.prog 109 = true := by kernel_rfl
theorem sc109 : Tryz.prog.cellsOf 109 = 64 := by kernel_rfl

abbrev dk (d : Nat) (D : DS) : HP := diskP 125 156 d D

theorem dk_down (d : Nat) (D : DS)  : Leg.Does Tryz.prog 40 #[(.pointer (some ⟨d, 0, none⟩))] (fun _ => True) [dk d D] (Ret (fun v H => v = .bool D.dn ∧ H = [dk d (D)])) := Leg.Does.pack (B := []) fun ⟨m, wv⟩ =>
  Leg.Does.withinR (dr_down_does d m wv D.ar D.dn D.lf) (B := [mapP m (kvS D.s), own wv D.ws.length (wflat D.ws) 156 65]) (fun _ _ _ _ => trivial) (fun _ s => s) (fun v H h => by
    obtain ⟨rfl, rfl⟩ := h
    exact ⟨_, fun _ s => sep_close (H := []) (m, wv) (s), rfl, rfl⟩)

theorem dk_read (d : Nat) (D : DS) (at' : Int) (hD : D.Ok) (hb : D.ws.length ≤ 1000000000) : Leg.Does Tryz.prog 94 #[(.pointer (some ⟨d, 0, none⟩)), .int .i64 at'] (fun _ => True) [dk d D] (Ret (fun v H => v = secV (D.read at') ∧ H = [dk d (D)])) := Leg.Does.pack (B := []) fun ⟨m, wv⟩ =>
  Leg.Does.withinR (dr_read_does d m wv D.s D.ws D.ar D.dn D.lf at' hD.s hD.ws hb) (B := []) (fun _ _ _ _ => trivial) (fun _ s => s) (fun v H h => by
    obtain ⟨rfl, rfl⟩ := h
    exact ⟨_, fun _ s => sep_close (H := []) (m, wv) (s), rfl, rfl⟩)

theorem dk_crash (d : Nat) (D : DS) (mask torn n : Int) (hD : D.Ok) : Leg.Does Tryz.prog 45 #[(.pointer (some ⟨d, 0, none⟩)), .int .i64 mask, .int .i64 torn, .int .i64 n] (fun _ => True) [dk d D] (Ret (fun v H => True ∧ H = [dk d (D.crash mask torn n)])) := Leg.Does.pack (B := []) fun ⟨m, wv⟩ =>
  Leg.Does.withinR (dr_crash_does d m wv D.s D.ws D.ar D.dn D.lf mask torn n hD.s hD.ws) (B := []) (fun _ _ _ _ => trivial) (fun _ s => s) (fun v H h => by
    subst h
    exact ⟨_, fun _ s => sep_close (H := []) (m, (.slice none 0 0 : Value)) s, trivial, rfl⟩)

theorem dk_write (d : Nat) (D : DS) (at' : Int) (x : Value) (bs : List UInt8) (hD : D.Ok) (hb : D.ws.length ≤ 1000000000) : Leg.Does Tryz.prog 56 #[(.pointer (some ⟨d, 0, none⟩)), .int .i64 at', x] (IsW x bs) [dk d D] (Ret (fun v H => v = .int .i64 (D.write at' bs).1 ∧ H = [dk d ((D.write at' bs).2)])) := Leg.Does.pack (B := []) fun ⟨m, wv⟩ =>
  Leg.Does.withinR (dr_write_does d m wv D.ws D.ar D.dn D.lf at' x bs hD.lf hb) (B := [mapP m (kvS D.s)]) (fun _ _ h d => h.more d) (fun _ s => sep_selR [0, 1] rfl s) (fun v H h => by
    unfold DS.write
    replace h : (if at' < 0 ∨ 2048 ≤ at' ∨ 64 < bs.length then _ else _) := h
    split at h <;> rename_i h1
    · rw [if_pos h1]
      obtain ⟨rfl, rfl⟩ := h
      exact ⟨_, fun _ s => sep_close (H := []) (m, wv) (sep_selR [0, 1] rfl s), rfl, rfl⟩
    · rw [if_neg h1]
      split at h <;> rename_i h2
      · rw [if_pos h2]
        obtain ⟨rfl, rfl⟩ := h
        exact ⟨_, fun _ s => sep_close (H := []) (m, wv) (sep_selR [0, 1] rfl s), rfl, rfl⟩
      · rw [if_neg h2]
        obtain ⟨rfl, wv', rfl⟩ := h
        exact ⟨_, fun _ s => sep_close (H := []) (m, wv') (sep_selR [0, 1] rfl s), rfl, rfl⟩)

theorem dk_sync (d : Nat) (D : DS) (hD : D.Ok) : Leg.Does Tryz.prog 57 #[(.pointer (some ⟨d, 0, none⟩))] (fun _ => True) [dk d D] (Ret (fun v H => v = .int .i64 D.sync.1 ∧ H = [dk d D.sync.2])) := by
  obtain ⟨s, ws, ar, lf, dn⟩ := D
  cases dn
  · exact Leg.Does.pack (B := []) fun ⟨m, wv⟩ => Leg.Does.withinR (dr_syncUp_does d m wv s ws ar lf hD.ws) (B := []) (fun _ _ _ _ => trivial) (fun _ s => s) (fun v H h => by
      obtain ⟨rfl, rfl⟩ := h
      exact ⟨_, fun _ s => sep_close (H := []) (m, (.slice none 0 0 : Value)) s, rfl, rfl⟩)
  · exact Leg.Does.pack (B := []) fun ⟨m, wv⟩ => Leg.Does.withinR (dr_syncDown_does d m wv ar lf) (B := [mapP m (kvS s), own wv ws.length (wflat ws) 156 65]) (fun _ _ _ _ => trivial) (fun _ s => s) (fun v H h => by
      obtain ⟨rfl, rfl⟩ := h
      exact ⟨_, fun _ s => sep_close (H := []) (m, wv) s, rfl, rfl⟩)

theorem dk_new : Leg.Does Tryz.prog 37 #[] (fun _ => True) [] (Ret (fun v H => ∃ d, v = .pointer (some ⟨d, 0, none⟩) ∧ H = [dk d DS.new])) :=
  Leg.Does.withinR dr_new_does (B := []) (fun _ _ _ _ => trivial) (fun _ s => s) (fun v H h => by
    obtain ⟨d, m, rfl, rfl⟩ := h
    exact ⟨_, fun _ s => sep_close (H := []) (m, (.slice none 0 0 : Value)) (sep_perm (List.Perm.trans (List.Perm.swap _ _ _) (List.Perm.cons _ (List.Perm.swap _ _ _))) (sep_ownNil 156 65 s)), d, rfl, rfl⟩)

end Go.Proofs.YtobdfjdoilnfcaaGreat
end

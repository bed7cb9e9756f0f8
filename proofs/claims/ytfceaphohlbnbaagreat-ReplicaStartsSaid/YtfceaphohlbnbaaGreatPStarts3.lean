/-
  Joined texts: what a statement's proof reaches.
-/
import Derived.Laws.MakeOwn
import Derived.OwnWalk
import Derived.OpenShut
import Derived.Deep.Slices
import Derived.ChangeArms
import Derived.Test.YtfceaphohlbnbaaGreatPStarts2
set_option maxHeartbeats 8000000
section
namespace Leg
open Go Codec Api

theorem madeCells_one (v : Value) (n : Nat) : madeCells #[v] n = (List.replicate n v).toArray := by
  unfold madeCells
  apply Array.ext
  · simp
  · intro i h1 h2
    simp at h1
    simp [Nat.mod_one]
theorem u8s_rep (n : Nat) : u8s (List.replicate n 0) = List.replicate n (.int .u8 0) := by simp [u8s]
section
variable {P : Program} {w0 : World} {F : Hl} {n : Nat} {ops : Array Oper} {Q : QQ} {D : List Deferred} {L : List (Nat × Value)} {H : List HP} {o : Oper} {l : List Oper} {d : Nat} {S : World → Prop}
theorem TL.mono {H' : List HP} (m : ∀ h, sep H h → sep H' h) (h : TL P w0 F n ops Q l D L H') : TL P w0 F n ops Q l D L H := TL.weak (Sub.refl _) m h
theorem TC.mono {c : Code} {H' : List HP} (m : ∀ h, sep H h → sep H' h) (h : TC P w0 F n c Q D L H') : TC P w0 F n c Q D L H := TC.weak (Sub.refl _) m h
theorem TL.makeB {t e : TypeId} {x y : Operand} {k k' : IntKind} {a b : Int} (m c : Nat) (hw : Want n D ops o L) (ho : o.op = .makeSlice t x y) (hd : o.dst = some d) (hn : Nat.blt d n = true) (ht : P.underlying t = some (.slice e))
    (hi : (P.info? e).map (fun i => (i.zero, i.size, i.bytes)) = some (some (.int .u8 0), 1, 1)) (hx : evL L x = some (.int k a)) (hy : evL L y = some (.int k' b)) (ha : a = (m : Int)) (hb : b = (c : Int)) (h1 : m ≤ c) (h2 : c ≤ 281474976710656)
    (h : ∀ b, TL P w0 F n ops Q l D ((d, .slice (some ⟨b, 0, none⟩) m c) :: L) (blkA b (u8s (List.replicate c 0)) e :: H)) : TL P w0 F n ops Q (o :: l) D L H :=
  TL.step hw fun a w f sm q => by
    subst ha; subst hb
    obtain ⟨i, hie, hz0, hs, hb⟩ := info_parts hi
    have hr := run_make (P := P) w t e i (.int .u8 0) ht hie hz0 k k' (m : Int) (c : Int) (by omega) (by omega) (by rw [hb]; omega) (by omega)
    have e1 : madeCells (Value.cells (.int .u8 0)) ((c : Int).toNat * i.size) = (u8s (List.replicate c 0)).toArray := by
      rw [hs, Nat.mul_one, Int.toNat_natCast, u8s_rep]
      exact madeCells_one _ _
    rw [e1] at hr
    simp only [Int.toNat_natCast] at hr
    have r : (execOp a.eval o).run P w = .ok (.value (.slice (some ⟨w.heap.size, 0, none⟩) m c)) (w.alloc (.cells (u8s (List.replicate c 0)).toArray e)) := by
      simp only [execOp, ho, f.eval hx, f.eval hy, Sem.run_bind, hr, Result.andThen_ok, Sem.run_pure]
    unfold Oper.wp
    rw [r, Oper.upon_value, hd]
    exact h _ _ _ (f.put (lb hn) _) (sm.trans ⟨rfl, rfl, rfl, by simp⟩) (q.alloc _)

/-! ### Cuts -/
/-- x[lo:hi] -/
def cutLH : Value → Nat → Nat → Value
  | .slice a m c, lo, hi => .slice (if c = lo then a else a.map (·.add lo)) (hi - lo) (c - lo)
  | v, _, _ => v
theorem PV.sliceLH {t e : TypeId} {x y z : Operand} {a : Option Addr} {len cap lo hi : Nat} {k k' : IntKind} {i j : Int} (ho : o.op = .slice t x (some y) (some z) none) (ht : P.underlying t = some (.slice e)) (hs : (P.info? e).map (·.size) = some 1)
    (hx : evL L x = some (.slice a len cap)) (hy : evL L y = some (.int k i)) (hz : evL L z = some (.int k' j)) (hi' : i = (lo : Int)) (hj : j = (hi : Int)) (h1 : lo ≤ hi) (h2 : hi ≤ cap) : PV P n D L S o (cutLH (.slice a len cap) lo hi) :=
  fun b w g _ => by
    subst hi'; subst hj
    simp only [execOp, ho, g.eval hx, Option.map_some, Option.map_none, g.eval hy, g.eval hz, cutLH]
    by_cases q : cap = lo
    · have e2 : hi = lo := by omega
      subst e2
      simp [Instr.sliceAt, Instr.slice, run_underlying ht, Instr.sliceBounds, Instr.sliceBound, asIntOf, run_sizeL hs, q]
    · simp [Instr.sliceAt, Instr.slice, run_underlying ht, Instr.sliceBounds, Instr.sliceBound, asIntOf, h1, h2, run_sizeL hs, q]
theorem PV.sliceH {t e : TypeId} {x z : Operand} {a : Option Addr} {len cap hi : Nat} {k' : IntKind} {j : Int} (ho : o.op = .slice t x none (some z) none) (ht : P.underlying t = some (.slice e)) (hs : (P.info? e).map (·.size) = some 1)
    (hx : evL L x = some (.slice a len cap)) (hz : evL L z = some (.int k' j)) (hj : j = (hi : Int)) (h2 : hi ≤ cap) : PV P n D L S o (cutLH (.slice a len cap) 0 hi) :=
  fun b w g _ => by
    subst hj
    simp only [execOp, ho, g.eval hx, Option.map_some, Option.map_none, g.eval hz, cutLH]
    by_cases q : cap = 0
    · have e2 : hi = 0 := by omega
      subst e2
      simp [Instr.sliceAt, Instr.slice, run_underlying ht, Instr.sliceBounds, Instr.sliceBound, asIntOf, run_sizeL hs, q]
    · simp [Instr.sliceAt, Instr.slice, run_underlying ht, Instr.sliceBounds, Instr.sliceBound, asIntOf, h2, run_sizeL hs, q]
theorem PV.sliceL {t e : TypeId} {x y : Operand} {a : Option Addr} {len cap lo : Nat} {k : IntKind} {i : Int} (ho : o.op = .slice t x (some y) none none) (ht : P.underlying t = some (.slice e)) (hs : (P.info? e).map (·.size) = some 1)
    (hx : evL L x = some (.slice a len cap)) (hy : evL L y = some (.int k i)) (hi : i = (lo : Int)) (h1 : lo ≤ len) : PV P n D L S o (cutLH (.slice a len cap) lo len) :=
  fun b w g _ => by
    subst hi
    simp only [execOp, ho, g.eval hx, Option.map_some, Option.map_none, g.eval hy, cutLH]
    by_cases q : cap = lo
    · simp [Instr.sliceAt, Instr.slice, run_underlying ht, Instr.sliceBounds, Instr.sliceBound, asIntOf, h1, run_sizeL hs, q]
    · simp [Instr.sliceAt, Instr.slice, run_underlying ht, Instr.sliceBounds, Instr.sliceBound, asIntOf, h1, run_sizeL hs, q]
end
theorem IsW.form {v : Value} {bs : List UInt8} {F : Hl} (h : IsW v bs F) : ∃ a c, v = .slice a bs.length c ∧ bs.length ≤ c ∧ (bs.length = 0 ∨ c ≤ 9223372036854775807) := by
  rcases h with (⟨rfl, rfl⟩ | ⟨b, off, cap, cs, T, z, rfl, h1, h2, _⟩) | ⟨a, c, rfl, rfl⟩
  · exact ⟨_, _, rfl, Nat.le_refl _, .inl rfl⟩
  · exact ⟨_, _, rfl, h1, .inr h2⟩
  · exact ⟨_, _, rfl, Nat.zero_le _, .inl rfl⟩
theorem IsW.lt {v : Value} {bs : List UInt8} {F : Hl} (h : IsW v bs F) : bs.length ≤ 9223372036854775807 := by
  obtain ⟨a, c, _, h1, h2⟩ := h.form
  omega
theorem IsW.cut {v : Value} {bs : List UInt8} {F : Hl} (h : IsW v bs F) {lo hi : Nat} (h1 : lo ≤ hi) (h2 : hi ≤ bs.length) : IsW (cutLH v lo hi) ((bs.take hi).drop lo) F := by
  have hl : ((bs.take hi).drop lo).length = hi - lo := by simp; omega
  by_cases e : hi - lo = 0
  · obtain ⟨a, c, rfl, hc, _⟩ := h.form
    have e0 : (bs.take hi).drop lo = [] := List.eq_nil_of_length_eq_zero (by omega)
    rw [e0]
    simp only [cutLH, e]
    split
    · cases a with
      | some a => exact .inr ⟨_, _, rfl, rfl⟩
      | none =>
        rcases h with (⟨h, rfl⟩ | ⟨b, off, cap, cs, T, z, h, _⟩) | ⟨a, c, h, _⟩
        · injection h with _ _ h; subst h; exact .inl (.inl ⟨by simp, rfl⟩)
        · simp at h
        · simp at h
    · cases a with
      | some a => exact .inr ⟨_, _, rfl, rfl⟩
      | none =>
        rcases h with (⟨h, rfl⟩ | ⟨b, off, cap, cs, T, z, h, _⟩) | ⟨a, c, h, _⟩
        · injection h with _ _ h; subst h; exact .inl (.inl ⟨by simp, rfl⟩)
        · simp at h
        · simp at h
  · obtain ⟨b, off, cap, cs, T, z, rfl, hb, hcs, hc⟩ := h.at (j := 0) (by omega)
    rcases h.form with ⟨a, c, hv, _, hm⟩
    injection hv with _ _ hv
    subst hv
    refine .inl (.inr ⟨b, off + lo, cap - lo, cs, T, z, ?_, by omega, by omega, hb, fun j hj => ?_⟩)
    · simp only [cutLH, hl, if_neg (show ¬ cap = lo by omega), Option.map_some, addL]
    · rw [hl] at hj
      rw [Nat.add_assoc, hcs (lo + j) (by omega)]
      congr 2
      simp [List.getD_eq_getElem?_getD, List.getElem?_take, show lo + j < hi by omega]

/-! ### Bytes that are owned, wherever in their block -/
def subB (v : Value) (bs : List UInt8) (e : Nat) : HP := fun h =>
  (v = .slice none 0 0 ∧ bs = [] ∧ h = em) ∨ ∃ g off cap cur, v = .slice (some ⟨g, off, none⟩) bs.length cap ∧ h = sg g (.cells cur e (0, 0)) ∧ bs.length ≤ cap ∧ cap ≤ maxLen ∧ off + cap ≤ cur.size ∧ (cur.toList.drop off).take bs.length = u8s bs
theorem subB_of_own {v : Value} {bs : List UInt8} {e : Nat} {h : Hl} (x : ownB v bs e h) : subB v bs e h := by
  rcases x with ⟨_, ⟨h1, h2, h3⟩ | ⟨g, cap, cur, h1, h2, h3, h4, h5, h6⟩⟩
  · exact .inl ⟨h1, List.eq_nil_of_length_eq_zero h2, h3⟩
  · exact .inr ⟨g, 0, cap, cur, h1, h2, h3, h4, by omega, by simpa using h6⟩
section
variable {H : List HP} {F : Hl} {v : Value} {bs : List UInt8} {e : Nat}
theorem sep_sub (i : Nat) (hi : Nat.blt i H.length = true) (hH : H.getD i (fun _ => True) = ownB v bs e) {h : Hl} (s : sep H h) : sep (H.set i (subB v bs e)) h :=
  sep_put i (lb hi) (star_mono (sep_get i (lb hi) s) (fun _ x => subB_of_own (by rwa [hH] at x)) fun _ x => x)
theorem sep_ownCut {lo hi nn : Nat} {bs' : List UInt8} (i : Nat) (hi' : Nat.blt i H.length = true) (hH : H.getD i (fun _ => True) = ownB v bs e) {g cap : Nat} (hv : v = .slice (some ⟨g, 0, none⟩) nn cap) (h1 : lo ≤ hi) (h2 : hi ≤ bs.length) (h3 : lo < bs.length) (hb : (bs.take hi).drop lo = bs') {h : Hl} (s : sep H h) :
    sep (H.set i (subB (cutLH v lo hi) bs' e)) h := by
  subst hb
  have hl : ((bs.take hi).drop lo).length = hi - lo := by simp; omega
  refine sep_put i (lb hi') (star_mono (sep_get i (lb hi') s) (fun _ x => ?_) fun _ x => x)
  rw [hH] at x
  rcases x with ⟨_, ⟨h1, h2, _⟩ | ⟨g', cap', cur, h4, h5, h6, h7, h8, h9⟩⟩
  · rw [hv] at h1; simp at h1
  · rw [hv] at h4 ⊢
    simp only [Value.slice.injEq, Option.some.injEq, Addr.mk.injEq, and_true, true_and] at h4
    obtain ⟨rfl, rfl, rfl⟩ := h4
    refine .inr ⟨g, lo, cap - lo, cur, ?_, h5, by omega, by omega, by omega, ?_⟩
    · simp only [cutLH, hl, if_neg (show ¬ cap = lo by omega), Option.map_some, addL, Nat.zero_add]
    · rw [hl]
      rw [Nat.mul_one] at h9
      have e1 := congrArg (fun l : List Value => (l.take hi).drop lo) h9
      simp only [List.take_take, Nat.min_eq_left h2] at e1
      rw [← List.drop_take, e1]
      simp [u8s, List.map_take, List.map_drop]
theorem Sat.sub_form {w : World} (i : Nat) (s : Sat H F w) (hi : Nat.blt i H.length = true) (hH : H.getD i (fun _ => True) = subB v bs e) : (v = .slice none 0 0 ∧ bs = []) ∨ ∃ g off cap cur, v = .slice (some ⟨g, off, none⟩) bs.length cap ∧ w.heap[g]? = some (.cells cur e (0, 0)) ∧ bs.length ≤ cap ∧ cap ≤ maxLen ∧ off + cap ≤ cur.size ∧ (cur.toList.drop off).take bs.length = u8s bs := by
  obtain ⟨h, d, e', x⟩ := s
  obtain ⟨h1, h2, d', rfl, a, _⟩ := sep_get i (lb hi) x
  rw [hH] at a
  rcases a with ⟨x1, x2, _⟩ | ⟨g, off, cap, cur, x1, x2, x3⟩
  · exact .inl ⟨x1, x2⟩
  · refine .inr ⟨g, off, cap, cur, x1, ?_, x3⟩
    have : hp w g = some (.cells cur e (0, 0)) := by
      rw [e', jn_assoc]
      exact jn_some (by rw [x2]; simp [sg])
    exact this
theorem Sat.sub_len {w : World} (i : Nat) (s : Sat H F w) (hi : Nat.blt i H.length = true) (hH : H.getD i (fun _ => True) = subB v bs e) : SlLen v bs.length ∧ v.oneCell' = true := by
  rcases s.sub_form i hi hH with ⟨rfl, rfl⟩ | ⟨g, off, cap, cur, rfl, _⟩
  · exact ⟨⟨_, _, rfl⟩, rfl⟩
  · exact ⟨⟨_, _, rfl⟩, rfl⟩
theorem Src.sub (i : Nat) (hi : Nat.blt i H.length = true) (hH : H.getD i (fun _ => True) = subB v bs e) {w : World} (s : Sat H F w) : Src (Sat H F) v bs.length (u8s bs) 1 := by
  refine ⟨by simp [u8s], ?_⟩
  rcases s.sub_form i hi hH with ⟨rfl, rfl⟩ | ⟨g, off, cap, cur, rfl, _⟩
  · exact .inl ⟨rfl, rfl⟩
  · refine .inr ⟨⟨g, off, none⟩, cap, rfl, fun w s j u hj => ?_⟩
    rcases s.sub_form i hi hH with ⟨h1, _⟩ | ⟨g', off', cap', cur', h1, h2, h3, h4, h5, h6⟩
    · simp at h1
    · simp only [Value.slice.injEq, Option.some.injEq, Addr.mk.injEq, and_true, true_and] at h1
      obtain ⟨⟨rfl, rfl⟩, rfl⟩ := h1
      rw [addL]
      rw [← h6, List.getElem?_take] at hj
      split at hj
      · simp only [World.cell?, h2, Option.isSome_none, Bool.false_eq_true, if_false]
        simpa using hj
      · cases hj
end
theorem run_append_roomO {P : Program} (w : World) (t ty e : TypeId) (i : TypeInfo) (ht : P.underlying t = some (.slice e)) (hi : P.info? e = some i) (g off sLen sCap : Nat) (cur : Array Value) (hg : w.heap[g]? = some (.cells cur e (0, 0)))
    (a : Addr) (m c : Nat) (news : List Value) (hl : news.length = m * i.size) (hnews : ∀ j u, news[j]? = some u → w.cell? (a.add j) = some u) (h1 : ∀ u ∈ news, u.oneCell' = true)
    (hroom : sLen + m ≤ sCap) (hfit : off + sLen * i.size + news.length ≤ cur.size) :
    (Builtin.append_ #[t, t] ty #[.slice (some ⟨g, off, none⟩) sLen sCap, .slice (some a) m c]).run P w =
      .ok (.slice (some ⟨g, off, none⟩) (sLen + m) sCap) (w.setRow g (cur.toList.take (off + sLen * i.size) ++ news ++ cur.toList.drop (off + sLen * i.size + news.length)).toArray) := by
  have hf := run_firstCells_some (P := P) w i.size m a m c news hl hnews
  have hst := run_storeCells_at P g (off + sLen * i.size) e news 0 cur w hg (by simpa using hfit) h1
  simp only [Nat.add_zero] at hst
  simp [Builtin.append_, run_underlying ht, Go.sizeOf, typeInfo, hi, Builtin.lenOf, hroom, hf, Addr.add_lit, hst]
section
variable {P : Program} {w0 : World} {F : Hl} {n : Nat} {ops : Array Oper} {Q : QQ} {D : List Deferred} {L : List (Nat × Value)} {H : List HP} {o : Oper} {l : List Oper} {d : Nat} {S : World → Prop}
theorem Sat.sub_open {w : World} {k : Nat} {v : Value} {bs : List UInt8} {e : TypeId} (s : Sat H F w) (hk : Nat.blt k H.length = true) (hH : H.getD k (fun _ => True) = subB v bs e) :
    (v = .slice none 0 0 ∧ bs = [] ∧ Sat (H.set k (ownB (.slice none 0 0) [] e)) F w) ∨ ∃ g off cap cur, v = .slice (some ⟨g, off, none⟩) bs.length cap ∧ Sat (H.set k (obj g (.cells cur e (0, 0)))) F w ∧ bs.length ≤ cap ∧ cap ≤ maxLen ∧ off + cap ≤ cur.size ∧ (cur.toList.drop off).take bs.length = u8s bs := by
  obtain ⟨h, d, e', x⟩ := s
  obtain ⟨h1, h2, d', rfl, a, y⟩ := sep_get k (lb hk) x
  rw [hH] at a
  rcases a with ⟨x1, x2, x3⟩ | ⟨g, off, cap, cur, x1, x2, x3⟩
  · exact .inl ⟨x1, x2, _, d, e', sep_put k (lb hk) ⟨h1, h2, d', rfl, ⟨rfl, .inl ⟨rfl, rfl, x3⟩⟩, y⟩⟩
  · exact .inr ⟨g, off, cap, cur, x1, ⟨_, d, e', sep_put k (lb hk) ⟨h1, h2, d', rfl, x2, y⟩⟩, x3⟩
theorem Src.of_eq {S' : World → Prop} {x : Value} {m size : Nat} {news : List Value} (h : Src S x m news size) (hS : ∀ w, S' w → S w) : Src S' x m news size := ⟨h.1, h.2.imp id fun ⟨a, c, q3, q4⟩ => ⟨a, c, q3, fun w' s' => q4 w' (hS w' s')⟩⟩
theorem set_same {k : Nat} {q : HP} (hk : Nat.blt k H.length = true) (hH : H.getD k (fun _ => True) = q) : H.set k q = H := by
  rw [← hH, List.getD_eq_getElem?_getD, List.getElem?_eq_getElem (lb hk)]; exact List.set_getElem_self _
theorem run_appendS {w : World} {k : Nat} {v x : Value} {bs news : List UInt8} {t ty e : TypeId} (s : Sat H F w) (ht : P.underlying t = some (.slice e)) (hi : (P.info? e).map (fun i => (i.zero, i.size, i.bytes)) = some (some (.int .u8 0), 1, 1))
    (hk : Nat.blt k H.length = true) (hH : H.getD k (fun _ => True) = subB v bs e) (hx : Src (Sat H F) x news.length (u8s news) 1) (hb : bs.length + news.length ≤ 140737488355328) :
    ∃ v' w', (Builtin.append_ #[t, t] ty #[v, x]).run P w = .ok v' w' ∧ Same w w' ∧ Sat (H.set k (subB v' (bs ++ news) e)) F w' := by
  rcases s.sub_open hk hH with ⟨rfl, rfl, s1⟩ | ⟨g, off, cap, cur, rfl, s1, h3, h4, h5, h6⟩
  · have hx' : Src (Sat (H.set k (ownB (.slice none 0 0) [] e)) F) x news.length (u8s news) 1 := hx.of_eq fun w' s' => by
      have := s'.turn (q := subB (.slice none 0 0) [] e) k (by simpa using lb hk) fun h hh => by
        rw [getD_set (lb hk)] at hh; exact subB_of_own hh
      rwa [List.set_set, set_same hk hH] at this
    obtain ⟨v', w', r1, r2, r3⟩ := run_appendL (k := k) (nn := 0) (m := news.length) (v := .slice none 0 0) (xs := u8s []) (news := u8s news) (ty := ty) s1 ht hi rfl (by decide) (by simpa using lb hk) (getD_set (lb hk) _) hx' (u8s_one _) (by simp only [maxLen]; simp at hb; omega) (by simp at hb; omega)
    refine ⟨v', w', r1, r2, ?_⟩
    rw [List.set_set] at r3
    have := r3.turn (q := subB v' ([] ++ news) e) k (by simpa using lb hk) fun h hh => by
      rw [getD_set (lb hk)] at hh
      refine subB_of_own ?_
      rw [← u8s_append, Nat.zero_add, List.nil_append] at hh
      exact hh
    rwa [List.set_set] at this
  · obtain ⟨i, hie, hz0, hsz, hby⟩ := info_parts hi
    obtain ⟨hxl, hxx⟩ := hx
    have hg : w.heap[g]? = some (.cells cur e (0, 0)) := s1.block k (by simpa using lb hk) (getD_set (lb hk) _)
    by_cases hroom : bs.length + news.length ≤ cap
    · rcases hxx with ⟨rfl, hm⟩ | ⟨a0, c, rfl, hc⟩
      · have hn : news = [] := List.eq_nil_of_length_eq_zero hm
        subst hn
        refine ⟨_, w, ?_, Same.refl w, by rw [List.append_nil, set_same hk hH]; exact s⟩
        simp [Builtin.append_, run_underlying ht, Go.sizeOf, typeInfo, hie, Builtin.lenOf, Builtin.firstCells, loadCells, loadCellsFrom, storeCells, h3]
      · have hfit : off + bs.length * i.size + (u8s news).length ≤ cur.size := by rw [hsz, Nat.mul_one, u8s_length]; omega
        refine ⟨_, _, run_append_roomO (P := P) w t ty e i ht hie g off bs.length cap cur hg a0 news.length c (u8s news) (by rw [hsz, u8s_length, Nat.mul_one]) (fun j v hj => hc w s j v hj) (u8s_one _) hroom hfit, ⟨rfl, rfl, rfl, by simp⟩, ?_⟩
        have h2 := s1.write k (by simpa using lb hk) (getD_set (lb hk) _) (setRow_heap w g cur (cur.toList.take (off + bs.length * i.size) ++ u8s news ++ cur.toList.drop (off + bs.length * i.size + (u8s news).length)).toArray e _ hg) (fun j hj => setRow_other w g j _ hj)
        rw [List.set_set] at h2
        have h7 := h2.turn (q := subB (.slice (some ⟨g, off, none⟩) (bs.length + news.length) cap) (bs ++ news) e) k (by simpa using lb hk) (fun h hh => by
          rw [getD_set (lb hk)] at hh
          rw [hsz, Nat.mul_one, u8s_length] at hh
          refine .inr ⟨g, off, cap, _, by rw [List.length_append], hh, by rw [List.length_append]; exact hroom, h4, ?_, ?_⟩
          · simp only [List.size_toArray, List.length_append, List.length_take, List.length_drop, Array.length_toList, u8s_length]
            rw [hsz, Nat.mul_one, u8s_length] at hfit
            omega
          · simp only [List.append_assoc]
            rw [List.drop_append_of_le_length (by simp only [List.length_take, Array.length_toList]; rw [hsz, Nat.mul_one, u8s_length] at hfit; omega), List.drop_take, Nat.add_sub_cancel_left, h6, ← List.append_assoc, ← u8s_append]
            rw [List.take_append_of_le_length (by rw [u8s_length]; exact Nat.le_refl _), List.take_of_length_le (by rw [u8s_length]; exact Nat.le_refl _)])
        rwa [List.set_set] at h7
    · rcases hxx with ⟨rfl, hm⟩ | ⟨a0, c, rfl, hc⟩
      · omega
      · have holds : ∀ j u, (u8s bs)[j]? = some u → w.cell? ((⟨g, off, none⟩ : Addr).add j) = some u := fun j u hj => by
          rw [addL]
          rw [← h6, List.getElem?_take] at hj
          split at hj
          · simpa [World.cell?, hg] using hj
          · cases hj
        have hr := run_append_grow (P := P) w t ty e i _ ht hie hz0 ⟨g, off, none⟩ bs.length cap (u8s bs) (by rw [hsz, u8s_length, Nat.mul_one]) holds a0 news.length c (u8s news) (by rw [hsz, u8s_length, Nat.mul_one]) (fun j v hj => hc w s j v hj) (by omega) (by omega) (growslice_fits (by omega) (by rw [hby]; omega))
        refine ⟨_, _, hr, ⟨rfl, rfl, rfl, by simp⟩, Sat.swap k (lb hk) (s.drew.alloc _) fun h hh => ?_⟩
        have hge := grownCap_ge w (bs.length + news.length) cap e
        refine .inr ⟨w.heap.size, 0, _, _, by rw [List.length_append], hh, by rw [List.length_append]; exact hge, grownCap_le_maxLen w (bs.length + news.length) cap e (by simp only [maxLen]; omega), ?_, ?_⟩
        · simp only [Array.size_append, List.size_toArray, size_zeroCells, u8s_length, Nat.zero_add]
          have : (Value.cells (.int .u8 0)).size = 1 := rfl
          rw [this, Nat.mul_one]; omega
        · simp only [Array.toList_append, List.append_assoc, List.drop_zero]
          rw [← List.append_assoc, ← u8s_append, ← u8s_length (bs ++ news)]
          exact List.take_left
theorem TL.appendS {s x : Operand} {k : Nat} {v vx : Value} {bs news bs' : List UInt8} {t e : TypeId} (hw : Want n D ops o L)
    (ho : o.op = .call { callee := .builtin .append, args := #[s, x], argTypes := #[t, t] }) (hd : o.dst = some d) (hn : Nat.blt d n = true) (ht : P.underlying t = some (.slice e))
    (hi : (P.info? e).map (fun i => (i.zero, i.size, i.bytes)) = some (some (.int .u8 0), 1, 1)) (hs : evL L s = some v) (hx : evL L x = some vx)
    (hk : Nat.blt k H.length = true) (hH : H.getD k (fun _ => True) = subB v bs e) (hsrc : ∀ w, Sat H F w → Src (Sat H F) vx news.length (u8s news) 1) (hb : bs.length + news.length ≤ 140737488355328)
    (hxs : bs ++ news = bs') (h : ∀ v', v'.oneCell' = true → TL P w0 F n ops Q l D ((d, v') :: L) (H.set k (subB v' bs' e))) : TL P w0 F n ops Q (o :: l) D L H :=
  TL.step hw fun a w f sm q => by
    obtain ⟨v', w', hr, s', q'⟩ := run_appendS (ty := o.type) q ht hi hk hH (hsrc w q) hb
    unfold Oper.wp execOp
    simp only [ho, resolve, invoke, builtin, Sem.run_bind, Sem.run_pure, Result.andThen_ok, List.map_toArray, List.map_cons, List.map_nil, f.eval hs, f.eval hx, hr]
    rw [Oper.upon_value, hd]
    subst hxs
    have one : v'.oneCell' = true := (q'.sub_len k (by simpa using hk) (getD_set (lb hk) _)).2
    exact h v' one _ w' (f.put (lb hn) v') (sm.trans s') q'
theorem TL.subLen {v : Value} {bs : List UInt8} {e : Nat} (k : Nat) (hk : Nat.blt k H.length = true) (hH : H.getD k (fun _ => True) = subB v bs e)
    (h : SlLen v bs.length → v.oneCell' = true → TL P w0 F n ops Q l D L H) : TL P w0 F n ops Q l D L H := TL.fact (fun w m => m.sub_len k hk hH) fun ⟨h1, h2⟩ => h h1 h2
end

theorem fill_one {v : Value} {z : Array Value} (h : v.oneCell' = true) (hz : z.size = 1) : Instr.fill (fun i => some (i * 1, 1)) z [(0, v)] = some #[v] := by
  rw [Instr.fill, cells_one h]
  simp only [Nat.zero_mul, List.size_toArray, List.length_cons, List.length_nil, Nat.zero_add, hz, ne_eq, not_true_eq_false, decide_false, Bool.false_or]
  rw [if_neg (by simp)]
  have : (#[v].zipIdx.foldl (fun cs (c, j) => cs.setIfInBounds (0 + j) c) z) = #[v] := by
    match z, hz with
    | ⟨[x]⟩, _ => rfl
  simp only [Nat.zero_add] at this
  simp only [Instr.fill]
  rw [this]
theorem isBB_one {x : Value} {bs : List UInt8} {F : Hl} (hx : IsW x bs F) (i : Nat) {g T : Nat} {B : List HP} (hi : Nat.blt i B.length = true) (e : B.getD i (fun _ => True) = blkA g [x] T) : ∀ h, Dj h F → sep B h → IsBB (.slice (some ⟨g, 0, none⟩) 1 1) [bs] (jn h F) := fun h d s =>
  .inr (.inr ⟨g, 0, 1, [x], T, (0, 0), rfl, Nat.le_refl _, by decide, ro_piece i hi e h d s, fun j hj => by
    obtain rfl : j = 0 := by simpa using hj
    exact ⟨[x], rfl, rfl, x, rfl, hx.more d⟩⟩)
theorem isB_blkN (i n : Nat) {g T : Nat} {bs : List UInt8} {B : List HP} {F : Hl} (hn : bs.length = n) (hl : n ≤ 9223372036854775807) (hi : Nat.blt i B.length = true) (e : B.getD i (fun _ => True) = blkA g (u8s bs) T) : ∀ h, Dj h F → sep B h → IsB (.slice (some ⟨g, 0, none⟩) n n) bs (jn h F) := by
  subst hn; exact isB_blk i hl hi e

/-! ### Lists of slices of bytes -/
/-- Slices of bytes, each owned. -/
def bunch (us : List Value) (ls : List (List UInt8)) (e : Nat) : HP := fun h => us.length = ls.length ∧ sep (List.zipWith (fun u l => subB u l e) us ls) h
abbrev recsP (te e : Nat) (v : Value) (ls : List (List UInt8)) : HP := pack fun us : List Value => [own v ls.length us te 1, bunch us ls e]
theorem zip_concat {α β γ : Type} (f : α → β → γ) : ∀ (us : List α) (ls : List β) (u : α) (l : β), us.length = ls.length → List.zipWith f (us ++ [u]) (ls ++ [l]) = List.zipWith f us ls ++ [f u l]
  | [], [], _, _, _ => rfl
  | [], _ :: _, _, _, h => by simp at h
  | _ :: _, [], _, _, h => by simp at h
  | x :: us, y :: ls, u, l, h => by simp [zip_concat f us ls u l (by simpa using h)]
theorem bunch_add {us : List Value} {ls : List (List UInt8)} {e : Nat} {u : Value} {l : List UInt8} {H : List HP} {h : Hl} (s : sep (bunch us ls e :: subB u l e :: H) h) : sep (bunch (us ++ [u]) (ls ++ [l]) e :: H) h := by
  have t := star_assoc.2 s
  refine star_mono t (fun h' x => ?_) fun _ x => x
  obtain ⟨h1, h2, d, rfl, ⟨hl, a⟩, b⟩ := x
  refine ⟨by simp [hl], ?_⟩
  rw [zip_concat _ _ _ _ _ hl]
  exact (sep_append _ _).2 ⟨h1, h2, d, rfl, a, sep_single b⟩
theorem bunch_nil {e : Nat} {H : List HP} {h : Hl} (s : sep H h) : sep (bunch [] [] e :: H) h := ⟨em, h, Dj.em' h, (em_jn h).symm, ⟨rfl, trivial⟩, s⟩
theorem bunch_at : ∀ (us : List Value) (ls : List (List UInt8)) (e : Nat) (h : Hl), us.length = ls.length → sep (List.zipWith (fun u l => subB u l e) us ls) h → ∀ (j : Nat) (hj : j < ls.length), ∃ u, us[j]? = some u ∧ ∃ h1 h2, Dj h1 h2 ∧ h = jn h1 h2 ∧ subB u ls[j] e h1
  | [], [], _, _, _, _, j, hj => by simp at hj
  | [], _ :: _, _, _, h, _, _, _ => by simp at h
  | _ :: _, [], _, _, h, _, _, _ => by simp at h
  | u :: us, l :: ls, e, h, hl, s, 0, _ => by
    obtain ⟨h1, h2, d, rfl, a, _⟩ := s
    exact ⟨u, rfl, h1, h2, d, rfl, a⟩
  | u :: us, l :: ls, e, h, hl, s, j + 1, hj => by
    obtain ⟨h1, h2, d, rfl, _, b⟩ := s
    obtain ⟨u', e1, g1, g2, d', rfl, a⟩ := bunch_at us ls e h2 (by simpa using hl) b j (by simpa using hj)
    refine ⟨u', by simpa using e1, g1, jn h1 g2, ?_, ?_, a⟩
    · obtain ⟨q1, q2⟩ := Dj.jn_right.1 d
      exact Dj.jn_right.2 ⟨q1.symm, d'⟩
    · rw [jn_comm d, jn_assoc, jn_comm (Dj.jn_right.1 d).2]
theorem subB_isB {v : Value} {bs : List UInt8} {e : Nat} {h1 G : Hl} (a : subB v bs e h1) (hG : Le h1 G) : IsB v bs G := by
  rcases a with ⟨x1, x2, _⟩ | ⟨g, off, cap, cur, x1, x2, x3, x4, x5, x6⟩
  · exact .inl ⟨x1, x2⟩
  · refine .inr ⟨g, off, cap, cur.toList, e, (0, 0), x1, x3, by simpa [maxLen] using x4, hG _ _ (by rw [x2]; simp [sg]), fun j hj => ?_⟩
    have e1 := congrArg (fun l : List Value => l[j]?) x6
    simp only [List.getElem?_take, if_pos hj, List.getElem?_drop] at e1
    rw [e1]; simp [u8s, List.getD_eq_getElem?_getD, hj]
theorem sep_recsNil (te e : Nat) {H : List HP} {h : Hl} (s : sep H h) : sep (recsP te e (.slice none 0 0) [] :: H) h := sep_close (p := fun us : List Value => [own (.slice none 0 0) 0 us te 1, bunch us [] e]) [] (sep_ownNil te 1 (bunch_nil s))
theorem sep_recsAdd {te e : Nat} {v' u : Value} {us : List Value} {ls : List (List UInt8)} {l : List UInt8} {H : List HP} {h : Hl} (s : sep (own v' (ls.length + 1) (us ++ [u]) te 1 :: bunch us ls e :: subB u l e :: H) h) : sep (recsP te e v' (ls ++ [l]) :: H) h :=
  sep_close (p := fun us : List Value => [own v' (ls ++ [l]).length us te 1, bunch us (ls ++ [l]) e]) (us ++ [u]) (star_mono s (fun _ x => by simpa using x) fun _ x => bunch_add x)
section
variable {P : Program} {w0 : World} {F : Hl} {n : Nat} {ops : Array Oper} {Q : QQ} {D : List Deferred} {L : List (Nat × Value)} {H : List HP} {l : List Oper}
theorem TL.recsOpen {te e : Nat} {v : Value} {ls : List (List UInt8)} (h : ∀ us, TL P w0 F n ops Q l D L (own v ls.length us te 1 :: bunch us ls e :: H)) : TL P w0 F n ops Q l D L (recsP te e v ls :: H) :=
  TL.ex (fun _ s => sep_open s) h
theorem sep_recsLen {te e : Nat} {v : Value} {ls : List (List UInt8)} {h : Hl} (s : recsP te e v ls h) : SlLen v ls.length ∧ v.oneCell' = true := by
  obtain ⟨us, g1, g2, d2, rfl, a1, _⟩ := s
  rcases a1 with ⟨q0, ⟨q1, q2, _⟩ | ⟨g, cap, cur, q1, _⟩⟩
  · subst q1
    have : ls = [] := List.eq_nil_of_length_eq_zero q2
    subst this
    exact ⟨⟨_, _, rfl⟩, rfl⟩
  · subst q1; exact ⟨⟨_, _, rfl⟩, rfl⟩
theorem TL.recsLen {te e : Nat} {v : Value} {ls : List (List UInt8)} (k : Nat) (hk : Nat.blt k H.length = true) (hH : H.getD k (fun _ => True) = recsP te e v ls) (h : SlLen v ls.length → v.oneCell' = true → TL P w0 F n ops Q l D L H) : TL P w0 F n ops Q l D L H :=
  TL.fact (p := SlLen v ls.length ∧ v.oneCell' = true) (fun w ⟨h, d, e', x⟩ => by
    obtain ⟨h1, h2, d', rfl, a, _⟩ := sep_get k (lb hk) x
    rw [hH] at a
    exact sep_recsLen a) fun ⟨h1, h2⟩ => h h1 h2
end
end Leg
namespace Leg
open Go Codec Api
section
variable {P : Program} {w0 : World} {F : Hl} {n : Nat} {L : List (Nat × Value)} {H : List HP}
theorem TE.ret3 {fn : Func} {post : Ending → List HP → Prop} {t t' t'' : Nat} {v v' v'' : Value} (hr : fn.results = #[.tmp t, .tmp t', .tmp t'']) (e : lk L t = some v) (e' : lk L t' = some v') (e'' : lk L t'' = some v'') (h : post (.returned (.tuple #[v, v', v''])) H) :
    TE w0 F n (bodyPost P fn (postOf post w0 F)) .ret [] L H := fun a w f s m => by
  refine bodyPost_ret (results_tmp3 hr _ _ _) f.2.1 ⟨s, H, m, ?_⟩
  have h1 := f.eval (x := .tmp t) e
  have h2 := f.eval (x := .tmp t') e'
  have h3 := f.eval (x := .tmp t'') e''
  rw [show a.tmps.getD t undef = v from h1, show a.tmps.getD t' undef = v' from h2, show a.tmps.getD t'' undef = v'' from h3]; exact h
end
theorem u8s_at {l : List UInt8} {j : Nat} (h : j < l.length) : (u8s l)[j]? = some (.int .u8 (((l.getD j 0).toNat : Nat) : Int)) := by simp [u8s, List.getD_eq_getElem?_getD, h]
theorem cutLH_0 {a : Addr} {m c k : Nat} (hc : 0 < c) : cutLH (.slice (some a) m c) 0 k = .slice (some a) k c := by
  simp only [cutLH, if_neg (show ¬ c = 0 by omega), Option.map_some, Nat.sub_zero]
  rfl
end Leg
namespace Leg
open Go Codec Api
section
variable {P : Program} {w0 : World} {F : Hl} {n : Nat} {ops : Array Oper} {Q : QQ} {D : List Deferred} {L : List (Nat × Value)} {H : List HP} {o : Oper} {l : List Oper} {d : Nat} {S : World → Prop}
end
end Leg
end

section
namespace Go.Proofs.YtfceaphohlbnbaaGreat

open Go Leg Codec Api

set_option linter.unusedSimpArgs false
set_option linter.unusedVariables false

set_option maxRecDepth 100000

set_option maxHeartbeats 8000000

theorem sz69 : (Tryz.prog.info? 69).map (·.size) = some 870 := by kernel_rfl

theorem sz71 : (Tryz.prog.info? 71).map (·.size) = some 870 := by kernel_rfl

theorem sz77 : (Tryz.prog.info? 77).map (·.size) = some 875 := by kernel_rfl

theorem nm80 : Named Tryz.prog 80 := ⟨Tryz.f80, Tryz.func80, by kernel_rfl, by kernel_rfl⟩

theorem nm114 : Named Tryz.prog 114 := ⟨Tryz.f114, Tryz.func114, by kernel_rfl, by kernel_rfl⟩

theorem rowMachine_does (w : Int) :
    Does Tryz.prog 110 #[(.int .i64 (w))] (fun _ => True) [] (Ret (fun r' H => r' = .bool (machB w) ∧ H = [])) := by
 refine Does.body (vs := [(.int .i64 (w))]) (n := 9) Tryz.func110 rfl rfl rfl (fun w0 F hF => ?_)
 refine sr fun _ J1 => ?_
 refine sg' ?_
 refine nx J1 ?_
 refine sr fun _ J2 => ?_
 refine mv ?_
 refine tp (PV.geq rfl rfl rfl) ?_
 refine TL.dec (fun h4 => ?_) (fun h4 => ?_)
 refine mv ?_
 refine tq (PV.move rfl rfl) ?_
 refine tq (PV.lss rfl rfl rfl) ?_
 refine tp (PV.pick rfl rfl rfl) ?_
 refine sg' ?_
 refine nx J2 ?_
 refine TC.ret ?_
 refine TE.ret1 rfl rfl ?_
 exact ⟨congrArg Value.bool (by unfold machB; first | (rw [decide_eq_decide]; omega) | (symm; rw [decide_eq_false_iff_not]; omega) | (symm; rw [decide_eq_true_iff]; omega)), rfl⟩
 refine mv ?_
 refine TL.unmet (b := false) rfl rfl rfl rfl (lb rfl) ?_
 refine TL.unmet (b := false) rfl rfl rfl rfl (lb rfl) ?_
 refine tp (PV.pick rfl rfl rfl) ?_
 refine sg' ?_
 refine nx J2 ?_
 refine TC.ret ?_
 refine TE.ret1 rfl rfl ?_
 exact ⟨congrArg Value.bool (by unfold machB; first | (rw [decide_eq_decide]; omega) | (symm; rw [decide_eq_false_iff_not]; omega) | (symm; rw [decide_eq_true_iff]; omega)), rfl⟩
theorem bookMachine_does (w : Int) :
    Does Tryz.prog 50 #[(.int .i64 (w))] (fun _ => True) [] (Ret (fun r' H => r' = .bool (machB w) ∧ H = [])) := by
 refine Does.body (vs := [(.int .i64 (w))]) (n := 9) Tryz.func50 rfl rfl rfl (fun w0 F hF => ?_)
 refine sr fun _ J1 => ?_
 refine sg' ?_
 refine nx J1 ?_
 refine sr fun _ J2 => ?_
 refine mv ?_
 refine tp (PV.geq rfl rfl rfl) ?_
 refine TL.dec (fun h4 => ?_) (fun h4 => ?_)
 refine mv ?_
 refine tq (PV.move rfl rfl) ?_
 refine tq (PV.lss rfl rfl rfl) ?_
 refine tp (PV.pick rfl rfl rfl) ?_
 refine sg' ?_
 refine nx J2 ?_
 refine TC.ret ?_
 refine TE.ret1 rfl rfl ?_
 exact ⟨congrArg Value.bool (by unfold machB; first | (rw [decide_eq_decide]; omega) | (symm; rw [decide_eq_false_iff_not]; omega) | (symm; rw [decide_eq_true_iff]; omega)), rfl⟩
 refine mv ?_
 refine TL.unmet (b := false) rfl rfl rfl rfl (lb rfl) ?_
 refine TL.unmet (b := false) rfl rfl rfl rfl (lb rfl) ?_
 refine tp (PV.pick rfl rfl rfl) ?_
 refine sg' ?_
 refine nx J2 ?_
 refine TC.ret ?_
 refine TE.ret1 rfl rfl ?_
 exact ⟨congrArg Value.bool (by unfold machB; first | (rw [decide_eq_decide]; omega) | (symm; rw [decide_eq_false_iff_not]; omega) | (symm; rw [decide_eq_true_iff]; omega)), rfl⟩
theorem mirrorMachine_does (w : Int) :
    Does Tryz.prog 55 #[(.int .i64 (w))] (fun _ => True) [] (Ret (fun r' H => r' = .bool (machB w) ∧ H = [])) := by
 refine Does.body (vs := [(.int .i64 (w))]) (n := 9) Tryz.func55 rfl rfl rfl (fun w0 F hF => ?_)
 refine sr fun _ J1 => ?_
 refine sg' ?_
 refine nx J1 ?_
 refine sr fun _ J2 => ?_
 refine mv ?_
 refine tp (PV.geq rfl rfl rfl) ?_
 refine TL.dec (fun h4 => ?_) (fun h4 => ?_)
 refine mv ?_
 refine tq (PV.move rfl rfl) ?_
 refine tq (PV.lss rfl rfl rfl) ?_
 refine tp (PV.pick rfl rfl rfl) ?_
 refine sg' ?_
 refine nx J2 ?_
 refine TC.ret ?_
 refine TE.ret1 rfl rfl ?_
 exact ⟨congrArg Value.bool (by unfold machB; first | (rw [decide_eq_decide]; omega) | (symm; rw [decide_eq_false_iff_not]; omega) | (symm; rw [decide_eq_true_iff]; omega)), rfl⟩
 refine mv ?_
 refine TL.unmet (b := false) rfl rfl rfl rfl (lb rfl) ?_
 refine TL.unmet (b := false) rfl rfl rfl rfl (lb rfl) ?_
 refine tp (PV.pick rfl rfl rfl) ?_
 refine sg' ?_
 refine nx J2 ?_
 refine TC.ret ?_
 refine TE.ret1 rfl rfl ?_
 exact ⟨congrArg Value.bool (by unfold machB; first | (rw [decide_eq_decide]; omega) | (symm; rw [decide_eq_false_iff_not]; omega) | (symm; rw [decide_eq_true_iff]; omega)), rfl⟩
theorem asked_does (key n : Int) :
    Does Tryz.prog 106 #[(.int .i64 (key)), (.int .i64 (n))] (fun _ => True) [] (Ret (fun r' H => r' = .bool (askB key n) ∧ H = [])) := by
 refine Does.body (vs := [(.int .i64 (key)), (.int .i64 (n))]) (n := 19) Tryz.func106 rfl rfl rfl (fun w0 F hF => ?_)
 refine sr fun _ J1 => ?_
 refine sg' ?_
 refine nx J1 ?_
 clear J1
 refine sr fun _ J2 => ?_
 refine mv ?_
 refine tp (PV.geq rfl rfl rfl) ?_
 refine TL.dec (fun h6 => ?_) (fun h6 => ?_)
 refine mv ?_
 refine tq (PV.move rfl rfl) ?_
 refine tq (PV.lss rfl rfl rfl) ?_
 refine TL.dec (fun h9 => ?_) (fun h9 => ?_)
 refine tp (PV.pick rfl rfl rfl) ?_
 refine mv ?_
 refine tq (PV.move rfl rfl) ?_
 refine tq (PV.geq rfl rfl rfl) ?_
 refine TL.dec (fun h13 => ?_) (fun h13 => ?_)
 refine tp (PV.pick rfl rfl rfl) ?_
 refine mv ?_
 refine tq (PV.move rfl rfl) ?_
 refine TL.callR (A := []) (Want.met rfl rfl rfl) rfl rfl rfl nm95 rfl (numRight_does n) (fun _ s => s) (fun _ _ _ => trivial) (fun vR HR hR => ?_)
 obtain ⟨rfl, rfl⟩ := hR
 change TL _ _ _ _ _ _ _ _ _ []
 refine tp (PV.pick rfl rfl rfl) ?_
 refine sg' ?_
 refine nx J2 ?_
 clear J2
 refine TC.ret ?_
 refine TE.weak (Sub.refl _) (fun _ s => sep_keep [] rfl s) ?_
 refine TE.ret1 rfl rfl ?_
 exact ⟨congrArg Value.bool (by simp [askB, keyB, *]), rfl⟩
 refine tp (PV.pick rfl rfl rfl) ?_
 refine mv ?_
 refine TL.unmet (b := false) rfl rfl rfl rfl (lb rfl) ?_
 refine TL.unmet (b := false) rfl rfl rfl rfl (lb rfl) ?_
 refine tp (PV.pick rfl rfl rfl) ?_
 refine sg' ?_
 refine nx J2 ?_
 clear J2
 refine TC.ret ?_
 refine TE.weak (Sub.refl _) (fun _ s => sep_keep [] rfl s) ?_
 refine TE.ret1 rfl rfl ?_
 exact ⟨congrArg Value.bool (by simp [askB, keyB, *]), rfl⟩
 refine tp (PV.pick rfl rfl rfl) ?_
 refine mv ?_
 refine TL.unmet (b := false) rfl rfl rfl rfl (lb rfl) ?_
 refine TL.unmet (b := false) rfl rfl rfl rfl (lb rfl) ?_
 refine tp (PV.pick rfl rfl rfl) ?_
 refine mv ?_
 refine TL.unmet (b := false) rfl rfl rfl rfl (lb rfl) ?_
 refine TL.unmet (b := false) rfl rfl rfl rfl (lb rfl) ?_
 refine tp (PV.pick rfl rfl rfl) ?_
 refine sg' ?_
 refine nx J2 ?_
 clear J2
 refine TC.ret ?_
 refine TE.weak (Sub.refl _) (fun _ s => sep_keep [] rfl s) ?_
 refine TE.ret1 rfl rfl ?_
 exact ⟨congrArg Value.bool (by simp [askB, keyB, *]), rfl⟩
 refine mv ?_
 refine TL.unmet (b := false) rfl rfl rfl rfl (lb rfl) ?_
 refine TL.unmet (b := false) rfl rfl rfl rfl (lb rfl) ?_
 refine tp (PV.pick rfl rfl rfl) ?_
 refine mv ?_
 refine TL.unmet (b := false) rfl rfl rfl rfl (lb rfl) ?_
 refine TL.unmet (b := false) rfl rfl rfl rfl (lb rfl) ?_
 refine tp (PV.pick rfl rfl rfl) ?_
 refine mv ?_
 refine TL.unmet (b := false) rfl rfl rfl rfl (lb rfl) ?_
 refine TL.unmet (b := false) rfl rfl rfl rfl (lb rfl) ?_
 refine tp (PV.pick rfl rfl rfl) ?_
 refine sg' ?_
 refine nx J2 ?_
 clear J2
 refine TC.ret ?_
 refine TE.weak (Sub.refl _) (fun _ s => sep_keep [] rfl s) ?_
 refine TE.ret1 rfl rfl ?_
 exact ⟨congrArg Value.bool (by simp [askB, keyB, *]), rfl⟩
theorem inc1_does (b off T : Nat) (cs : List Value) (n : Int) (h : cs[off]? = some (.int .i64 n)) :
    Does Tryz.prog 108 #[(.pointer (some ⟨b, off, none⟩))] (fun _ => True) [blkA b (cs) T] (Ret (fun r' H => r' = .tuple #[.int .i64 n, .pointer (some ⟨b, off, none⟩)] ∧ H = [blkA b cs T])) := by
 refine Does.body (vs := [(.pointer (some ⟨b, off, none⟩))]) (n := 11) Tryz.func108 rfl rfl rfl (fun w0 F hF => ?_)
 refine sr fun _ J1 => ?_
 refine sg' ?_
 refine sg' ?_
 refine nx J1 ?_
 refine TC.seq fun _ J2 => ?_
 refine TC.draw (fun w => Frm F w ∧ w.heap[b]? = some (.cells (cs).toArray T (0, 0)) ∧ True) mixed rfl (fun _ s => ⟨Frm.of s, s.block 0 (lb rfl) rfl, trivial⟩) ?_
 refine ta 0 rfl (PV.move rfl rfl) ?_
 refine ta 1 rfl (PV.nilCheck rfl rfl) ?_
 refine ta 2 rfl (PV.fieldAddr (r := off) rfl Tryz.underlying44 rfl sz3 rfl rfl) ?_
 refine ta 3 rfl (PV.load1 (v := (.int .i64 (n))) rfl Tryz.underlying3 rfl rfl (fun _ h => h.2.1) h) ?_
 refine ta 4 rfl (PV.move rfl rfl) ?_
 refine ta 5 rfl (PV.nilCheck rfl rfl) ?_
 refine ta 6 rfl (PV.fieldAddr (r := off) rfl Tryz.underlying44 rfl sz3 rfl rfl) ?_
 refine ta 7 rfl (PV.assign rfl rfl) ?_
 refine ta 8 rfl (PV.assign rfl rfl) ?_
 refine TD.done (by kernel_rfl) ?_
 refine TE.next J2 ?_
 refine TC.ret ?_
 refine TE.weak (Sub.refl _) (fun _ s => sep_keep [0] rfl s) ?_
 refine TE.ret2 rfl rfl rfl ?_
 exact ⟨rfl, rfl⟩
theorem dec1_does (b off T : Nat) (cs : List Value) (n : Int) (h : cs[off + 1]? = some (.int .i64 n)) :
    Does Tryz.prog 109 #[(.pointer (some ⟨b, off, none⟩))] (fun _ => True) [blkA b (cs) T] (Ret (fun r' H => r' = .tuple #[.int .i64 n, .pointer (some ⟨b, off + 1, none⟩)] ∧ H = [blkA b cs T])) := by
 refine Does.body (vs := [(.pointer (some ⟨b, off, none⟩))]) (n := 11) Tryz.func109 rfl rfl rfl (fun w0 F hF => ?_)
 refine sr fun _ J1 => ?_
 refine sg' ?_
 refine sg' ?_
 refine nx J1 ?_
 refine TC.seq fun _ J2 => ?_
 refine TC.draw (fun w => Frm F w ∧ w.heap[b]? = some (.cells (cs).toArray T (0, 0)) ∧ True) mixed rfl (fun _ s => ⟨Frm.of s, s.block 0 (lb rfl) rfl, trivial⟩) ?_
 refine ta 0 rfl (PV.move rfl rfl) ?_
 refine ta 1 rfl (PV.nilCheck rfl rfl) ?_
 refine ta 2 rfl (PV.fieldAddr (r := off + 1) rfl Tryz.underlying44 rfl sz3 rfl rfl) ?_
 refine ta 3 rfl (PV.load1 (v := (.int .i64 (n))) rfl Tryz.underlying3 rfl rfl (fun _ h => h.2.1) h) ?_
 refine ta 4 rfl (PV.move rfl rfl) ?_
 refine ta 5 rfl (PV.nilCheck rfl rfl) ?_
 refine ta 6 rfl (PV.fieldAddr (r := off + 1) rfl Tryz.underlying44 rfl sz3 rfl rfl) ?_
 refine ta 7 rfl (PV.assign rfl rfl) ?_
 refine ta 8 rfl (PV.assign rfl rfl) ?_
 refine TD.done (by kernel_rfl) ?_
 refine TE.next J2 ?_
 refine TC.ret ?_
 refine TE.weak (Sub.refl _) (fun _ s => sep_keep [0] rfl s) ?_
 refine TE.ret2 rfl rfl rfl ?_
 exact ⟨rfl, rfl⟩
theorem give1_does (b off T tb : Nat) (cs : List Value) (g : Vector Int 5) (to' : Int) (ht : 0 ≤ to' ∧ to' < 5) (h : (cs.drop (off + 2)).take 5 = ints g.toList) :
    Does Tryz.prog 111 #[(.pointer (some ⟨b, off, none⟩)), (.pointer (some ⟨tb, 0, none⟩))] (fun _ => True) [blkA b (cs) T, blkA tb [(.int .i64 (to'))] 3] (Ret (fun r' H => r' = .tuple #[.int .i64 (g.toList.foldl (fun s g => w64 (s + g)) 0), .pointer (some ⟨b, off + 2 + to'.toNat, none⟩)] ∧ H = [blkA b cs T, blkA tb [.int .i64 to'] 3])) := by
 refine Does.body (vs := [(.pointer (some ⟨b, off, none⟩)), (.pointer (some ⟨tb, 0, none⟩))]) (n := 25) Tryz.func111 rfl rfl rfl (fun w0 F hF => ?_)
 refine sr fun _ J1 => ?_
 refine sg' ?_
 refine sg' ?_
 refine nx J1 ?_
 refine sr fun _ J2 => ?_
 refine sg' ?_
 refine nx J2 ?_
 refine TC.seq fun _ J3 => ?_
 refine sr fun _ J4 => ?_
 refine mv ?_
 refine tp (PV.nilCheck rfl rfl) ?_
 refine tp (PV.fieldAddr (r := off + 2) rfl Tryz.underlying44 rfl sz42 rfl rfl) ?_
 refine tp (PV.loadN (vs := ints g.toList) rfl Tryz.underlying42 rfl sz42 rfl (Rd.own 0 rfl rfl) (vi5_len g) h) ?_
 refine mv ?_
 refine nx J4 ?_
 refine TC.block ?_
 refine TC.loop (α := (Nat) × (Int)) (fun ⟨k, s⟩ => k ≤ 5 ∧ s = (g.toList.take k).foldl (fun s g => w64 (s + g)) 0) (fun ⟨k, s⟩ => [(0, (.pointer (some ⟨b, off, none⟩))), (1, (.pointer (some ⟨tb, 0, none⟩))), (3, (.int .i64 0)), (4, (.pointer none)), (5, (.int .i64 (s))), (11, (.agg (ints g.toList).toArray)), (12, (.int .i64 (((k : Nat) : Int))))]) (fun ⟨k, s⟩ => [blkA b (cs) T, blkA tb [(.int .i64 (to'))] 3]) (fun ⟨k, s⟩ => 5 - k) (0, 0)
     ⟨Nat.zero_le _, rfl⟩ (Sub.r (Sub.r (Sub.r (Sub.r (Sub.cons rfl (by congr 1) (Sub.r (Sub.cons rfl (by congr 1) (Sub.nil _))))))))
     (fun _ s => s) (fun ⟨k, s⟩ hinv => ?_)
 obtain ⟨hk, hs⟩ := hinv
 refine sr fun _ J5 => ?_
 refine tp (PV.lss rfl rfl rfl) ?_
 refine TL.dec (fun h13 => ?_) (fun h13 => ?_)
 refine nx J5 ?_
 refine TC.seq fun _ J6 => ?_
 refine TC.yes rfl ?_
 refine TC.skip ?_
 refine TE.next J6 ?_
 refine TC.seq fun _ J7 => ?_
 refine TC.block ?_
 refine sr fun _ J8 => ?_
 refine tp (PV.index1 (cs := ints g.toList) (v := Value.int .i64 (g[k]'(by omega))) (r := k) rfl Tryz.underlying42 Tryz.underlying3 rfl sz3 rfl rfl (by omega) (by omega) (by omega) (vi_at g (by omega))) ?_
 refine sg' ?_
 refine nx J8 ?_
 refine TC.region ?_
 refine mv ?_
 refine mv ?_
 refine tp (PV.add (r := (w64 (s + (g[k]'(by omega))))) rfl rfl rfl rfl) ?_
 refine sg' ?_
 refine TL.nil ?_
 refine TE.blockEnd ?_
 refine TE.next J7 ?_
 refine TC.region ?_
 refine tp (PV.add rfl rfl rfl (wrap_i64 (by omega) (by omega))) ?_
 refine mv ?_
 refine TL.nil ?_
 exact TE.round ((k + 1, (w64 (s + (g[k]'(by omega))))) : (Nat) × (Int)) ⟨by omega, by rw [List.take_succ_eq_append_getElem (by simp; omega), List.foldl_append, ← hs]; simp⟩ (by show 5 - (k + 1) < 5 - k; omega)
   (Sub.r (Sub.r (Sub.r (Sub.r (Sub.r (Sub.r (Sub.cons rfl (by simp) (Sub.nil _))))))))
   (fun _ s => s)
 refine nx J5 ?_
 refine TC.seq fun _ J9 => ?_
 refine TC.no rfl ?_
 refine TC.exit ?_
 refine TE.pass ?_
 refine TE.pass ?_
 refine TE.hit ?_
 refine TE.next J3 ?_
 refine TC.seq fun _ J10 => ?_
 refine TC.draw (fun w => Frm F w ∧ w.heap[tb]? = some (.cells ([(.int .i64 (to'))]).toArray 3 (0, 0)) ∧ True) mixed rfl (fun _ s => ⟨Frm.of s, s.block 1 (lb rfl) rfl, trivial⟩) ?_
 refine ta 0 rfl (PV.move rfl rfl) ?_
 refine ta 1 rfl (PV.move rfl rfl) ?_
 refine ta 2 rfl (PV.load1 (v := (.int .i64 (to'))) rfl Tryz.underlying3 rfl rfl (fun _ h => h.2.1) rfl) ?_
 refine ta 3 rfl (PV.nilCheck rfl rfl) ?_
 refine ta 4 rfl (PV.fieldAddr (r := off + 2) rfl Tryz.underlying44 rfl sz42 rfl rfl) ?_
 refine ta 5 rfl (PV.indexArr (r := off + 2 + (to').toNat) rfl Tryz.underlying42 sz3 rfl rfl (by omega) (by omega) (by omega)) ?_
 refine ta 6 rfl (PV.assign rfl rfl) ?_
 refine ta 7 rfl (PV.assign rfl rfl) ?_
 refine TD.done (by kernel_rfl) ?_
 refine TE.next J10 ?_
 refine TC.ret ?_
 refine TE.weak (Sub.refl _) (fun _ s => sep_keep [0, 0] rfl s) ?_
 refine TE.ret2 rfl rfl rfl ?_
 exact ⟨by rw [hs, List.take_of_length_le (by simp; omega)], rfl⟩
theorem moreInc_does (x : RowT) (key n : Int) (hk : 0 ≤ key ∧ key < 4) (hn : 1 ≤ n ∧ n ≤ 1099511627776) :
    Does Tryz.prog 107 #[(.agg (ints x.flat).toArray), (.int .i64 (key)), (.int .i64 (n)), (.func (.func 108) #[] #[])] (fun _ => True) [] (Ret (fun r' H => r' = .tuple #[.agg (ints (moreR x key n (cellAt x key).inn { cellAt x key with inn := w64 ((cellAt x key).inn + n) }).1.flat).toArray, .int .i64 (moreR x key n (cellAt x key).inn { cellAt x key with inn := w64 ((cellAt x key).inn + n) }).2] ∧ H = [])) := by
 refine Does.body (vs := [(.agg (ints x.flat).toArray), (.int .i64 (key)), (.int .i64 (n)), (.func (.func 108) #[] #[])]) (n := 36) Tryz.func107 rfl rfl rfl (fun w0 F hF => ?_)
 have hkb : keyB key = true := decide_eq_true hk
 have hcell : cellAt x key = x.cells[key.toNat]'(by omega) := by rw [cellAt, dif_pos hkb]
 refine sr fun _ J1 => ?_
 refine TL.box (Want.plain rfl) rfl rfl rfl rfl (fun b4 => ?_)
 change TL _ _ _ _ _ _ _ _ _ [blkA b4 (ints x.flat) 48]
 refine TL.alloc (Want.plain rfl) rfl rfl rfl z48 (fun b8 => ?_)
 change TL _ _ _ _ _ _ _ _ _ [blkA b8 (ints RowT.zero.flat) 48, blkA b4 (ints x.flat) 48]
 refine sg' ?_
 refine nx J1 ?_
 refine sr fun _ J2 => ?_
 refine mv ?_
 refine mv ?_
 refine tp (PV.fieldAddr (r := 1) rfl Tryz.underlying48 rfl sz45 rfl rfl) ?_
 refine tp (PV.indexArr (r := 1 + key.toNat * 7) rfl Tryz.underlying45 sz44 rfl rfl (by omega) (by omega) (by omega)) ?_
 refine TL.callRv (A := [blkA b4 (ints x.flat) 48]) (B := [blkA b8 (ints RowT.zero.flat) 48]) (Want.plain rfl) rfl rfl rfl rfl nm108 rfl (inc1_does b4 (1 + key.toNat * 7) 48 (ints x.flat) x.cells[key.toNat].inn (RowT.pt_cells x (key.toNat * 7) (by omega) (by omega) (vs_pt CellT.flat_length x.cells (i := key.toNat) 0 (by omega) (by omega) (by decide) (CellT.at_inn (x.cells[key.toNat]'(by omega)) rfl)))) (fun _ s => sep_selR [1] rfl s) (fun _ _ _ => trivial) (fun vR HR hR => ?_)
 obtain ⟨rfl, rfl⟩ := hR
 change TL _ _ _ _ _ _ _ _ _ [blkA b4 (ints x.flat) 48, blkA b8 (ints RowT.zero.flat) 48]
 refine mv ?_
 refine tp (PV.extract (vs := [(.int .i64 ((x.cells[key.toNat]'(by omega)).inn)), (.pointer (some ⟨b4, 1 + key.toNat * 7, none⟩))]) rfl rfl rfl) ?_
 refine tp (PV.extract (vs := [(.int .i64 ((x.cells[key.toNat]'(by omega)).inn)), (.pointer (some ⟨b4, 1 + key.toNat * 7, none⟩))]) rfl rfl rfl) ?_
 refine sg' ?_
 refine sg' ?_
 refine nx J2 ?_
 refine TC.seq fun _ J3 => ?_
 refine sr fun _ J4 => ?_
 refine mv ?_
 refine mv ?_
 refine tp (PV.sub (r := (1099511627776 - n)) rfl rfl rfl (wrap_i64 (by omega) (by omega))) ?_
 refine tp (PV.gtr rfl rfl rfl) ?_
 refine TL.dec (fun h23 => ?_) (fun h23 => ?_)
 refine nx J4 ?_
 refine TC.yes rfl ?_
 refine sr fun _ J5 => ?_
 refine tp (PV.build (cells := (ints RowT.zero.flat).toArray) rfl rfl (by as_aux_lemma => kernel_rfl)) ?_
 refine TL.store (vs := ints RowT.zero.flat) (i := 1) (H' := [blkA b4 (ints x.flat) 48, blkA b8 (ints RowT.zero.flat) 48]) (Want.plain rfl) rfl rfl rfl rfl rfl (by rw [(RowT.len RowT.zero)]; exact sz48) (ints_one _) rfl rfl (by have h0 := (RowT.len RowT.zero); have h1 := (RowT.len RowT.zero); omega) (wwhole ((RowT.len RowT.zero).trans (RowT.len RowT.zero).symm)) rfl ?_
 refine sg' ?_
 refine nx J5 ?_
 refine TC.ret ?_
 refine TE.passRet ?_
 refine TE.retCT (H' := []) rfl rfl rfl Tryz.underlying48 rfl sz48 (Rd.own 1 rfl rfl) (RowT.len RowT.zero) (fun _ s => sep_keep [] rfl s) ?_
 exact ⟨by rw [moreR, hcell, if_pos h23], rfl⟩
 refine nx J4 ?_
 refine TC.no rfl ?_
 refine TC.skip ?_
 refine TE.next J3 ?_
 refine sr fun _ J6 => ?_
 refine mv ?_
 refine tp (PV.nilCheck rfl rfl) ?_
 refine tp (PV.load1 (v := (.int .i64 ((x.cells[key.toNat]'(by omega)).inn))) rfl Tryz.underlying3 rfl rfl (Rd.own 0 rfl rfl) (RowT.pt_cells x (key.toNat * 7) (by omega) (by omega) (vs_pt CellT.flat_length x.cells (i := key.toNat) 0 (by omega) (by omega) (by decide) (CellT.at_inn (x.cells[key.toNat]'(by omega)) rfl)))) ?_
 refine mv ?_
 refine tp (PV.add (r := (w64 (((x.cells[key.toNat]'(by omega)).inn) + n))) rfl rfl rfl rfl) ?_
 refine tp (PV.nilCheck rfl rfl) ?_
 refine TL.store1 (i := 0) (H' := [blkA b4 (ints (RowT.mk x.version (x.cells.set key.toNat (CellT.mk (w64 (((x.cells[key.toNat]'(by omega)).inn) + n)) ((x.cells[key.toNat]'(by omega)).out) ((x.cells[key.toNat]'(by omega)).given)) (by omega)) x.heir x.left).flat) 48, blkA b8 (ints RowT.zero.flat) 48]) (Want.plain rfl) rfl rfl rfl rfl rfl sz3 rfl rfl (by have h0 := (RowT.len x); omega) (RowT.st_cells x (key.toNat * 7) (by omega) (by omega) (vs_st CellT.flat_length x.cells (i := key.toNat) 0 (by omega) (by omega) (by decide) (CellT.set_inn (x.cells[key.toNat]'(by omega)) rfl _))) rfl ?_
 refine nx J6 ?_
 refine sr fun _ J7 => ?_
 refine tp (PV.fieldAddr (r := 0) rfl Tryz.underlying48 rfl sz3 rfl rfl) ?_
 refine tp (PV.load1 (v := (.int .i64 (x.version))) rfl Tryz.underlying3 rfl rfl (Rd.own 0 rfl rfl) (RowT.at_version (RowT.mk x.version (x.cells.set key.toNat (CellT.mk (w64 (((x.cells[key.toNat]'(by omega)).inn) + n)) ((x.cells[key.toNat]'(by omega)).out) ((x.cells[key.toNat]'(by omega)).given)) (by omega)) x.heir x.left) rfl)) ?_
 refine tp (PV.add (r := (w64 (x.version + 1))) rfl rfl rfl rfl) ?_
 refine tp (PV.fieldAddr (r := 0) rfl Tryz.underlying48 rfl sz3 rfl rfl) ?_
 refine TL.store1 (i := 0) (H' := [blkA b4 (ints (RowT.mk (w64 (x.version + 1)) (x.cells.set key.toNat (CellT.mk (w64 (((x.cells[key.toNat]'(by omega)).inn) + n)) ((x.cells[key.toNat]'(by omega)).out) ((x.cells[key.toNat]'(by omega)).given)) (by omega)) x.heir x.left).flat) 48, blkA b8 (ints RowT.zero.flat) 48]) (Want.plain rfl) rfl rfl rfl rfl rfl sz3 rfl rfl (by have h0 := (RowT.len (RowT.mk x.version (x.cells.set key.toNat (CellT.mk (w64 (((x.cells[key.toNat]'(by omega)).inn) + n)) ((x.cells[key.toNat]'(by omega)).out) ((x.cells[key.toNat]'(by omega)).given)) (by omega)) x.heir x.left)); omega) (RowT.set_version (RowT.mk x.version (x.cells.set key.toNat (CellT.mk (w64 (((x.cells[key.toNat]'(by omega)).inn) + n)) ((x.cells[key.toNat]'(by omega)).out) ((x.cells[key.toNat]'(by omega)).given)) (by omega)) x.heir x.left) rfl _) rfl ?_
 refine nx J7 ?_
 refine sr fun _ J8 => ?_
 refine tp (PV.loadN (vs := ints (RowT.mk (w64 (x.version + 1)) (x.cells.set key.toNat (CellT.mk (w64 (((x.cells[key.toNat]'(by omega)).inn) + n)) ((x.cells[key.toNat]'(by omega)).out) ((x.cells[key.toNat]'(by omega)).given)) (by omega)) x.heir x.left).flat) rfl Tryz.underlying48 rfl sz48 rfl (Rd.own 0 rfl rfl) (RowT.len (RowT.mk (w64 (x.version + 1)) (x.cells.set key.toNat (CellT.mk (w64 (((x.cells[key.toNat]'(by omega)).inn) + n)) ((x.cells[key.toNat]'(by omega)).out) ((x.cells[key.toNat]'(by omega)).given)) (by omega)) x.heir x.left)) (whole (RowT.len (RowT.mk (w64 (x.version + 1)) (x.cells.set key.toNat (CellT.mk (w64 (((x.cells[key.toNat]'(by omega)).inn) + n)) ((x.cells[key.toNat]'(by omega)).out) ((x.cells[key.toNat]'(by omega)).given)) (by omega)) x.heir x.left)))) ?_
 refine TL.store (vs := ints (RowT.mk (w64 (x.version + 1)) (x.cells.set key.toNat (CellT.mk (w64 (((x.cells[key.toNat]'(by omega)).inn) + n)) ((x.cells[key.toNat]'(by omega)).out) ((x.cells[key.toNat]'(by omega)).given)) (by omega)) x.heir x.left).flat) (i := 1) (H' := [blkA b4 (ints (RowT.mk (w64 (x.version + 1)) (x.cells.set key.toNat (CellT.mk (w64 (((x.cells[key.toNat]'(by omega)).inn) + n)) ((x.cells[key.toNat]'(by omega)).out) ((x.cells[key.toNat]'(by omega)).given)) (by omega)) x.heir x.left).flat) 48, blkA b8 (ints (RowT.mk (w64 (x.version + 1)) (x.cells.set key.toNat (CellT.mk (w64 (((x.cells[key.toNat]'(by omega)).inn) + n)) ((x.cells[key.toNat]'(by omega)).out) ((x.cells[key.toNat]'(by omega)).given)) (by omega)) x.heir x.left).flat) 48]) (Want.plain rfl) rfl rfl rfl rfl rfl (by rw [(RowT.len (RowT.mk (w64 (x.version + 1)) (x.cells.set key.toNat (CellT.mk (w64 (((x.cells[key.toNat]'(by omega)).inn) + n)) ((x.cells[key.toNat]'(by omega)).out) ((x.cells[key.toNat]'(by omega)).given)) (by omega)) x.heir x.left))]; exact sz48) (ints_one _) rfl rfl (by have h0 := (RowT.len RowT.zero); have h1 := (RowT.len (RowT.mk (w64 (x.version + 1)) (x.cells.set key.toNat (CellT.mk (w64 (((x.cells[key.toNat]'(by omega)).inn) + n)) ((x.cells[key.toNat]'(by omega)).out) ((x.cells[key.toNat]'(by omega)).given)) (by omega)) x.heir x.left)); omega) (wwhole ((RowT.len RowT.zero).trans (RowT.len (RowT.mk (w64 (x.version + 1)) (x.cells.set key.toNat (CellT.mk (w64 (((x.cells[key.toNat]'(by omega)).inn) + n)) ((x.cells[key.toNat]'(by omega)).out) ((x.cells[key.toNat]'(by omega)).given)) (by omega)) x.heir x.left)).symm)) rfl ?_
 refine sg' ?_
 refine nx J8 ?_
 refine TC.ret ?_
 refine TE.retCT (H' := []) rfl rfl rfl Tryz.underlying48 rfl sz48 (Rd.own 1 rfl rfl) (RowT.len (RowT.mk (w64 (x.version + 1)) (x.cells.set key.toNat (CellT.mk (w64 (((x.cells[key.toNat]'(by omega)).inn) + n)) ((x.cells[key.toNat]'(by omega)).out) ((x.cells[key.toNat]'(by omega)).given)) (by omega)) x.heir x.left)) (fun _ s => sep_keep [] rfl s) ?_
 refine ⟨?_, rfl⟩
 rw [moreR, hcell, if_neg h23, putCell, dif_pos hkb]
theorem moreDec_does (x : RowT) (key n : Int) (hk : 0 ≤ key ∧ key < 4) (hn : 1 ≤ n ∧ n ≤ 1099511627776) :
    Does Tryz.prog 107 #[(.agg (ints x.flat).toArray), (.int .i64 (key)), (.int .i64 (n)), (.func (.func 109) #[] #[])] (fun _ => True) [] (Ret (fun r' H => r' = .tuple #[.agg (ints (moreR x key n (cellAt x key).out { cellAt x key with out := w64 ((cellAt x key).out + n) }).1.flat).toArray, .int .i64 (moreR x key n (cellAt x key).out { cellAt x key with out := w64 ((cellAt x key).out + n) }).2] ∧ H = [])) := by
 refine Does.body (vs := [(.agg (ints x.flat).toArray), (.int .i64 (key)), (.int .i64 (n)), (.func (.func 109) #[] #[])]) (n := 36) Tryz.func107 rfl rfl rfl (fun w0 F hF => ?_)
 have hkb : keyB key = true := decide_eq_true hk
 have hcell : cellAt x key = x.cells[key.toNat]'(by omega) := by rw [cellAt, dif_pos hkb]
 refine sr fun _ J1 => ?_
 refine TL.box (Want.plain rfl) rfl rfl rfl rfl (fun b4 => ?_)
 change TL _ _ _ _ _ _ _ _ _ [blkA b4 (ints x.flat) 48]
 refine TL.alloc (Want.plain rfl) rfl rfl rfl z48 (fun b8 => ?_)
 change TL _ _ _ _ _ _ _ _ _ [blkA b8 (ints RowT.zero.flat) 48, blkA b4 (ints x.flat) 48]
 refine sg' ?_
 refine nx J1 ?_
 refine sr fun _ J2 => ?_
 refine mv ?_
 refine mv ?_
 refine tp (PV.fieldAddr (r := 1) rfl Tryz.underlying48 rfl sz45 rfl rfl) ?_
 refine tp (PV.indexArr (r := 1 + key.toNat * 7) rfl Tryz.underlying45 sz44 rfl rfl (by omega) (by omega) (by omega)) ?_
 refine TL.callRv (A := [blkA b4 (ints x.flat) 48]) (B := [blkA b8 (ints RowT.zero.flat) 48]) (Want.plain rfl) rfl rfl rfl rfl nm109 rfl (dec1_does b4 (1 + key.toNat * 7) 48 (ints x.flat) x.cells[key.toNat].out (RowT.pt_cells x (key.toNat * 7 + 1) (by omega) (by omega) (vs_pt CellT.flat_length x.cells (i := key.toNat) 1 (by omega) (by omega) (by decide) (CellT.at_out (x.cells[key.toNat]'(by omega)) rfl)))) (fun _ s => sep_selR [1] rfl s) (fun _ _ _ => trivial) (fun vR HR hR => ?_)
 obtain ⟨rfl, rfl⟩ := hR
 change TL _ _ _ _ _ _ _ _ _ [blkA b4 (ints x.flat) 48, blkA b8 (ints RowT.zero.flat) 48]
 refine mv ?_
 refine tp (PV.extract (vs := [(.int .i64 ((x.cells[key.toNat]'(by omega)).out)), (.pointer (some ⟨b4, 1 + key.toNat * 7 + 1, none⟩))]) rfl rfl rfl) ?_
 refine tp (PV.extract (vs := [(.int .i64 ((x.cells[key.toNat]'(by omega)).out)), (.pointer (some ⟨b4, 1 + key.toNat * 7 + 1, none⟩))]) rfl rfl rfl) ?_
 refine sg' ?_
 refine sg' ?_
 refine nx J2 ?_
 refine TC.seq fun _ J3 => ?_
 refine sr fun _ J4 => ?_
 refine mv ?_
 refine mv ?_
 refine tp (PV.sub (r := (1099511627776 - n)) rfl rfl rfl (wrap_i64 (by omega) (by omega))) ?_
 refine tp (PV.gtr rfl rfl rfl) ?_
 refine TL.dec (fun h23 => ?_) (fun h23 => ?_)
 refine nx J4 ?_
 refine TC.yes rfl ?_
 refine sr fun _ J5 => ?_
 refine tp (PV.build (cells := (ints RowT.zero.flat).toArray) rfl rfl (by as_aux_lemma => kernel_rfl)) ?_
 refine TL.store (vs := ints RowT.zero.flat) (i := 1) (H' := [blkA b4 (ints x.flat) 48, blkA b8 (ints RowT.zero.flat) 48]) (Want.plain rfl) rfl rfl rfl rfl rfl (by rw [(RowT.len RowT.zero)]; exact sz48) (ints_one _) rfl rfl (by have h0 := (RowT.len RowT.zero); have h1 := (RowT.len RowT.zero); omega) (wwhole ((RowT.len RowT.zero).trans (RowT.len RowT.zero).symm)) rfl ?_
 refine sg' ?_
 refine nx J5 ?_
 refine TC.ret ?_
 refine TE.passRet ?_
 refine TE.retCT (H' := []) rfl rfl rfl Tryz.underlying48 rfl sz48 (Rd.own 1 rfl rfl) (RowT.len RowT.zero) (fun _ s => sep_keep [] rfl s) ?_
 exact ⟨by rw [moreR, hcell, if_pos h23], rfl⟩
 refine nx J4 ?_
 refine TC.no rfl ?_
 refine TC.skip ?_
 refine TE.next J3 ?_
 refine sr fun _ J6 => ?_
 refine mv ?_
 refine tp (PV.nilCheck rfl rfl) ?_
 refine tp (PV.load1 (v := (.int .i64 ((x.cells[key.toNat]'(by omega)).out))) rfl Tryz.underlying3 rfl rfl (Rd.own 0 rfl rfl) (RowT.pt_cells x (key.toNat * 7 + 1) (by omega) (by omega) (vs_pt CellT.flat_length x.cells (i := key.toNat) 1 (by omega) (by omega) (by decide) (CellT.at_out (x.cells[key.toNat]'(by omega)) rfl)))) ?_
 refine mv ?_
 refine tp (PV.add (r := (w64 (((x.cells[key.toNat]'(by omega)).out) + n))) rfl rfl rfl rfl) ?_
 refine tp (PV.nilCheck rfl rfl) ?_
 refine TL.store1 (i := 0) (H' := [blkA b4 (ints (RowT.mk x.version (x.cells.set key.toNat (CellT.mk ((x.cells[key.toNat]'(by omega)).inn) (w64 (((x.cells[key.toNat]'(by omega)).out) + n)) ((x.cells[key.toNat]'(by omega)).given)) (by omega)) x.heir x.left).flat) 48, blkA b8 (ints RowT.zero.flat) 48]) (Want.plain rfl) rfl rfl rfl rfl rfl sz3 rfl rfl (by have h0 := (RowT.len x); omega) (RowT.st_cells x (key.toNat * 7 + 1) (by omega) (by omega) (vs_st CellT.flat_length x.cells (i := key.toNat) 1 (by omega) (by omega) (by decide) (CellT.set_out (x.cells[key.toNat]'(by omega)) rfl _))) rfl ?_
 refine nx J6 ?_
 refine sr fun _ J7 => ?_
 refine tp (PV.fieldAddr (r := 0) rfl Tryz.underlying48 rfl sz3 rfl rfl) ?_
 refine tp (PV.load1 (v := (.int .i64 (x.version))) rfl Tryz.underlying3 rfl rfl (Rd.own 0 rfl rfl) (RowT.at_version (RowT.mk x.version (x.cells.set key.toNat (CellT.mk ((x.cells[key.toNat]'(by omega)).inn) (w64 (((x.cells[key.toNat]'(by omega)).out) + n)) ((x.cells[key.toNat]'(by omega)).given)) (by omega)) x.heir x.left) rfl)) ?_
 refine tp (PV.add (r := (w64 (x.version + 1))) rfl rfl rfl rfl) ?_
 refine tp (PV.fieldAddr (r := 0) rfl Tryz.underlying48 rfl sz3 rfl rfl) ?_
 refine TL.store1 (i := 0) (H' := [blkA b4 (ints (RowT.mk (w64 (x.version + 1)) (x.cells.set key.toNat (CellT.mk ((x.cells[key.toNat]'(by omega)).inn) (w64 (((x.cells[key.toNat]'(by omega)).out) + n)) ((x.cells[key.toNat]'(by omega)).given)) (by omega)) x.heir x.left).flat) 48, blkA b8 (ints RowT.zero.flat) 48]) (Want.plain rfl) rfl rfl rfl rfl rfl sz3 rfl rfl (by have h0 := (RowT.len (RowT.mk x.version (x.cells.set key.toNat (CellT.mk ((x.cells[key.toNat]'(by omega)).inn) (w64 (((x.cells[key.toNat]'(by omega)).out) + n)) ((x.cells[key.toNat]'(by omega)).given)) (by omega)) x.heir x.left)); omega) (RowT.set_version (RowT.mk x.version (x.cells.set key.toNat (CellT.mk ((x.cells[key.toNat]'(by omega)).inn) (w64 (((x.cells[key.toNat]'(by omega)).out) + n)) ((x.cells[key.toNat]'(by omega)).given)) (by omega)) x.heir x.left) rfl _) rfl ?_
 refine nx J7 ?_
 refine sr fun _ J8 => ?_
 refine tp (PV.loadN (vs := ints (RowT.mk (w64 (x.version + 1)) (x.cells.set key.toNat (CellT.mk ((x.cells[key.toNat]'(by omega)).inn) (w64 (((x.cells[key.toNat]'(by omega)).out) + n)) ((x.cells[key.toNat]'(by omega)).given)) (by omega)) x.heir x.left).flat) rfl Tryz.underlying48 rfl sz48 rfl (Rd.own 0 rfl rfl) (RowT.len (RowT.mk (w64 (x.version + 1)) (x.cells.set key.toNat (CellT.mk ((x.cells[key.toNat]'(by omega)).inn) (w64 (((x.cells[key.toNat]'(by omega)).out) + n)) ((x.cells[key.toNat]'(by omega)).given)) (by omega)) x.heir x.left)) (whole (RowT.len (RowT.mk (w64 (x.version + 1)) (x.cells.set key.toNat (CellT.mk ((x.cells[key.toNat]'(by omega)).inn) (w64 (((x.cells[key.toNat]'(by omega)).out) + n)) ((x.cells[key.toNat]'(by omega)).given)) (by omega)) x.heir x.left)))) ?_
 refine TL.store (vs := ints (RowT.mk (w64 (x.version + 1)) (x.cells.set key.toNat (CellT.mk ((x.cells[key.toNat]'(by omega)).inn) (w64 (((x.cells[key.toNat]'(by omega)).out) + n)) ((x.cells[key.toNat]'(by omega)).given)) (by omega)) x.heir x.left).flat) (i := 1) (H' := [blkA b4 (ints (RowT.mk (w64 (x.version + 1)) (x.cells.set key.toNat (CellT.mk ((x.cells[key.toNat]'(by omega)).inn) (w64 (((x.cells[key.toNat]'(by omega)).out) + n)) ((x.cells[key.toNat]'(by omega)).given)) (by omega)) x.heir x.left).flat) 48, blkA b8 (ints (RowT.mk (w64 (x.version + 1)) (x.cells.set key.toNat (CellT.mk ((x.cells[key.toNat]'(by omega)).inn) (w64 (((x.cells[key.toNat]'(by omega)).out) + n)) ((x.cells[key.toNat]'(by omega)).given)) (by omega)) x.heir x.left).flat) 48]) (Want.plain rfl) rfl rfl rfl rfl rfl (by rw [(RowT.len (RowT.mk (w64 (x.version + 1)) (x.cells.set key.toNat (CellT.mk ((x.cells[key.toNat]'(by omega)).inn) (w64 (((x.cells[key.toNat]'(by omega)).out) + n)) ((x.cells[key.toNat]'(by omega)).given)) (by omega)) x.heir x.left))]; exact sz48) (ints_one _) rfl rfl (by have h0 := (RowT.len RowT.zero); have h1 := (RowT.len (RowT.mk (w64 (x.version + 1)) (x.cells.set key.toNat (CellT.mk ((x.cells[key.toNat]'(by omega)).inn) (w64 (((x.cells[key.toNat]'(by omega)).out) + n)) ((x.cells[key.toNat]'(by omega)).given)) (by omega)) x.heir x.left)); omega) (wwhole ((RowT.len RowT.zero).trans (RowT.len (RowT.mk (w64 (x.version + 1)) (x.cells.set key.toNat (CellT.mk ((x.cells[key.toNat]'(by omega)).inn) (w64 (((x.cells[key.toNat]'(by omega)).out) + n)) ((x.cells[key.toNat]'(by omega)).given)) (by omega)) x.heir x.left)).symm)) rfl ?_
 refine sg' ?_
 refine nx J8 ?_
 refine TC.ret ?_
 refine TE.retCT (H' := []) rfl rfl rfl Tryz.underlying48 rfl sz48 (Rd.own 1 rfl rfl) (RowT.len (RowT.mk (w64 (x.version + 1)) (x.cells.set key.toNat (CellT.mk ((x.cells[key.toNat]'(by omega)).inn) (w64 (((x.cells[key.toNat]'(by omega)).out) + n)) ((x.cells[key.toNat]'(by omega)).given)) (by omega)) x.heir x.left)) (fun _ s => sep_keep [] rfl s) ?_
 refine ⟨?_, rfl⟩
 rw [moreR, hcell, if_neg h23, putCell, dif_pos hkb]
theorem moreGive_does (x : RowT) (key n : Int) (hk : 0 ≤ key ∧ key < 4) (hn : 1 ≤ n ∧ n ≤ 1099511627776) (tb : Nat) (to' : Int) (ht : 0 ≤ to' ∧ to' < 5) :
    Does Tryz.prog 107 #[(.agg (ints x.flat).toArray), (.int .i64 (key)), (.int .i64 (n)), (.func (.func 111) #[] #[(.pointer (some ⟨tb, 0, none⟩))])] (fun _ => True) [blkA tb [(.int .i64 (to'))] 3] (Ret (fun r' H => r' = .tuple #[.agg (ints (moreR x key n (sumG (cellAt x key)) (giveTo (cellAt x key) to' (w64 (givenOf (cellAt x key) to' + n)))).1.flat).toArray, .int .i64 (moreR x key n (sumG (cellAt x key)) (giveTo (cellAt x key) to' (w64 (givenOf (cellAt x key) to' + n)))).2] ∧ H = [blkA tb [.int .i64 to'] 3])) := by
 refine Does.body (vs := [(.agg (ints x.flat).toArray), (.int .i64 (key)), (.int .i64 (n)), (.func (.func 111) #[] #[(.pointer (some ⟨tb, 0, none⟩))])]) (n := 36) Tryz.func107 rfl rfl rfl (fun w0 F hF => ?_)
 have hkb : keyB key = true := decide_eq_true hk
 have hcell : cellAt x key = x.cells[key.toNat]'(by omega) := by rw [cellAt, dif_pos hkb]
 have htb : machB to' = true := decide_eq_true ht
 refine sr fun _ J1 => ?_
 refine TL.box (Want.plain rfl) rfl rfl rfl rfl (fun b4 => ?_)
 change TL _ _ _ _ _ _ _ _ _ [blkA b4 (ints x.flat) 48, blkA tb [(.int .i64 (to'))] 3]
 refine TL.alloc (Want.plain rfl) rfl rfl rfl z48 (fun b8 => ?_)
 change TL _ _ _ _ _ _ _ _ _ [blkA b8 (ints RowT.zero.flat) 48, blkA b4 (ints x.flat) 48, blkA tb [(.int .i64 (to'))] 3]
 refine sg' ?_
 refine nx J1 ?_
 refine sr fun _ J2 => ?_
 refine mv ?_
 refine mv ?_
 refine tp (PV.fieldAddr (r := 1) rfl Tryz.underlying48 rfl sz45 rfl rfl) ?_
 refine tp (PV.indexArr (r := 1 + key.toNat * 7) rfl Tryz.underlying45 sz44 rfl rfl (by omega) (by omega) (by omega)) ?_
 refine TL.callRv (A := [blkA b4 (ints x.flat) 48, blkA tb [(.int .i64 (to'))] 3]) (B := [blkA b8 (ints RowT.zero.flat) 48]) (Want.plain rfl) rfl rfl rfl rfl nm111 rfl (give1_does b4 (1 + key.toNat * 7) 48 tb (ints x.flat) x.cells[key.toNat].given to' ht (RowT.sub_cells x (key.toNat * 7 + 2) (by omega) (by omega) (vs_sub CellT.flat_length x.cells (i := key.toNat) 2 (by omega) (by omega) (by decide) (CellT.sub_given (x.cells[key.toNat]'(by omega)) 0 rfl (by decide) (whole (vi5_len ((x.cells[key.toNat]'(by omega)).given))))))) (fun _ s => sep_selR [1, 1] rfl s) (fun _ _ _ => trivial) (fun vR HR hR => ?_)
 obtain ⟨rfl, rfl⟩ := hR
 change TL _ _ _ _ _ _ _ _ _ [blkA b4 (ints x.flat) 48, blkA tb [(.int .i64 (to'))] 3, blkA b8 (ints RowT.zero.flat) 48]
 refine mv ?_
 refine tp (PV.extract (vs := [(.int .i64 ((sumG (x.cells[key.toNat]'(by omega))))), (.pointer (some ⟨b4, 1 + key.toNat * 7 + 2 + to'.toNat, none⟩))]) rfl rfl rfl) ?_
 refine tp (PV.extract (vs := [(.int .i64 ((sumG (x.cells[key.toNat]'(by omega))))), (.pointer (some ⟨b4, 1 + key.toNat * 7 + 2 + to'.toNat, none⟩))]) rfl rfl rfl) ?_
 refine sg' ?_
 refine sg' ?_
 refine nx J2 ?_
 refine TC.seq fun _ J3 => ?_
 refine sr fun _ J4 => ?_
 refine mv ?_
 refine mv ?_
 refine tp (PV.sub (r := (1099511627776 - n)) rfl rfl rfl (wrap_i64 (by omega) (by omega))) ?_
 refine tp (PV.gtr rfl rfl rfl) ?_
 refine TL.dec (fun h23 => ?_) (fun h23 => ?_)
 refine nx J4 ?_
 refine TC.yes rfl ?_
 refine sr fun _ J5 => ?_
 refine tp (PV.build (cells := (ints RowT.zero.flat).toArray) rfl rfl (by as_aux_lemma => kernel_rfl)) ?_
 refine TL.store (vs := ints RowT.zero.flat) (i := 2) (H' := [blkA b4 (ints x.flat) 48, blkA tb [(.int .i64 (to'))] 3, blkA b8 (ints RowT.zero.flat) 48]) (Want.plain rfl) rfl rfl rfl rfl rfl (by rw [(RowT.len RowT.zero)]; exact sz48) (ints_one _) rfl rfl (by have h0 := (RowT.len RowT.zero); have h1 := (RowT.len RowT.zero); omega) (wwhole ((RowT.len RowT.zero).trans (RowT.len RowT.zero).symm)) rfl ?_
 refine sg' ?_
 refine nx J5 ?_
 refine TC.ret ?_
 refine TE.passRet ?_
 refine TE.retCT (H' := [blkA tb [(.int .i64 (to'))] 3]) rfl rfl rfl Tryz.underlying48 rfl sz48 (Rd.own 2 rfl rfl) (RowT.len RowT.zero) (fun _ s => sep_keep [1] rfl s) ?_
 exact ⟨by rw [moreR, hcell, if_pos h23], rfl⟩
 refine nx J4 ?_
 refine TC.no rfl ?_
 refine TC.skip ?_
 refine TE.next J3 ?_
 refine sr fun _ J6 => ?_
 refine mv ?_
 refine tp (PV.nilCheck rfl rfl) ?_
 refine tp (PV.load1 (v := (.int .i64 ((((x.cells[key.toNat]'(by omega)).given)[to'.toNat]'(by omega))))) rfl Tryz.underlying3 rfl rfl (Rd.own 0 rfl rfl) (RowT.pt_cells x (key.toNat * 7 + 2 + to'.toNat) (by omega) (by omega) (vs_pt CellT.flat_length x.cells (i := key.toNat) (2 + to'.toNat) (by omega) (by omega) (by omega) (CellT.pt_given (x.cells[key.toNat]'(by omega)) (to'.toNat) (by omega) (by omega) (vi_at ((x.cells[key.toNat]'(by omega)).given) (by omega)))))) ?_
 refine mv ?_
 refine tp (PV.add (r := (w64 ((((x.cells[key.toNat]'(by omega)).given)[to'.toNat]'(by omega)) + n))) rfl rfl rfl rfl) ?_
 refine tp (PV.nilCheck rfl rfl) ?_
 refine TL.store1 (i := 0) (H' := [blkA b4 (ints (RowT.mk x.version (x.cells.set key.toNat (CellT.mk ((x.cells[key.toNat]'(by omega)).inn) ((x.cells[key.toNat]'(by omega)).out) (((x.cells[key.toNat]'(by omega)).given).set to'.toNat (w64 ((((x.cells[key.toNat]'(by omega)).given)[to'.toNat]'(by omega)) + n)) (by omega))) (by omega)) x.heir x.left).flat) 48, blkA tb [(.int .i64 (to'))] 3, blkA b8 (ints RowT.zero.flat) 48]) (Want.plain rfl) rfl rfl rfl rfl rfl sz3 rfl rfl (by have h0 := (RowT.len x); omega) (RowT.st_cells x (key.toNat * 7 + 2 + to'.toNat) (by omega) (by omega) (vs_st CellT.flat_length x.cells (i := key.toNat) (2 + to'.toNat) (by omega) (by omega) (by omega) (CellT.st_given (x.cells[key.toNat]'(by omega)) (to'.toNat) (by omega) (by omega) (vi_st ((x.cells[key.toNat]'(by omega)).given) (by omega) _)))) rfl ?_
 refine nx J6 ?_
 refine sr fun _ J7 => ?_
 refine tp (PV.fieldAddr (r := 0) rfl Tryz.underlying48 rfl sz3 rfl rfl) ?_
 refine tp (PV.load1 (v := (.int .i64 (x.version))) rfl Tryz.underlying3 rfl rfl (Rd.own 0 rfl rfl) (RowT.at_version (RowT.mk x.version (x.cells.set key.toNat (CellT.mk ((x.cells[key.toNat]'(by omega)).inn) ((x.cells[key.toNat]'(by omega)).out) (((x.cells[key.toNat]'(by omega)).given).set to'.toNat (w64 ((((x.cells[key.toNat]'(by omega)).given)[to'.toNat]'(by omega)) + n)) (by omega))) (by omega)) x.heir x.left) rfl)) ?_
 refine tp (PV.add (r := (w64 (x.version + 1))) rfl rfl rfl rfl) ?_
 refine tp (PV.fieldAddr (r := 0) rfl Tryz.underlying48 rfl sz3 rfl rfl) ?_
 refine TL.store1 (i := 0) (H' := [blkA b4 (ints (RowT.mk (w64 (x.version + 1)) (x.cells.set key.toNat (CellT.mk ((x.cells[key.toNat]'(by omega)).inn) ((x.cells[key.toNat]'(by omega)).out) (((x.cells[key.toNat]'(by omega)).given).set to'.toNat (w64 ((((x.cells[key.toNat]'(by omega)).given)[to'.toNat]'(by omega)) + n)) (by omega))) (by omega)) x.heir x.left).flat) 48, blkA tb [(.int .i64 (to'))] 3, blkA b8 (ints RowT.zero.flat) 48]) (Want.plain rfl) rfl rfl rfl rfl rfl sz3 rfl rfl (by have h0 := (RowT.len (RowT.mk x.version (x.cells.set key.toNat (CellT.mk ((x.cells[key.toNat]'(by omega)).inn) ((x.cells[key.toNat]'(by omega)).out) (((x.cells[key.toNat]'(by omega)).given).set to'.toNat (w64 ((((x.cells[key.toNat]'(by omega)).given)[to'.toNat]'(by omega)) + n)) (by omega))) (by omega)) x.heir x.left)); omega) (RowT.set_version (RowT.mk x.version (x.cells.set key.toNat (CellT.mk ((x.cells[key.toNat]'(by omega)).inn) ((x.cells[key.toNat]'(by omega)).out) (((x.cells[key.toNat]'(by omega)).given).set to'.toNat (w64 ((((x.cells[key.toNat]'(by omega)).given)[to'.toNat]'(by omega)) + n)) (by omega))) (by omega)) x.heir x.left) rfl _) rfl ?_
 refine nx J7 ?_
 refine sr fun _ J8 => ?_
 refine tp (PV.loadN (vs := ints (RowT.mk (w64 (x.version + 1)) (x.cells.set key.toNat (CellT.mk ((x.cells[key.toNat]'(by omega)).inn) ((x.cells[key.toNat]'(by omega)).out) (((x.cells[key.toNat]'(by omega)).given).set to'.toNat (w64 ((((x.cells[key.toNat]'(by omega)).given)[to'.toNat]'(by omega)) + n)) (by omega))) (by omega)) x.heir x.left).flat) rfl Tryz.underlying48 rfl sz48 rfl (Rd.own 0 rfl rfl) (RowT.len (RowT.mk (w64 (x.version + 1)) (x.cells.set key.toNat (CellT.mk ((x.cells[key.toNat]'(by omega)).inn) ((x.cells[key.toNat]'(by omega)).out) (((x.cells[key.toNat]'(by omega)).given).set to'.toNat (w64 ((((x.cells[key.toNat]'(by omega)).given)[to'.toNat]'(by omega)) + n)) (by omega))) (by omega)) x.heir x.left)) (whole (RowT.len (RowT.mk (w64 (x.version + 1)) (x.cells.set key.toNat (CellT.mk ((x.cells[key.toNat]'(by omega)).inn) ((x.cells[key.toNat]'(by omega)).out) (((x.cells[key.toNat]'(by omega)).given).set to'.toNat (w64 ((((x.cells[key.toNat]'(by omega)).given)[to'.toNat]'(by omega)) + n)) (by omega))) (by omega)) x.heir x.left)))) ?_
 refine TL.store (vs := ints (RowT.mk (w64 (x.version + 1)) (x.cells.set key.toNat (CellT.mk ((x.cells[key.toNat]'(by omega)).inn) ((x.cells[key.toNat]'(by omega)).out) (((x.cells[key.toNat]'(by omega)).given).set to'.toNat (w64 ((((x.cells[key.toNat]'(by omega)).given)[to'.toNat]'(by omega)) + n)) (by omega))) (by omega)) x.heir x.left).flat) (i := 2) (H' := [blkA b4 (ints (RowT.mk (w64 (x.version + 1)) (x.cells.set key.toNat (CellT.mk ((x.cells[key.toNat]'(by omega)).inn) ((x.cells[key.toNat]'(by omega)).out) (((x.cells[key.toNat]'(by omega)).given).set to'.toNat (w64 ((((x.cells[key.toNat]'(by omega)).given)[to'.toNat]'(by omega)) + n)) (by omega))) (by omega)) x.heir x.left).flat) 48, blkA tb [(.int .i64 (to'))] 3, blkA b8 (ints (RowT.mk (w64 (x.version + 1)) (x.cells.set key.toNat (CellT.mk ((x.cells[key.toNat]'(by omega)).inn) ((x.cells[key.toNat]'(by omega)).out) (((x.cells[key.toNat]'(by omega)).given).set to'.toNat (w64 ((((x.cells[key.toNat]'(by omega)).given)[to'.toNat]'(by omega)) + n)) (by omega))) (by omega)) x.heir x.left).flat) 48]) (Want.plain rfl) rfl rfl rfl rfl rfl (by rw [(RowT.len (RowT.mk (w64 (x.version + 1)) (x.cells.set key.toNat (CellT.mk ((x.cells[key.toNat]'(by omega)).inn) ((x.cells[key.toNat]'(by omega)).out) (((x.cells[key.toNat]'(by omega)).given).set to'.toNat (w64 ((((x.cells[key.toNat]'(by omega)).given)[to'.toNat]'(by omega)) + n)) (by omega))) (by omega)) x.heir x.left))]; exact sz48) (ints_one _) rfl rfl (by have h0 := (RowT.len RowT.zero); have h1 := (RowT.len (RowT.mk (w64 (x.version + 1)) (x.cells.set key.toNat (CellT.mk ((x.cells[key.toNat]'(by omega)).inn) ((x.cells[key.toNat]'(by omega)).out) (((x.cells[key.toNat]'(by omega)).given).set to'.toNat (w64 ((((x.cells[key.toNat]'(by omega)).given)[to'.toNat]'(by omega)) + n)) (by omega))) (by omega)) x.heir x.left)); omega) (wwhole ((RowT.len RowT.zero).trans (RowT.len (RowT.mk (w64 (x.version + 1)) (x.cells.set key.toNat (CellT.mk ((x.cells[key.toNat]'(by omega)).inn) ((x.cells[key.toNat]'(by omega)).out) (((x.cells[key.toNat]'(by omega)).given).set to'.toNat (w64 ((((x.cells[key.toNat]'(by omega)).given)[to'.toNat]'(by omega)) + n)) (by omega))) (by omega)) x.heir x.left)).symm)) rfl ?_
 refine sg' ?_
 refine nx J8 ?_
 refine TC.ret ?_
 refine TE.retCT (H' := [blkA tb [(.int .i64 (to'))] 3]) rfl rfl rfl Tryz.underlying48 rfl sz48 (Rd.own 2 rfl rfl) (RowT.len (RowT.mk (w64 (x.version + 1)) (x.cells.set key.toNat (CellT.mk ((x.cells[key.toNat]'(by omega)).inn) ((x.cells[key.toNat]'(by omega)).out) (((x.cells[key.toNat]'(by omega)).given).set to'.toNat (w64 ((((x.cells[key.toNat]'(by omega)).given)[to'.toNat]'(by omega)) + n)) (by omega))) (by omega)) x.heir x.left)) (fun _ s => sep_keep [1] rfl s) ?_
 refine ⟨?_, rfl⟩
 rw [moreR, hcell, if_neg h23, putCell, dif_pos hkb]
 simp [giveTo, givenOf, htb]
theorem rowInc_does (x : RowT) (key n : Int) :
    Does Tryz.prog 75 #[(.agg (ints x.flat).toArray), (.int .i64 (key)), (.int .i64 (n))] (fun _ => True) [] (Ret (fun r' H => r' = .tuple #[.agg (ints (rowInc x key n).1.flat).toArray, .int .i64 (rowInc x key n).2] ∧ H = [])) := by
 refine Does.body (vs := [(.agg (ints x.flat).toArray), (.int .i64 (key)), (.int .i64 (n))]) (n := 19) Tryz.func75 rfl rfl rfl (fun w0 F hF => ?_)
 refine sr fun _ J1 => ?_
 refine TL.box (Want.plain rfl) rfl rfl rfl rfl (fun b3 => ?_)
 change TL _ _ _ _ _ _ _ _ _ [blkA b3 (ints x.flat) 48]
 refine TL.alloc (Want.plain rfl) rfl rfl rfl z48 (fun b6 => ?_)
 change TL _ _ _ _ _ _ _ _ _ [blkA b6 (ints RowT.zero.flat) 48, blkA b3 (ints x.flat) 48]
 refine sg' ?_
 refine nx J1 ?_
 clear J1
 refine TC.seq fun _ J2 => ?_
 refine sr fun _ J3 => ?_
 refine mv ?_
 refine mv ?_
 refine TL.callR (A := []) (Want.plain rfl) rfl rfl rfl nm106 rfl (asked_does key n) (fun _ s => s) (fun _ _ _ => trivial) (fun vR HR hR => ?_)
 obtain ⟨rfl, rfl⟩ := hR
 change TL _ _ _ _ _ _ _ _ _ [blkA b6 (ints RowT.zero.flat) 48, blkA b3 (ints x.flat) 48]
 refine TL.decB (fun h10 => ?_) (fun h10 => ?_)
 have hq := h10
 unfold askB keyB okN at hq
 simp only [Bool.and_eq_true, decide_eq_true_iff] at hq
 have hk : 0 ≤ key ∧ key < 4 := hq.1.1
 have hn : 1 ≤ n ∧ n ≤ 1099511627776 := ⟨hq.1.2, hq.2.2⟩
 refine tp (PV.not (r := false) rfl rfl rfl) ?_
 refine nx J3 ?_
 clear J3
 refine TC.no rfl ?_
 refine TC.skip ?_
 refine TE.next J2 ?_
 clear J2
 refine sr fun _ J4 => ?_
 refine tp (PV.loadN (vs := ints x.flat) rfl Tryz.underlying48 rfl sz48 rfl (Rd.own 1 rfl rfl) (RowT.len x) (whole (RowT.len x))) ?_
 refine mv ?_
 refine mv ?_
 refine TL.callR (A := []) (Want.plain rfl) rfl rfl rfl nm107 rfl (moreInc_does x key n hk hn) (fun _ s => s) (fun _ _ _ => trivial) (fun vR HR hR => ?_)
 obtain ⟨rfl, rfl⟩ := hR
 change TL _ _ _ _ _ _ _ _ _ [blkA b6 (ints RowT.zero.flat) 48, blkA b3 (ints x.flat) 48]
 refine tp (PV.extract (vs := [(.agg (ints ((moreR x key n (cellAt x key).inn { cellAt x key with inn := w64 ((cellAt x key).inn + n) }).1).flat).toArray), (.int .i64 ((moreR x key n (cellAt x key).inn { cellAt x key with inn := w64 ((cellAt x key).inn + n) }).2))]) rfl rfl rfl) ?_
 refine tp (PV.extract (vs := [(.agg (ints ((moreR x key n (cellAt x key).inn { cellAt x key with inn := w64 ((cellAt x key).inn + n) }).1).flat).toArray), (.int .i64 ((moreR x key n (cellAt x key).inn { cellAt x key with inn := w64 ((cellAt x key).inn + n) }).2))]) rfl rfl rfl) ?_
 refine TL.store (vs := ints ((moreR x key n (cellAt x key).inn { cellAt x key with inn := w64 ((cellAt x key).inn + n) }).1).flat) (i := 0) (H' := [blkA b6 (ints ((moreR x key n (cellAt x key).inn { cellAt x key with inn := w64 ((cellAt x key).inn + n) }).1).flat) 48, blkA b3 (ints x.flat) 48]) (Want.plain rfl) rfl rfl rfl rfl rfl (by rw [(RowT.len ((moreR x key n (cellAt x key).inn { cellAt x key with inn := w64 ((cellAt x key).inn + n) }).1))]; exact sz48) (ints_one _) rfl rfl (by have h0 := (RowT.len RowT.zero); have h1 := (RowT.len ((moreR x key n (cellAt x key).inn { cellAt x key with inn := w64 ((cellAt x key).inn + n) }).1)); omega) (wwhole ((RowT.len RowT.zero).trans (RowT.len ((moreR x key n (cellAt x key).inn { cellAt x key with inn := w64 ((cellAt x key).inn + n) }).1)).symm)) rfl ?_
 refine sg' ?_
 refine nx J4 ?_
 clear J4
 refine TC.ret ?_
 refine TE.retCT (H' := []) rfl rfl rfl Tryz.underlying48 rfl sz48 (Rd.own 0 rfl rfl) (RowT.len ((moreR x key n (cellAt x key).inn { cellAt x key with inn := w64 ((cellAt x key).inn + n) }).1)) (fun _ s => sep_keep [] rfl s) ?_
 exact ⟨by simp [rowInc, *], rfl⟩
 refine tp (PV.not (r := true) rfl rfl rfl) ?_
 refine nx J3 ?_
 clear J3
 refine TC.yes rfl ?_
 refine sr fun _ J5 => ?_
 refine tp (PV.build (cells := (ints RowT.zero.flat).toArray) rfl rfl (by as_aux_lemma => kernel_rfl)) ?_
 refine TL.store (vs := ints RowT.zero.flat) (i := 0) (H' := [blkA b6 (ints RowT.zero.flat) 48, blkA b3 (ints x.flat) 48]) (Want.plain rfl) rfl rfl rfl rfl rfl (by rw [(RowT.len RowT.zero)]; exact sz48) (ints_one _) rfl rfl (by have h0 := (RowT.len RowT.zero); have h1 := (RowT.len RowT.zero); omega) (wwhole ((RowT.len RowT.zero).trans (RowT.len RowT.zero).symm)) rfl ?_
 refine sg' ?_
 refine nx J5 ?_
 clear J5
 refine TC.ret ?_
 refine TE.passRet ?_
 clear J2
 refine TE.retCT (H' := []) rfl rfl rfl Tryz.underlying48 rfl sz48 (Rd.own 0 rfl rfl) (RowT.len RowT.zero) (fun _ s => sep_keep [] rfl s) ?_
 exact ⟨by simp [rowInc, *], rfl⟩
theorem rowDec_does (x : RowT) (key n : Int) :
    Does Tryz.prog 76 #[(.agg (ints x.flat).toArray), (.int .i64 (key)), (.int .i64 (n))] (fun _ => True) [] (Ret (fun r' H => r' = .tuple #[.agg (ints (rowDec x key n).1.flat).toArray, .int .i64 (rowDec x key n).2] ∧ H = [])) := by
 refine Does.body (vs := [(.agg (ints x.flat).toArray), (.int .i64 (key)), (.int .i64 (n))]) (n := 19) Tryz.func76 rfl rfl rfl (fun w0 F hF => ?_)
 refine sr fun _ J1 => ?_
 refine TL.box (Want.plain rfl) rfl rfl rfl rfl (fun b3 => ?_)
 change TL _ _ _ _ _ _ _ _ _ [blkA b3 (ints x.flat) 48]
 refine TL.alloc (Want.plain rfl) rfl rfl rfl z48 (fun b6 => ?_)
 change TL _ _ _ _ _ _ _ _ _ [blkA b6 (ints RowT.zero.flat) 48, blkA b3 (ints x.flat) 48]
 refine sg' ?_
 refine nx J1 ?_
 clear J1
 refine TC.seq fun _ J2 => ?_
 refine sr fun _ J3 => ?_
 refine mv ?_
 refine mv ?_
 refine TL.callR (A := []) (Want.plain rfl) rfl rfl rfl nm106 rfl (asked_does key n) (fun _ s => s) (fun _ _ _ => trivial) (fun vR HR hR => ?_)
 obtain ⟨rfl, rfl⟩ := hR
 change TL _ _ _ _ _ _ _ _ _ [blkA b6 (ints RowT.zero.flat) 48, blkA b3 (ints x.flat) 48]
 refine TL.decB (fun h10 => ?_) (fun h10 => ?_)
 have hq := h10
 unfold askB keyB okN at hq
 simp only [Bool.and_eq_true, decide_eq_true_iff] at hq
 have hk : 0 ≤ key ∧ key < 4 := hq.1.1
 have hn : 1 ≤ n ∧ n ≤ 1099511627776 := ⟨hq.1.2, hq.2.2⟩
 refine tp (PV.not (r := false) rfl rfl rfl) ?_
 refine nx J3 ?_
 clear J3
 refine TC.no rfl ?_
 refine TC.skip ?_
 refine TE.next J2 ?_
 clear J2
 refine sr fun _ J4 => ?_
 refine tp (PV.loadN (vs := ints x.flat) rfl Tryz.underlying48 rfl sz48 rfl (Rd.own 1 rfl rfl) (RowT.len x) (whole (RowT.len x))) ?_
 refine mv ?_
 refine mv ?_
 refine TL.callR (A := []) (Want.plain rfl) rfl rfl rfl nm107 rfl (moreDec_does x key n hk hn) (fun _ s => s) (fun _ _ _ => trivial) (fun vR HR hR => ?_)
 obtain ⟨rfl, rfl⟩ := hR
 change TL _ _ _ _ _ _ _ _ _ [blkA b6 (ints RowT.zero.flat) 48, blkA b3 (ints x.flat) 48]
 refine tp (PV.extract (vs := [(.agg (ints ((moreR x key n (cellAt x key).out { cellAt x key with out := w64 ((cellAt x key).out + n) }).1).flat).toArray), (.int .i64 ((moreR x key n (cellAt x key).out { cellAt x key with out := w64 ((cellAt x key).out + n) }).2))]) rfl rfl rfl) ?_
 refine tp (PV.extract (vs := [(.agg (ints ((moreR x key n (cellAt x key).out { cellAt x key with out := w64 ((cellAt x key).out + n) }).1).flat).toArray), (.int .i64 ((moreR x key n (cellAt x key).out { cellAt x key with out := w64 ((cellAt x key).out + n) }).2))]) rfl rfl rfl) ?_
 refine TL.store (vs := ints ((moreR x key n (cellAt x key).out { cellAt x key with out := w64 ((cellAt x key).out + n) }).1).flat) (i := 0) (H' := [blkA b6 (ints ((moreR x key n (cellAt x key).out { cellAt x key with out := w64 ((cellAt x key).out + n) }).1).flat) 48, blkA b3 (ints x.flat) 48]) (Want.plain rfl) rfl rfl rfl rfl rfl (by rw [(RowT.len ((moreR x key n (cellAt x key).out { cellAt x key with out := w64 ((cellAt x key).out + n) }).1))]; exact sz48) (ints_one _) rfl rfl (by have h0 := (RowT.len RowT.zero); have h1 := (RowT.len ((moreR x key n (cellAt x key).out { cellAt x key with out := w64 ((cellAt x key).out + n) }).1)); omega) (wwhole ((RowT.len RowT.zero).trans (RowT.len ((moreR x key n (cellAt x key).out { cellAt x key with out := w64 ((cellAt x key).out + n) }).1)).symm)) rfl ?_
 refine sg' ?_
 refine nx J4 ?_
 clear J4
 refine TC.ret ?_
 refine TE.retCT (H' := []) rfl rfl rfl Tryz.underlying48 rfl sz48 (Rd.own 0 rfl rfl) (RowT.len ((moreR x key n (cellAt x key).out { cellAt x key with out := w64 ((cellAt x key).out + n) }).1)) (fun _ s => sep_keep [] rfl s) ?_
 exact ⟨by simp [rowDec, *], rfl⟩
 refine tp (PV.not (r := true) rfl rfl rfl) ?_
 refine nx J3 ?_
 clear J3
 refine TC.yes rfl ?_
 refine sr fun _ J5 => ?_
 refine tp (PV.build (cells := (ints RowT.zero.flat).toArray) rfl rfl (by as_aux_lemma => kernel_rfl)) ?_
 refine TL.store (vs := ints RowT.zero.flat) (i := 0) (H' := [blkA b6 (ints RowT.zero.flat) 48, blkA b3 (ints x.flat) 48]) (Want.plain rfl) rfl rfl rfl rfl rfl (by rw [(RowT.len RowT.zero)]; exact sz48) (ints_one _) rfl rfl (by have h0 := (RowT.len RowT.zero); have h1 := (RowT.len RowT.zero); omega) (wwhole ((RowT.len RowT.zero).trans (RowT.len RowT.zero).symm)) rfl ?_
 refine sg' ?_
 refine nx J5 ?_
 clear J5
 refine TC.ret ?_
 refine TE.passRet ?_
 clear J2
 refine TE.retCT (H' := []) rfl rfl rfl Tryz.underlying48 rfl sz48 (Rd.own 0 rfl rfl) (RowT.len RowT.zero) (fun _ s => sep_keep [] rfl s) ?_
 exact ⟨by simp [rowDec, *], rfl⟩
theorem rowGive_does (x : RowT) (key n to' : Int) :
    Does Tryz.prog 77 #[(.agg (ints x.flat).toArray), (.int .i64 (key)), (.int .i64 (n)), (.int .i64 (to'))] (fun _ => True) [] (Ret (fun r' H => r' = .tuple #[.agg (ints (rowGive x key n to').1.flat).toArray, .int .i64 (rowGive x key n to').2] ∧ H = [])) := by
 refine Does.body (vs := [(.agg (ints x.flat).toArray), (.int .i64 (key)), (.int .i64 (n)), (.int .i64 (to'))]) (n := 27) Tryz.func77 rfl rfl rfl (fun w0 F hF => ?_)
 refine sr fun _ J1 => ?_
 refine TL.box (Want.plain rfl) rfl rfl rfl rfl (fun b4 => ?_)
 change TL _ _ _ _ _ _ _ _ _ [blkA b4 (ints x.flat) 48]
 refine TL.box (Want.plain rfl) rfl rfl rfl rfl (fun b7 => ?_)
 change TL _ _ _ _ _ _ _ _ _ [blkA b7 [(.int .i64 (to'))] 3, blkA b4 (ints x.flat) 48]
 refine TL.alloc (Want.plain rfl) rfl rfl rfl z48 (fun b8 => ?_)
 change TL _ _ _ _ _ _ _ _ _ [blkA b8 (ints RowT.zero.flat) 48, blkA b7 [(.int .i64 (to'))] 3, blkA b4 (ints x.flat) 48]
 refine sg' ?_
 refine nx J1 ?_
 clear J1
 refine TC.seq fun _ J2 => ?_
 refine sr fun _ J3 => ?_
 refine tp (PV.load1 (v := (.int .i64 (to'))) rfl Tryz.underlying3 rfl rfl (Rd.own 1 rfl rfl) rfl) ?_
 refine TL.callR (A := []) (Want.plain rfl) rfl rfl rfl nm110 rfl (rowMachine_does to') (fun _ s => s) (fun _ _ _ => trivial) (fun vR HR hR => ?_)
 obtain ⟨rfl, rfl⟩ := hR
 change TL _ _ _ _ _ _ _ _ _ [blkA b8 (ints RowT.zero.flat) 48, blkA b7 [(.int .i64 (to'))] 3, blkA b4 (ints x.flat) 48]
 refine TL.decB (fun h11 => ?_) (fun h11 => ?_)
 refine tp (PV.not (r := false) rfl rfl rfl) ?_
 refine mv ?_
 refine tq (PV.move rfl rfl) ?_
 refine tq (PV.move rfl rfl) ?_
 refine TL.callR (A := []) (Want.met rfl rfl rfl) rfl rfl rfl nm106 rfl (asked_does key n) (fun _ s => s) (fun _ _ _ => trivial) (fun vR HR hR => ?_)
 obtain ⟨rfl, rfl⟩ := hR
 change TL _ _ _ _ _ _ _ _ _ [blkA b8 (ints RowT.zero.flat) 48, blkA b7 [(.int .i64 (to'))] 3, blkA b4 (ints x.flat) 48]
 refine TL.decB (fun h16 => ?_) (fun h16 => ?_)
 have hq := h16
 unfold askB keyB okN at hq
 simp only [Bool.and_eq_true, decide_eq_true_iff] at hq
 have hk : 0 ≤ key ∧ key < 4 := hq.1.1
 have hn : 1 ≤ n ∧ n ≤ 1099511627776 := ⟨hq.1.2, hq.2.2⟩
 have ht : 0 ≤ to' ∧ to' < 5 := of_decide_eq_true h11
 refine tq (PV.not (r := false) rfl rfl rfl) ?_
 refine tp (PV.pick rfl rfl rfl) ?_
 refine nx J3 ?_
 clear J3
 refine TC.no rfl ?_
 refine TC.skip ?_
 refine TE.next J2 ?_
 clear J2
 refine sr fun _ J4 => ?_
 refine tp (PV.loadN (vs := ints x.flat) rfl Tryz.underlying48 rfl sz48 rfl (Rd.own 2 rfl rfl) (RowT.len x) (whole (RowT.len x))) ?_
 refine mv ?_
 refine mv ?_
 refine tp (PV.mkFunc rfl rfl) ?_
 refine TL.callR (A := [blkA b7 [(.int .i64 (to'))] 3]) (Want.plain rfl) rfl rfl rfl nm107 rfl (moreGive_does x key n hk hn b7 to' ht) (fun _ s => sep_selR [1] rfl s) (fun _ _ _ => trivial) (fun vR HR hR => ?_)
 obtain ⟨rfl, rfl⟩ := hR
 change TL _ _ _ _ _ _ _ _ _ [blkA b7 [(.int .i64 (to'))] 3, blkA b8 (ints RowT.zero.flat) 48, blkA b4 (ints x.flat) 48]
 refine tp (PV.extract (vs := [(.agg (ints ((moreR x key n (sumG (cellAt x key)) (giveTo (cellAt x key) to' (w64 (givenOf (cellAt x key) to' + n)))).1).flat).toArray), (.int .i64 ((moreR x key n (sumG (cellAt x key)) (giveTo (cellAt x key) to' (w64 (givenOf (cellAt x key) to' + n)))).2))]) rfl rfl rfl) ?_
 refine tp (PV.extract (vs := [(.agg (ints ((moreR x key n (sumG (cellAt x key)) (giveTo (cellAt x key) to' (w64 (givenOf (cellAt x key) to' + n)))).1).flat).toArray), (.int .i64 ((moreR x key n (sumG (cellAt x key)) (giveTo (cellAt x key) to' (w64 (givenOf (cellAt x key) to' + n)))).2))]) rfl rfl rfl) ?_
 refine TL.store (vs := ints ((moreR x key n (sumG (cellAt x key)) (giveTo (cellAt x key) to' (w64 (givenOf (cellAt x key) to' + n)))).1).flat) (i := 1) (H' := [blkA b7 [(.int .i64 (to'))] 3, blkA b8 (ints ((moreR x key n (sumG (cellAt x key)) (giveTo (cellAt x key) to' (w64 (givenOf (cellAt x key) to' + n)))).1).flat) 48, blkA b4 (ints x.flat) 48]) (Want.plain rfl) rfl rfl rfl rfl rfl (by rw [(RowT.len ((moreR x key n (sumG (cellAt x key)) (giveTo (cellAt x key) to' (w64 (givenOf (cellAt x key) to' + n)))).1))]; exact sz48) (ints_one _) rfl rfl (by have h0 := (RowT.len RowT.zero); have h1 := (RowT.len ((moreR x key n (sumG (cellAt x key)) (giveTo (cellAt x key) to' (w64 (givenOf (cellAt x key) to' + n)))).1)); omega) (wwhole ((RowT.len RowT.zero).trans (RowT.len ((moreR x key n (sumG (cellAt x key)) (giveTo (cellAt x key) to' (w64 (givenOf (cellAt x key) to' + n)))).1)).symm)) rfl ?_
 refine sg' ?_
 refine nx J4 ?_
 clear J4
 refine TC.ret ?_
 refine TE.retCT (H' := []) rfl rfl rfl Tryz.underlying48 rfl sz48 (Rd.own 1 rfl rfl) (RowT.len ((moreR x key n (sumG (cellAt x key)) (giveTo (cellAt x key) to' (w64 (givenOf (cellAt x key) to' + n)))).1)) (fun _ s => sep_keep [] rfl s) ?_
 exact ⟨by simp [rowGive, *], rfl⟩
 refine tq (PV.not (r := true) rfl rfl rfl) ?_
 refine tp (PV.pick rfl rfl rfl) ?_
 refine nx J3 ?_
 clear J3
 refine TC.yes rfl ?_
 refine sr fun _ J5 => ?_
 refine tp (PV.build (cells := (ints RowT.zero.flat).toArray) rfl rfl (by as_aux_lemma => kernel_rfl)) ?_
 refine TL.store (vs := ints RowT.zero.flat) (i := 0) (H' := [blkA b8 (ints RowT.zero.flat) 48, blkA b7 [(.int .i64 (to'))] 3, blkA b4 (ints x.flat) 48]) (Want.plain rfl) rfl rfl rfl rfl rfl (by rw [(RowT.len RowT.zero)]; exact sz48) (ints_one _) rfl rfl (by have h0 := (RowT.len RowT.zero); have h1 := (RowT.len RowT.zero); omega) (wwhole ((RowT.len RowT.zero).trans (RowT.len RowT.zero).symm)) rfl ?_
 refine sg' ?_
 refine nx J5 ?_
 clear J5
 refine TC.ret ?_
 refine TE.passRet ?_
 clear J2
 refine TE.retCT (H' := []) rfl rfl rfl Tryz.underlying48 rfl sz48 (Rd.own 0 rfl rfl) (RowT.len RowT.zero) (fun _ s => sep_keep [] rfl s) ?_
 exact ⟨by simp [rowGive, *], rfl⟩
 refine tp (PV.not (r := true) rfl rfl rfl) ?_
 refine mv ?_
 refine TL.unmet (b := true) rfl rfl rfl rfl (lb rfl) ?_
 refine TL.unmet (b := true) rfl rfl rfl rfl (lb rfl) ?_
 refine TL.unmet (b := true) rfl rfl rfl rfl (lb rfl) ?_
 refine TL.unmet (b := true) rfl rfl rfl rfl (lb rfl) ?_
 refine tp (PV.pick rfl rfl rfl) ?_
 refine nx J3 ?_
 clear J3
 refine TC.yes rfl ?_
 refine sr fun _ J6 => ?_
 refine tp (PV.build (cells := (ints RowT.zero.flat).toArray) rfl rfl (by as_aux_lemma => kernel_rfl)) ?_
 refine TL.store (vs := ints RowT.zero.flat) (i := 0) (H' := [blkA b8 (ints RowT.zero.flat) 48, blkA b7 [(.int .i64 (to'))] 3, blkA b4 (ints x.flat) 48]) (Want.plain rfl) rfl rfl rfl rfl rfl (by rw [(RowT.len RowT.zero)]; exact sz48) (ints_one _) rfl rfl (by have h0 := (RowT.len RowT.zero); have h1 := (RowT.len RowT.zero); omega) (wwhole ((RowT.len RowT.zero).trans (RowT.len RowT.zero).symm)) rfl ?_
 refine sg' ?_
 refine nx J6 ?_
 clear J6
 refine TC.ret ?_
 refine TE.passRet ?_
 clear J2
 refine TE.retCT (H' := []) rfl rfl rfl Tryz.underlying48 rfl sz48 (Rd.own 0 rfl rfl) (RowT.len RowT.zero) (fun _ s => sep_keep [] rfl s) ?_
 exact ⟨by simp [rowGive, *], rfl⟩
theorem rowOwn_does (x : RowT) (who : Int) :
    Does Tryz.prog 52 #[(.agg (ints x.flat).toArray), (.int .i64 (who))] (fun _ => True) [] (Ret (fun r' H => ∃ u, r' = u ∧ H = [own u (rowOwn x who).length (ints (rowOwn x who)) 3 1])) := by
 refine Does.body (vs := [(.agg (ints x.flat).toArray), (.int .i64 (who))]) (n := 27) Tryz.func52 rfl rfl rfl (fun w0 F hF => ?_)
 refine sr fun _ J1 => ?_
 refine TL.box (Want.plain rfl) rfl rfl rfl rfl (fun b2 => ?_)
 change TL _ _ _ _ _ _ _ _ _ [blkA b2 (ints x.flat) 48]
 refine sg' ?_
 refine nx J1 ?_
 refine sr fun _ J2 => ?_
 refine sg' ?_
 refine nx J2 ?_
 refine TC.seq fun _ J3 => ?_
 refine sr fun _ J4 => ?_
 refine tp (PV.fieldAddr (r := 29) rfl Tryz.underlying48 rfl sz42 rfl rfl) ?_
 refine tp (PV.loadN (vs := ints x.heir.toList) rfl Tryz.underlying42 rfl sz42 rfl (Rd.own 0 rfl rfl) (vi5_len x.heir) (RowT.sub_heir x 0 rfl (by decide) (whole (vi5_len x.heir)))) ?_
 refine mv ?_
 refine nx J4 ?_
 refine TC.block ?_
 refine TC.loop (α := (Nat) × (Value)) (fun ⟨k, u⟩ => k ≤ 5 ∧ u.oneCell' = true) (fun ⟨k, u⟩ => [(1, (.int .i64 (who))), (4, (.slice none 0 0)), (5, u), (9, (.agg (ints x.heir.toList).toArray)), (10, (.int .i64 (((k : Nat) : Int))))]) (fun ⟨k, u⟩ => [own u ((ownTo x who k).length) (ints (ownTo x who k)) 3 1]) (fun ⟨k, u⟩ => 5 - k) (0, (.slice none 0 0))
     ⟨Nat.zero_le _, rfl⟩ (Sub.r (Sub.r (Sub.r (Sub.r (Sub.cons rfl (by congr 1) (Sub.nil _))))))
     (fun _ s => sep_ownNil 3 1 (sep_keep [] rfl s)) (fun ⟨k, u⟩ hinv => ?_)
 obtain ⟨hk, hu⟩ := hinv
 have hol := ownTo_len x who k
 refine sr fun _ J5 => ?_
 refine tp (PV.lss rfl rfl rfl) ?_
 refine TL.dec (fun h11 => ?_) (fun h11 => ?_)
 refine nx J5 ?_
 refine TC.seq fun _ J6 => ?_
 refine TC.yes rfl ?_
 refine TC.skip ?_
 refine TE.next J6 ?_
 refine TC.seq fun _ J7 => ?_
 refine TC.block ?_
 refine sr fun _ J8 => ?_
 refine mv ?_
 refine tp (PV.index1 (cs := ints x.heir.toList) (v := Value.int .i64 (x.heir[k]'(by omega))) (r := k) rfl Tryz.underlying42 Tryz.underlying3 rfl sz3 rfl rfl (by omega) (by omega) (by omega) (vi_at x.heir (by omega))) ?_
 refine sg' ?_
 refine sg' ?_
 refine nx J8 ?_
 refine sr fun _ J9 => ?_
 refine mv ?_
 refine mv ?_
 refine tp (PV.eql rfl rfl rfl) ?_
 refine TL.dec (fun h16 => ?_) (fun h16 => ?_)
 refine mv ?_
 refine TL.unmet (b := true) rfl rfl rfl rfl (lb rfl) ?_
 refine TL.unmet (b := true) rfl rfl rfl rfl (lb rfl) ?_
 refine tp (PV.pick rfl rfl rfl) ?_
 refine nx J9 ?_
 refine TC.yes rfl ?_
 refine TC.region ?_
 refine mv ?_
 refine mv ?_
 refine TL.buildSlice (cells := #[(.int .i64 (((k : Nat) : Int)))]) (Want.plain rfl) rfl rfl rfl Tryz.underlying74 in3 rfl rfl rfl (by as_aux_lemma => kernel_rfl) (fun b23 => ?_)
 change TL _ _ _ _ _ _ _ _ _ [blkA b23 [(.int .i64 (((k : Nat) : Int)))] 3, own u ((ownTo x who k).length) (ints (ownTo x who k)) 3 1]
 refine TL.append (k := 1) (news := [(.int .i64 (((k : Nat) : Int)))]) (nn' := (ownTo x who k).length + 1) (xs' := ints (ownTo x who k) ++ [(.int .i64 (((k : Nat) : Int)))]) (Want.plain rfl) rfl rfl rfl Tryz.underlying74 in3 rfl rfl rfl rfl rfl rfl (fun _ _ => Src.rd rfl (Rd.own 0 rfl rfl) rfl) (by simp [Value.oneCell']) (by simp only [maxLen]; omega) (by omega) (by simp) (by simp) (fun v24 ov24 => ?_)
 change TL _ _ _ _ _ _ _ _ _ [blkA b23 [(.int .i64 (((k : Nat) : Int)))] 3, own v24 ((ownTo x who k).length + 1) (ints (ownTo x who k) ++ [(.int .i64 (((k : Nat) : Int)))]) 3 1]
 refine sg' ?_
 refine TL.nil ?_
 refine TE.blockEnd ?_
 refine TE.next J7 ?_
 refine TC.region ?_
 refine tp (PV.add rfl rfl rfl (wrap_i64 (by omega) (by omega))) ?_
 refine mv ?_
 refine TL.nil ?_
 exact TE.round ((k + 1, v24) : (Nat) × (Value)) ⟨by omega, ov24⟩ (by show 5 - (k + 1) < 5 - k; omega)
   (Sub.r (Sub.r (Sub.r (Sub.r (Sub.cons rfl (by simp) (Sub.nil _))))))
   (fun _ s => by
      show sep [own v24 (ownTo x who (k + 1)).length (ints (ownTo x who (k + 1))) 3 1] _
      rw [show ownTo x who (k + 1) = ownTo x who k ++ [((k : Nat) : Int)] by rw [ownTo_succ, if_pos (by rw [ownAt_eq x who (by omega)]; simp; omega)], List.length_append, ints_append]
      exact sep_keep [1] rfl s)
 refine mv ?_
 refine tq (PV.move rfl rfl) ?_
 refine tq (PV.gtr rfl rfl rfl) ?_
 refine TL.dec (fun h19 => ?_) (fun h19 => ?_)
 refine tp (PV.pick rfl rfl rfl) ?_
 refine nx J9 ?_
 refine TC.yes rfl ?_
 refine TC.region ?_
 refine mv ?_
 refine mv ?_
 refine TL.buildSlice (cells := #[(.int .i64 (((k : Nat) : Int)))]) (Want.plain rfl) rfl rfl rfl Tryz.underlying74 in3 rfl rfl rfl (by as_aux_lemma => kernel_rfl) (fun b23 => ?_)
 change TL _ _ _ _ _ _ _ _ _ [blkA b23 [(.int .i64 (((k : Nat) : Int)))] 3, own u ((ownTo x who k).length) (ints (ownTo x who k)) 3 1]
 refine TL.append (k := 1) (news := [(.int .i64 (((k : Nat) : Int)))]) (nn' := (ownTo x who k).length + 1) (xs' := ints (ownTo x who k) ++ [(.int .i64 (((k : Nat) : Int)))]) (Want.plain rfl) rfl rfl rfl Tryz.underlying74 in3 rfl rfl rfl rfl rfl rfl (fun _ _ => Src.rd rfl (Rd.own 0 rfl rfl) rfl) (by simp [Value.oneCell']) (by simp only [maxLen]; omega) (by omega) (by simp) (by simp) (fun v24 ov24 => ?_)
 change TL _ _ _ _ _ _ _ _ _ [blkA b23 [(.int .i64 (((k : Nat) : Int)))] 3, own v24 ((ownTo x who k).length + 1) (ints (ownTo x who k) ++ [(.int .i64 (((k : Nat) : Int)))]) 3 1]
 refine sg' ?_
 refine TL.nil ?_
 refine TE.blockEnd ?_
 refine TE.next J7 ?_
 refine TC.region ?_
 refine tp (PV.add rfl rfl rfl (wrap_i64 (by omega) (by omega))) ?_
 refine mv ?_
 refine TL.nil ?_
 exact TE.round ((k + 1, v24) : (Nat) × (Value)) ⟨by omega, ov24⟩ (by show 5 - (k + 1) < 5 - k; omega)
   (Sub.r (Sub.r (Sub.r (Sub.r (Sub.cons rfl (by simp) (Sub.nil _))))))
   (fun _ s => by
      show sep [own v24 (ownTo x who (k + 1)).length (ints (ownTo x who (k + 1))) 3 1] _
      rw [show ownTo x who (k + 1) = ownTo x who k ++ [((k : Nat) : Int)] by rw [ownTo_succ, if_pos (by rw [ownAt_eq x who (by omega)]; simp; omega)], List.length_append, ints_append]
      exact sep_keep [1] rfl s)
 refine tp (PV.pick rfl rfl rfl) ?_
 refine nx J9 ?_
 refine TC.no rfl ?_
 refine TC.skip ?_
 refine TE.blockEnd ?_
 refine TE.next J7 ?_
 refine TC.region ?_
 refine tp (PV.add rfl rfl rfl (wrap_i64 (by omega) (by omega))) ?_
 refine mv ?_
 refine TL.nil ?_
 exact TE.round ((k + 1, u) : (Nat) × (Value)) ⟨by omega, hu⟩ (by show 5 - (k + 1) < 5 - k; omega)
   (Sub.r (Sub.r (Sub.r (Sub.r (Sub.cons rfl (by simp) (Sub.nil _))))))
   (fun _ s => by
      show sep [own u (ownTo x who (k + 1)).length (ints (ownTo x who (k + 1))) 3 1] _
      rw [show ownTo x who (k + 1) = ownTo x who k by rw [ownTo_succ, if_neg (by rw [ownAt_eq x who (by omega)]; simp; omega), List.append_nil]]
      exact sep_keep [0] rfl s)
 refine nx J5 ?_
 refine TC.seq fun _ J10 => ?_
 refine TC.no rfl ?_
 refine TC.exit ?_
 refine TE.pass ?_
 refine TE.pass ?_
 refine TE.hit ?_
 refine TE.next J3 ?_
 refine sr fun _ J11 => ?_
 refine mv ?_
 refine sg' ?_
 refine nx J11 ?_
 refine TC.ret ?_
 refine TE.weak (Sub.refl _) (fun _ s => sep_keep [0] rfl s) ?_
 refine TE.ret1 rfl rfl ?_
 obtain rfl : k = 5 := by omega
 exact ⟨u, rfl, rfl⟩
theorem rowCell_does (x : RowT) (who of' key : Int) :
    Does Tryz.prog 87 #[(.agg (ints x.flat).toArray), (.int .i64 (who)), (.int .i64 (of')), (.int .i64 (key))] (fun _ => True) [] (Ret (fun r' H => r' = .tuple #[.agg (ints (rowCell x who of' key).1.flat).toArray, .int .i64 (rowCell x who of' key).2] ∧ H = [])) := by
 refine Does.body (vs := [(.agg (ints x.flat).toArray), (.int .i64 (who)), (.int .i64 (of')), (.int .i64 (key))]) (n := 53) Tryz.func87 rfl rfl rfl (fun w0 F hF => ?_)
 refine sr fun _ J1 => ?_
 refine TL.box (Want.plain rfl) rfl rfl rfl rfl (fun b4 => ?_)
 change TL _ _ _ _ _ _ _ _ _ [blkA b4 (ints x.flat) 48]
 refine TL.alloc (Want.plain rfl) rfl rfl rfl z44 (fun b8 => ?_)
 change TL _ _ _ _ _ _ _ _ _ [blkA b8 (ints CellT.zero.flat) 44, blkA b4 (ints x.flat) 48]
 refine sg' ?_
 refine nx J1 ?_
 clear J1
 refine TC.seq fun _ J2 => ?_
 refine sr fun _ J3 => ?_
 refine mv ?_
 refine TL.callR (A := []) (Want.plain rfl) rfl rfl rfl nm110 rfl (rowMachine_does who) (fun _ s => s) (fun _ _ _ => trivial) (fun vR HR hR => ?_)
 obtain ⟨rfl, rfl⟩ := hR
 change TL _ _ _ _ _ _ _ _ _ [blkA b8 (ints CellT.zero.flat) 44, blkA b4 (ints x.flat) 48]
 refine TL.decB (fun h11 => ?_) (fun h11 => ?_)
 refine tp (PV.not (r := false) rfl rfl rfl) ?_
 refine mv ?_
 refine tq (PV.move rfl rfl) ?_
 refine TL.callR (A := []) (Want.met rfl rfl rfl) rfl rfl rfl nm110 rfl (rowMachine_does of') (fun _ s => s) (fun _ _ _ => trivial) (fun vR HR hR => ?_)
 obtain ⟨rfl, rfl⟩ := hR
 change TL _ _ _ _ _ _ _ _ _ [blkA b8 (ints CellT.zero.flat) 44, blkA b4 (ints x.flat) 48]
 refine TL.decB (fun h15 => ?_) (fun h15 => ?_)
 refine tq (PV.not (r := false) rfl rfl rfl) ?_
 refine tp (PV.pick rfl rfl rfl) ?_
 refine mv ?_
 refine tq (PV.move rfl rfl) ?_
 refine tq (PV.lss rfl rfl rfl) ?_
 refine TL.dec (fun h20 => ?_) (fun h20 => ?_)
 have hkb : keyB key = false := decide_eq_false (by omega)
 refine tp (PV.pick rfl rfl rfl) ?_
 refine mv ?_
 refine TL.unmet (b := true) rfl rfl rfl rfl (lb rfl) ?_
 refine TL.unmet (b := true) rfl rfl rfl rfl (lb rfl) ?_
 refine tp (PV.pick rfl rfl rfl) ?_
 refine nx J3 ?_
 clear J3
 refine TC.yes rfl ?_
 refine sr fun _ J4 => ?_
 refine tp (PV.build (cells := (ints CellT.zero.flat).toArray) rfl rfl (by as_aux_lemma => kernel_rfl)) ?_
 refine TL.store (vs := ints CellT.zero.flat) (i := 0) (H' := [blkA b8 (ints CellT.zero.flat) 44, blkA b4 (ints x.flat) 48]) (Want.plain rfl) rfl rfl rfl rfl rfl (by rw [(CellT.len CellT.zero)]; exact sz44) (ints_one _) rfl rfl (by have h0 := (CellT.len CellT.zero); have h1 := (CellT.len CellT.zero); omega) (wwhole ((CellT.len CellT.zero).trans (CellT.len CellT.zero).symm)) rfl ?_
 refine sg' ?_
 refine nx J4 ?_
 clear J4
 refine TC.ret ?_
 refine TE.passRet ?_
 clear J2
 refine TE.retCT (H' := []) rfl rfl rfl Tryz.underlying44 rfl sz44 (Rd.own 0 rfl rfl) (CellT.len CellT.zero) (fun _ s => sep_keep [] rfl s) ?_
 exact ⟨by simp [rowCell, *], rfl⟩
 refine tp (PV.pick rfl rfl rfl) ?_
 refine mv ?_
 refine tq (PV.move rfl rfl) ?_
 refine tq (PV.geq rfl rfl rfl) ?_
 refine TL.dec (fun h24 => ?_) (fun h24 => ?_)
 have hkb : keyB key = false := decide_eq_false (by omega)
 refine tp (PV.pick rfl rfl rfl) ?_
 refine nx J3 ?_
 clear J3
 refine TC.yes rfl ?_
 refine sr fun _ J5 => ?_
 refine tp (PV.build (cells := (ints CellT.zero.flat).toArray) rfl rfl (by as_aux_lemma => kernel_rfl)) ?_
 refine TL.store (vs := ints CellT.zero.flat) (i := 0) (H' := [blkA b8 (ints CellT.zero.flat) 44, blkA b4 (ints x.flat) 48]) (Want.plain rfl) rfl rfl rfl rfl rfl (by rw [(CellT.len CellT.zero)]; exact sz44) (ints_one _) rfl rfl (by have h0 := (CellT.len CellT.zero); have h1 := (CellT.len CellT.zero); omega) (wwhole ((CellT.len CellT.zero).trans (CellT.len CellT.zero).symm)) rfl ?_
 refine sg' ?_
 refine nx J5 ?_
 clear J5
 refine TC.ret ?_
 refine TE.passRet ?_
 clear J2
 refine TE.retCT (H' := []) rfl rfl rfl Tryz.underlying44 rfl sz44 (Rd.own 0 rfl rfl) (CellT.len CellT.zero) (fun _ s => sep_keep [] rfl s) ?_
 exact ⟨by simp [rowCell, *], rfl⟩
 have hw : machB who = true := by simpa using h11
 have ho : machB of' = true := by simpa using h15
 have hw2 : 0 ≤ who ∧ who < 5 := of_decide_eq_true hw
 have ho2 : 0 ≤ of' ∧ of' < 5 := of_decide_eq_true ho
 have hkb : keyB key = true := decide_eq_true ⟨by omega, by omega⟩
 have e1 : heirAt x of' = x.heir[of'.toNat]'(by omega) := by rw [heirAt, dif_pos ho]
 have e2 : leftAt x of' key = (x.left[of'.toNat]'(by omega))[key.toNat]'(by omega) := by rw [leftAt, dif_pos ⟨ho, hkb⟩]
 have e3 : cellAt x key = x.cells[key.toNat]'(by omega) := by rw [cellAt, dif_pos hkb]
 refine tp (PV.pick rfl rfl rfl) ?_
 refine nx J3 ?_
 clear J3
 refine TC.no rfl ?_
 refine TC.skip ?_
 refine TE.next J2 ?_
 clear J2
 refine TC.seq fun _ J6 => ?_
 refine sr fun _ J7 => ?_
 refine mv ?_
 refine mv ?_
 refine tp (PV.eql rfl rfl rfl) ?_
 refine TL.dec (fun h29 => ?_) (fun h29 => ?_)
 refine nx J7 ?_
 clear J7
 refine TC.yes rfl ?_
 refine TC.seq fun _ J8 => ?_
 refine TC.draw (fun w => Frm F w ∧ w.heap[b4]? = some (.cells (ints x.flat).toArray 48 (0, 0)) ∧ True) mixed rfl (fun _ s => ⟨Frm.of s, s.block 1 (lb rfl) rfl, trivial⟩) ?_
 refine ta 0 rfl (PV.move rfl rfl) ?_
 refine ta 1 rfl (PV.fieldAddr (r := 1) rfl Tryz.underlying48 rfl sz45 rfl rfl) ?_
 refine ta 2 rfl (PV.indexArr (r := 1 + key.toNat * 7) rfl Tryz.underlying45 sz44 rfl rfl (by omega) (by omega) (by omega)) ?_
 refine ta 3 rfl (PV.loadN (vs := ints (x.cells[key.toNat]'(by omega)).flat) rfl Tryz.underlying44 rfl sz44 rfl (fun _ h => h.2.1) (CellT.len (x.cells[key.toNat]'(by omega))) (RowT.sub_cells x (key.toNat * 7) (by omega) (by omega) (vs_sub CellT.flat_length x.cells (i := key.toNat) 0 (by omega) (by omega) (by decide) (whole (CellT.len (x.cells[key.toNat]'(by omega))))))) ?_
 refine ta 4 rfl (PV.fieldAddr (r := 0) rfl Tryz.underlying48 rfl sz3 rfl rfl) ?_
 refine ta 5 rfl (PV.load1 (v := (.int .i64 (x.version))) rfl Tryz.underlying3 rfl rfl (fun _ h => h.2.1) (RowT.at_version x rfl)) ?_
 refine TD.all [6] (by kernel_rfl) rfl ?_
 refine AllT.cons rfl ?_ ?_
 refine TL.store (vs := ints (x.cells[key.toNat]'(by omega)).flat) (i := 0) (H' := [blkA b8 (ints (x.cells[key.toNat]'(by omega)).flat) 44, blkA b4 (ints x.flat) 48]) (Want.plain rfl) rfl rfl rfl rfl rfl (by rw [(CellT.len (x.cells[key.toNat]'(by omega)))]; exact sz44) (ints_one _) rfl rfl (by have h0 := (CellT.len CellT.zero); have h1 := (CellT.len (x.cells[key.toNat]'(by omega))); omega) (wwhole ((CellT.len CellT.zero).trans (CellT.len (x.cells[key.toNat]'(by omega))).symm)) rfl ?_
 refine TL.nil ?_
 refine TE.draw (fun _ s => ⟨Frm.of s, s.block 1 (lb rfl) rfl, trivial⟩) ?_
 refine ta 7 rfl (PV.assign rfl rfl) ?_
 refine TD.done (by kernel_rfl) ?_
 refine TE.next J8 ?_
 clear J8
 refine TC.ret ?_
 refine TE.passRet ?_
 clear J6
 refine TE.retCT (H' := []) rfl rfl rfl Tryz.underlying44 rfl sz44 (Rd.own 0 rfl rfl) (CellT.len (x.cells[key.toNat]'(by omega))) (fun _ s => sep_keep [] rfl s) ?_
 exact ⟨by simp [rowCell, *], rfl⟩
 exact AllT.nil
 refine nx J7 ?_
 clear J7
 refine TC.no rfl ?_
 refine TC.skip ?_
 refine TE.next J6 ?_
 clear J6
 refine TC.seq fun _ J9 => ?_
 refine sr fun _ J10 => ?_
 refine mv ?_
 refine tp (PV.fieldAddr (r := 29) rfl Tryz.underlying48 rfl sz42 rfl rfl) ?_
 refine tp (PV.indexArr (r := 29 + (of').toNat) rfl Tryz.underlying42 sz3 rfl rfl (by omega) (by omega) (by omega)) ?_
 refine tp (PV.load1 (v := (.int .i64 ((x.heir[(of').toNat]'(by omega))))) rfl Tryz.underlying3 rfl rfl (Rd.own 1 rfl rfl) (RowT.pt_heir x ((of').toNat) (by omega) (by omega) (vi_at x.heir (by omega)))) ?_
 refine tp (PV.gtr rfl rfl rfl) ?_
 refine TL.dec (fun h40 => ?_) (fun h40 => ?_)
 refine nx J10 ?_
 clear J10
 refine TC.yes rfl ?_
 refine TC.seq fun _ J11 => ?_
 refine TC.draw (fun w => Frm F w ∧ w.heap[b4]? = some (.cells (ints x.flat).toArray 48 (0, 0)) ∧ True) mixed rfl (fun _ s => ⟨Frm.of s, s.block 1 (lb rfl) rfl, trivial⟩) ?_
 refine ta 0 rfl (PV.move rfl rfl) ?_
 refine ta 1 rfl (PV.move rfl rfl) ?_
 refine ta 2 rfl (PV.fieldAddr (r := 34) rfl Tryz.underlying48 rfl sz46 rfl rfl) ?_
 refine ta 3 rfl (PV.indexArr (r := 34 + ((of').toNat) * 28) rfl Tryz.underlying46 sz45 rfl rfl (by omega) (by omega) (by omega)) ?_
 refine ta 4 rfl (PV.indexArr (r := 34 + ((of').toNat) * 28 + key.toNat * 7) rfl Tryz.underlying45 sz44 rfl rfl (by omega) (by omega) (by omega)) ?_
 refine ta 5 rfl (PV.loadN (vs := ints ((x.left[(of').toNat]'(by omega))[key.toNat]'(by omega)).flat) rfl Tryz.underlying44 rfl sz44 rfl (fun _ h => h.2.1) (CellT.len ((x.left[(of').toNat]'(by omega))[key.toNat]'(by omega))) (RowT.sub_left x (((of').toNat) * 28 + key.toNat * 7) (by omega) (by omega) (vs_sub vl_len x.left (i := (of').toNat) (key.toNat * 7) (by omega) (by omega) (by omega) (vs_sub CellT.flat_length (x.left[(of').toNat]'(by omega)) (i := key.toNat) 0 (by omega) (by omega) (by decide) (whole (CellT.len ((x.left[(of').toNat]'(by omega))[key.toNat]'(by omega)))))))) ?_
 refine ta 6 rfl (PV.move rfl rfl) ?_
 refine ta 7 rfl (PV.fieldAddr (r := 29) rfl Tryz.underlying48 rfl sz42 rfl rfl) ?_
 refine ta 8 rfl (PV.indexArr (r := 29 + (of').toNat) rfl Tryz.underlying42 sz3 rfl rfl (by omega) (by omega) (by omega)) ?_
 refine ta 9 rfl (PV.load1 (v := (.int .i64 ((x.heir[(of').toNat]'(by omega))))) rfl Tryz.underlying3 rfl rfl (fun _ h => h.2.1) (RowT.pt_heir x ((of').toNat) (by omega) (by omega) (vi_at x.heir (by omega)))) ?_
 refine ta 10 rfl (PV.sub (r := (w64 ((x.heir[(of').toNat]'(by omega)) - 1))) rfl rfl rfl rfl) ?_
 refine TD.all [11] (by kernel_rfl) rfl ?_
 refine AllT.cons rfl ?_ ?_
 refine TL.store (vs := ints ((x.left[(of').toNat]'(by omega))[key.toNat]'(by omega)).flat) (i := 0) (H' := [blkA b8 (ints ((x.left[(of').toNat]'(by omega))[key.toNat]'(by omega)).flat) 44, blkA b4 (ints x.flat) 48]) (Want.plain rfl) rfl rfl rfl rfl rfl (by rw [(CellT.len ((x.left[(of').toNat]'(by omega))[key.toNat]'(by omega)))]; exact sz44) (ints_one _) rfl rfl (by have h0 := (CellT.len CellT.zero); have h1 := (CellT.len ((x.left[(of').toNat]'(by omega))[key.toNat]'(by omega))); omega) (wwhole ((CellT.len CellT.zero).trans (CellT.len ((x.left[(of').toNat]'(by omega))[key.toNat]'(by omega))).symm)) rfl ?_
 refine TL.nil ?_
 refine TE.draw (fun _ s => ⟨Frm.of s, s.block 1 (lb rfl) rfl, trivial⟩) ?_
 refine ta 12 rfl (PV.assign rfl rfl) ?_
 refine TD.done (by kernel_rfl) ?_
 refine TE.next J11 ?_
 clear J11
 refine TC.ret ?_
 refine TE.passRet ?_
 clear J9
 refine TE.retCT (H' := []) rfl rfl rfl Tryz.underlying44 rfl sz44 (Rd.own 0 rfl rfl) (CellT.len ((x.left[(of').toNat]'(by omega))[key.toNat]'(by omega))) (fun _ s => sep_keep [] rfl s) ?_
 exact ⟨by simp [rowCell, *], rfl⟩
 exact AllT.nil
 refine nx J10 ?_
 clear J10
 refine TC.no rfl ?_
 refine TC.skip ?_
 refine TE.next J9 ?_
 clear J9
 refine sr fun _ J12 => ?_
 refine tp (PV.build (cells := (ints CellT.zero.flat).toArray) rfl rfl (by as_aux_lemma => kernel_rfl)) ?_
 refine TL.store (vs := ints CellT.zero.flat) (i := 0) (H' := [blkA b8 (ints CellT.zero.flat) 44, blkA b4 (ints x.flat) 48]) (Want.plain rfl) rfl rfl rfl rfl rfl (by rw [(CellT.len CellT.zero)]; exact sz44) (ints_one _) rfl rfl (by have h0 := (CellT.len CellT.zero); have h1 := (CellT.len CellT.zero); omega) (wwhole ((CellT.len CellT.zero).trans (CellT.len CellT.zero).symm)) rfl ?_
 refine sg' ?_
 refine nx J12 ?_
 clear J12
 refine TC.ret ?_
 refine TE.retCT (H' := []) rfl rfl rfl Tryz.underlying44 rfl sz44 (Rd.own 0 rfl rfl) (CellT.len CellT.zero) (fun _ s => sep_keep [] rfl s) ?_
 exact ⟨by simp [rowCell, *], rfl⟩
 refine tq (PV.not (r := true) rfl rfl rfl) ?_
 refine tp (PV.pick rfl rfl rfl) ?_
 refine mv ?_
 refine TL.unmet (b := true) rfl rfl rfl rfl (lb rfl) ?_
 refine TL.unmet (b := true) rfl rfl rfl rfl (lb rfl) ?_
 refine tp (PV.pick rfl rfl rfl) ?_
 refine mv ?_
 refine TL.unmet (b := true) rfl rfl rfl rfl (lb rfl) ?_
 refine TL.unmet (b := true) rfl rfl rfl rfl (lb rfl) ?_
 refine tp (PV.pick rfl rfl rfl) ?_
 refine nx J3 ?_
 clear J3
 refine TC.yes rfl ?_
 refine sr fun _ J13 => ?_
 refine tp (PV.build (cells := (ints CellT.zero.flat).toArray) rfl rfl (by as_aux_lemma => kernel_rfl)) ?_
 refine TL.store (vs := ints CellT.zero.flat) (i := 0) (H' := [blkA b8 (ints CellT.zero.flat) 44, blkA b4 (ints x.flat) 48]) (Want.plain rfl) rfl rfl rfl rfl rfl (by rw [(CellT.len CellT.zero)]; exact sz44) (ints_one _) rfl rfl (by have h0 := (CellT.len CellT.zero); have h1 := (CellT.len CellT.zero); omega) (wwhole ((CellT.len CellT.zero).trans (CellT.len CellT.zero).symm)) rfl ?_
 refine sg' ?_
 refine nx J13 ?_
 clear J13
 refine TC.ret ?_
 refine TE.passRet ?_
 clear J2
 refine TE.retCT (H' := []) rfl rfl rfl Tryz.underlying44 rfl sz44 (Rd.own 0 rfl rfl) (CellT.len CellT.zero) (fun _ s => sep_keep [] rfl s) ?_
 exact ⟨by simp [rowCell, *], rfl⟩
 refine tp (PV.not (r := true) rfl rfl rfl) ?_
 refine mv ?_
 refine TL.unmet (b := true) rfl rfl rfl rfl (lb rfl) ?_
 refine TL.unmet (b := true) rfl rfl rfl rfl (lb rfl) ?_
 refine TL.unmet (b := true) rfl rfl rfl rfl (lb rfl) ?_
 refine tp (PV.pick rfl rfl rfl) ?_
 refine mv ?_
 refine TL.unmet (b := true) rfl rfl rfl rfl (lb rfl) ?_
 refine TL.unmet (b := true) rfl rfl rfl rfl (lb rfl) ?_
 refine tp (PV.pick rfl rfl rfl) ?_
 refine mv ?_
 refine TL.unmet (b := true) rfl rfl rfl rfl (lb rfl) ?_
 refine TL.unmet (b := true) rfl rfl rfl rfl (lb rfl) ?_
 refine tp (PV.pick rfl rfl rfl) ?_
 refine nx J3 ?_
 clear J3
 refine TC.yes rfl ?_
 refine sr fun _ J14 => ?_
 refine tp (PV.build (cells := (ints CellT.zero.flat).toArray) rfl rfl (by as_aux_lemma => kernel_rfl)) ?_
 refine TL.store (vs := ints CellT.zero.flat) (i := 0) (H' := [blkA b8 (ints CellT.zero.flat) 44, blkA b4 (ints x.flat) 48]) (Want.plain rfl) rfl rfl rfl rfl rfl (by rw [(CellT.len CellT.zero)]; exact sz44) (ints_one _) rfl rfl (by have h0 := (CellT.len CellT.zero); have h1 := (CellT.len CellT.zero); omega) (wwhole ((CellT.len CellT.zero).trans (CellT.len CellT.zero).symm)) rfl ?_
 refine sg' ?_
 refine nx J14 ?_
 clear J14
 refine TC.ret ?_
 refine TE.passRet ?_
 clear J2
 refine TE.retCT (H' := []) rfl rfl rfl Tryz.underlying44 rfl sz44 (Rd.own 0 rfl rfl) (CellT.len CellT.zero) (fun _ s => sep_keep [] rfl s) ?_
 exact ⟨by simp [rowCell, *], rfl⟩
theorem witnesses_does (who : Int) :
    Does Tryz.prog 49 #[(.int .i64 (who))] (fun _ => True) [] (Ret (fun r' H => ∃ u, r' = u ∧ H = [own u (witL who).length (ints (witL who)) 3 1])) := by
 refine Does.body (vs := [(.int .i64 (who))]) (n := 20) Tryz.func49 rfl rfl rfl (fun w0 F hF => ?_)
 refine sr fun _ J1 => ?_
 refine sg' ?_
 refine nx J1 ?_
 refine TC.seq fun _ J2 => ?_
 refine sr fun _ J3 => ?_
 refine mv ?_
 refine TL.callR (A := []) (Want.plain rfl) rfl rfl rfl nm53 rfl (vmachine_does who) (fun _ s => s) (fun _ _ _ => trivial) (fun vR HR hR => ?_)
 obtain ⟨rfl, rfl⟩ := hR
 change TL _ _ _ _ _ _ _ _ _ []
 refine TL.decB (fun h6 => ?_) (fun h6 => ?_)
 have hm : 0 ≤ who ∧ who < 5 := of_decide_eq_true h6
 refine tp (PV.not (r := false) rfl rfl rfl) ?_
 refine nx J3 ?_
 refine TC.no rfl ?_
 refine TC.skip ?_
 refine TE.next J2 ?_
 refine sr fun _ J4 => ?_
 refine TL.ownNilI 3 1 (fun on => ?_)
 clear on
 change TL _ _ _ _ _ _ _ _ _ [own (.slice none 0 0) (0) ([]) 3 1]
 refine sg' ?_
 refine nx J4 ?_
 refine TC.seq fun _ J5 => ?_
 refine sr fun _ J6 => ?_
 refine sg' ?_
 refine nx J6 ?_
 refine TC.block ?_
 refine TC.unroll 3 ?_
 refine TC.seq fun _ J7 => ?_
 refine sr fun _ J8 => ?_
 refine mv ?_
 refine tp (PV.leq rfl rfl rfl) ?_
 refine nx J8 ?_
 refine TC.yes rfl ?_
 refine TC.skip ?_
 refine TE.next J7 ?_
 refine TC.seq fun _ J9 => ?_
 refine TC.block ?_
 refine TC.region ?_
 refine mv ?_
 refine mv ?_
 refine mv ?_
 refine tp (PV.add (r := (who + 1)) rfl rfl rfl (wrap_i64 (by omega) (by omega))) ?_
 refine tp (PV.rem (r := ((who + 1) % 5)) rfl rfl rfl (by omega) (rem_pos (by omega))) ?_
 refine TL.buildSlice (cells := #[(.int .i64 (((who + 1) % 5)))]) (Want.plain rfl) rfl rfl rfl Tryz.underlying74 in3 rfl rfl rfl (by as_aux_lemma => kernel_rfl) (fun b17 => ?_)
 change TL _ _ _ _ _ _ _ _ _ [blkA b17 [(.int .i64 (((who + 1) % 5)))] 3, own (.slice none 0 0) (0) ([]) 3 1]
 refine TL.append (k := 1) (news := [(.int .i64 (((who + 1) % 5)))]) (nn' := 1) (xs' := [(.int .i64 (((who + 1) % 5)))]) (Want.plain rfl) rfl rfl rfl Tryz.underlying74 in3 rfl rfl rfl rfl rfl rfl (fun _ _ => Src.rd rfl (Rd.own 0 rfl rfl) rfl) (by simp [Value.oneCell']) (by simp only [maxLen]; omega) (by omega) (by simp) (by simp) (fun v18 ov18 => ?_)
 change TL _ _ _ _ _ _ _ _ _ [blkA b17 [(.int .i64 (((who + 1) % 5)))] 3, own v18 (1) ([(.int .i64 (((who + 1) % 5)))]) 3 1]
 refine sg' ?_
 refine TL.nil ?_
 refine TE.blockEnd ?_
 refine TE.next J9 ?_
 refine TC.region ?_
 refine mv ?_
 refine tp (PV.add (r := 2) rfl rfl rfl (by decide)) ?_
 refine sg' ?_
 refine TL.nil ?_
 refine TE.again ?_
 refine TC.seq fun _ J10 => ?_
 refine sr fun _ J11 => ?_
 refine mv ?_
 refine tp (PV.leq rfl rfl rfl) ?_
 refine nx J11 ?_
 refine TC.yes rfl ?_
 refine TC.skip ?_
 refine TE.next J10 ?_
 refine TC.seq fun _ J12 => ?_
 refine TC.block ?_
 refine TC.region ?_
 refine mv ?_
 refine mv ?_
 refine mv ?_
 refine tp (PV.add (r := (who + 2)) rfl rfl rfl (wrap_i64 (by omega) (by omega))) ?_
 refine tp (PV.rem (r := ((who + 2) % 5)) rfl rfl rfl (by omega) (rem_pos (by omega))) ?_
 refine TL.mono (H' := [own v18 (1) ([(.int .i64 (((who + 1) % 5)))]) 3 1]) (fun _ s => sep_keep [1] rfl s) ?_
 refine TL.buildSlice (cells := #[(.int .i64 (((who + 2) % 5)))]) (Want.plain rfl) rfl rfl rfl Tryz.underlying74 in3 rfl rfl rfl (by as_aux_lemma => kernel_rfl) (fun b17 => ?_)
 change TL _ _ _ _ _ _ _ _ _ [blkA b17 [(.int .i64 (((who + 2) % 5)))] 3, own v18 (1) ([(.int .i64 (((who + 1) % 5)))]) 3 1]
 refine TL.append (k := 1) (news := [(.int .i64 (((who + 2) % 5)))]) (nn' := 1 + 1) (xs' := [(.int .i64 (((who + 1) % 5)))] ++ [(.int .i64 (((who + 2) % 5)))]) (Want.plain rfl) rfl rfl rfl Tryz.underlying74 in3 rfl rfl rfl rfl rfl rfl (fun _ _ => Src.rd rfl (Rd.own 0 rfl rfl) rfl) (by simp [Value.oneCell']) (by simp only [maxLen]; omega) (by omega) (by simp) (by simp) (fun v18 ov18 => ?_)
 change TL _ _ _ _ _ _ _ _ _ [blkA b17 [(.int .i64 (((who + 2) % 5)))] 3, own v18 (1 + 1) ([(.int .i64 (((who + 1) % 5)))] ++ [(.int .i64 (((who + 2) % 5)))]) 3 1]
 refine sg' ?_
 refine TL.nil ?_
 refine TE.blockEnd ?_
 refine TE.next J12 ?_
 refine TC.region ?_
 refine mv ?_
 refine tp (PV.add (r := 3) rfl rfl rfl (by decide)) ?_
 refine sg' ?_
 refine TL.nil ?_
 refine TE.again ?_
 refine TC.seq fun _ J13 => ?_
 refine sr fun _ J14 => ?_
 refine mv ?_
 refine tp (PV.leq rfl rfl rfl) ?_
 refine nx J14 ?_
 refine TC.no rfl ?_
 refine TC.exit ?_
 refine TE.pass ?_
 refine TE.pass ?_
 refine TE.hit ?_
 refine TE.next J5 ?_
 refine sr fun _ J15 => ?_
 refine mv ?_
 refine sg' ?_
 refine nx J15 ?_
 refine TC.ret ?_
 refine TE.weak (Sub.refl _) (fun _ s => sep_keep [1] rfl s) ?_
 refine TE.ret1 rfl rfl ?_
 exact ⟨_, rfl, by rw [witL, if_pos h6]; rfl⟩
 refine tp (PV.not (r := true) rfl rfl rfl) ?_
 refine nx J3 ?_
 refine TC.yes rfl ?_
 refine sr fun _ J16 => ?_
 refine sg' ?_
 refine nx J16 ?_
 refine TC.ret ?_
 refine TE.passRet ?_
 refine TE.weak (H' := [own (.slice none 0 0) 0 [] 3 1]) (Sub.refl _) (fun _ s => sep_ownNil 3 1 s) ?_
 refine TE.ret1 rfl rfl ?_
 exact ⟨_, rfl, by rw [witL, if_neg (by simp [h6])]; rfl⟩
end Go.Proofs.YtfceaphohlbnbaaGreat
end

section
namespace Go.Proofs.YtfceaphohlbnbaaGreat

open Go Leg Codec Api

set_option linter.unusedSimpArgs false
set_option linter.unusedVariables false

set_option maxRecDepth 100000

set_option maxHeartbeats 8000000

theorem bookMerge_does (b off T : Nat) (cs : BookT → List Value) (hA : Arnd cs (fun x => ints x.flat) off) (B : BookT) (who : Int) (x : RowT) (hx : WF x.flat) :
    Does Tryz.prog 20 #[(.pointer (some ⟨b, off, none⟩)), (.int .i64 (who)), (.agg (ints x.flat).toArray)] (fun _ => True) [blkA b (cs B) T] (Ret (fun r' H => r' = .bool (bookMerge B who x).2 ∧ H = [blkA b (cs (bookMerge B who x).1) T])) := by
 refine Does.body (vs := [(.pointer (some ⟨b, off, none⟩)), (.int .i64 (who)), (.agg (ints x.flat).toArray)]) (n := 33) Tryz.func20 rfl rfl rfl (fun w0 F hF => ?_)
 refine sr fun _ J1 => ?_
 refine TL.box (Want.plain rfl) rfl rfl rfl rfl (fun b5 => ?_)
 change TL _ _ _ _ _ _ _ _ _ [blkA b5 (ints x.flat) 48, blkA b (cs B) T]
 refine sg' ?_
 refine nx J1 ?_
 refine TC.seq fun _ J2 => ?_
 refine TC.seq fun _ J3 => ?_
 refine TC.draw (fun w => Frm F w ∧ w.heap[b5]? = some (.cells (ints x.flat).toArray 48 (0, 0)) ∧ w.heap[b]? = some (.cells (cs B).toArray T (0, 0)) ∧ True) mixed rfl (fun _ s => ⟨Frm.of s, s.block 0 (lb rfl) rfl, s.block 1 (lb rfl) rfl, trivial⟩) ?_
 refine ta 0 rfl (PV.move rfl rfl) ?_
 refine TD.all [1] (by kernel_rfl) rfl ?_
 refine AllT.cons rfl ?_ ?_
 refine TL.callR (A := []) (Want.plain rfl) rfl rfl rfl nm50 rfl (bookMachine_does who) (fun _ s => s) (fun _ _ _ => trivial) (fun vR HR hR => ?_)
 obtain ⟨rfl, rfl⟩ := hR
 change TL _ _ _ _ _ _ _ _ _ [blkA b5 (ints x.flat) 48, blkA b (cs B) T]
 refine TL.decB (fun h8 => ?_) (fun h8 => ?_)
 have hm : 0 ≤ who ∧ who < 5 := of_decide_eq_true h8
 have hrow : bookRow B who = B.rows[who.toNat]'(by omega) := by rw [bookRow, dif_pos h8]
 refine TL.nil ?_
 refine TE.draw (fun _ s => ⟨Frm.of s, s.block 0 (lb rfl) rfl, s.block 1 (lb rfl) rfl, trivial⟩) ?_
 refine ta 2 rfl (PV.not (r := false) rfl rfl rfl) ?_
 refine ta 3 rfl (PV.move rfl rfl) ?_
 refine tb 4 rfl (PV.loadN (vs := ints x.flat) rfl Tryz.underlying48 rfl sz48 rfl (fun _ h => h.2.1) (RowT.len x) (whole (RowT.len x))) ?_
 refine TD.all [5] (by kernel_rfl) rfl ?_
 refine AllT.cons rfl ?_ ?_
 refine TL.callR (A := []) (Want.met rfl rfl rfl) rfl rfl rfl nm33 rfl (rowRight_does x hx) (fun _ s => s) (fun _ _ _ => trivial) (fun vR HR hR => ?_)
 obtain ⟨rfl, rfl⟩ := hR
 change TL _ _ _ _ _ _ _ _ _ [blkA b5 (ints x.flat) 48, blkA b (cs B) T]
 refine TL.decB (fun h12 => ?_) (fun h12 => ?_)
 refine TL.nil ?_
 refine TE.draw (fun _ s => ⟨Frm.of s, s.block 0 (lb rfl) rfl, s.block 1 (lb rfl) rfl, trivial⟩) ?_
 refine tb 6 rfl (PV.not (r := false) rfl rfl rfl) ?_
 refine ta 7 rfl (PV.pick rfl rfl rfl) ?_
 refine ta 8 rfl (PV.move rfl rfl) ?_
 refine tb 9 rfl (PV.fieldAddr (r := 0) rfl Tryz.underlying48 rfl sz3 rfl rfl) ?_
 refine tb 10 rfl (PV.load1 (v := (.int .i64 (x.version))) rfl Tryz.underlying3 rfl rfl (fun _ h => h.2.1) (RowT.at_version x rfl)) ?_
 refine tb 11 rfl (PV.move rfl rfl) ?_
 refine tb 12 rfl (PV.move rfl rfl) ?_
 refine tb 13 rfl (PV.nilCheck rfl rfl) ?_
 refine tb 14 rfl (PV.fieldAddr (r := off) rfl Tryz.underlying71 rfl sz69 rfl rfl) ?_
 refine tb 15 rfl (PV.indexArr (r := off + who.toNat * 174) rfl Tryz.underlying69 sz48 rfl rfl (by omega) (by omega) (by omega)) ?_
 refine tb 16 rfl (PV.fieldAddr (r := off + who.toNat * 174) rfl Tryz.underlying48 rfl sz3 rfl rfl) ?_
 refine tb 17 rfl (PV.load1 (v := (.int .i64 ((B.rows[who.toNat]'(by omega)).version))) rfl Tryz.underlying3 rfl rfl (fun _ h => h.2.2.1) (Arnd.at hA (j := who.toNat * 174) (by omega) (by have h0 := (BookT.len B); omega) (BookT.pt_rows B (who.toNat * 174) (by omega) (by omega) (vs_pt RowT.flat_length B.rows (i := who.toNat) 0 (by omega) (by omega) (by decide) (RowT.at_version (B.rows[who.toNat]'(by omega)) rfl))))) ?_
 refine tb 18 rfl (PV.leq rfl rfl rfl) ?_
 refine TD.dec (fun h25 => ?_) (fun h25 => ?_)
 refine ta 19 rfl (PV.pick rfl rfl rfl) ?_
 refine TD.done (by kernel_rfl) ?_
 refine TE.next J3 ?_
 refine TC.yes rfl ?_
 refine sr fun _ J4 => ?_
 refine sg' ?_
 refine nx J4 ?_
 refine TC.ret ?_
 refine TE.passRet ?_
 refine TE.weak (Sub.refl _) (fun _ s => sep_keep [1] rfl s) ?_
 refine TE.ret1 rfl rfl ?_
 have e : bookMerge B who x = (B, false) := by rw [bookMerge, if_neg (fun h => by simp only [Bool.and_eq_true, decide_eq_true_iff] at h; rw [hrow] at h; omega)]
 exact ⟨by rw [e], by rw [e]; rfl⟩
 refine ta 19 rfl (PV.pick rfl rfl rfl) ?_
 refine TD.done (by kernel_rfl) ?_
 refine TE.next J3 ?_
 refine TC.no rfl ?_
 refine TC.skip ?_
 refine TE.next J2 ?_
 refine TC.seq fun _ J5 => ?_
 refine TC.draw (fun w => Frm F w ∧ w.heap[b5]? = some (.cells (ints x.flat).toArray 48 (0, 0)) ∧ True) mixed rfl (fun _ s => ⟨Frm.of s, s.block 0 (lb rfl) rfl, trivial⟩) ?_
 refine ta 0 rfl (PV.move rfl rfl) ?_
 refine ta 1 rfl (PV.move rfl rfl) ?_
 refine ta 2 rfl (PV.loadN (vs := ints x.flat) rfl Tryz.underlying48 rfl sz48 rfl (fun _ h => h.2.1) (RowT.len x) (whole (RowT.len x))) ?_
 refine ta 3 rfl (PV.nilCheck rfl rfl) ?_
 refine ta 4 rfl (PV.fieldAddr (r := off) rfl Tryz.underlying71 rfl sz69 rfl rfl) ?_
 refine ta 5 rfl (PV.indexArr (r := off + who.toNat * 174) rfl Tryz.underlying69 sz48 rfl rfl (by omega) (by omega) (by omega)) ?_
 refine TD.all [6] (by kernel_rfl) rfl ?_
 refine AllT.cons rfl ?_ ?_
 refine TL.store (vs := ints x.flat) (i := 1) (H' := [blkA b5 (ints x.flat) 48, blkA b (cs (BookT.mk (B.rows.set who.toNat x (by omega)))) T]) (Want.plain rfl) rfl rfl rfl rfl rfl (by rw [(RowT.len x)]; exact sz48) (ints_one _) rfl rfl (by have h0 := (BookT.len B); have h2 := Arnd.le hA B; have h1 := (RowT.len x); omega) (Arnd.wr hA (x := B) (x' := (BookT.mk (B.rows.set who.toNat x (by omega)))) (j := who.toNat * 174) (by omega) (by have h0 := (BookT.len B); have h1 := (RowT.len x); omega) (BookT.wr_rows_ B (who.toNat * 174) (by omega) (by have h1 := (RowT.len x); omega) (vs_wr RowT.flat_length B.rows (i := who.toNat) 0 (by omega) (by omega) (by have h1 := (RowT.len x); omega) (wwhole ((RowT.len (B.rows[who.toNat]'(by omega))).trans (RowT.len x).symm))))) rfl ?_
 refine TL.nil ?_
 refine TE.draw (fun _ s => ⟨Frm.of s, s.block 0 (lb rfl) rfl, trivial⟩) ?_
 refine TD.done (by kernel_rfl) ?_
 refine TE.next J5 ?_
 refine sr fun _ J6 => ?_
 refine sg' ?_
 refine nx J6 ?_
 refine TC.ret ?_
 refine TE.weak (Sub.refl _) (fun _ s => sep_keep [1] rfl s) ?_
 refine TE.ret1 rfl rfl ?_
 have e : bookMerge B who x = (putRow B who x, true) := by rw [bookMerge, if_pos (by simp only [Bool.and_eq_true, decide_eq_true_iff, hrow]; exact ⟨⟨h8, h12⟩, by omega⟩)]
 exact ⟨by rw [e], by rw [e, putRow, dif_pos h8]; rfl⟩
 exact AllT.nil
 refine TL.nil ?_
 refine TE.draw (fun _ s => ⟨Frm.of s, s.block 0 (lb rfl) rfl, s.block 1 (lb rfl) rfl, trivial⟩) ?_
 refine tb 6 rfl (PV.not (r := true) rfl rfl rfl) ?_
 refine ta 7 rfl (PV.pick rfl rfl rfl) ?_
 refine ta 8 rfl (PV.move rfl rfl) ?_
 refine TD.takeNot (i := 9) (b := true) rfl (by kernel_rfl) (by kernel_rfl) (by kernel_rfl) (fun _ _ _ _ h => h) rfl rfl rfl rfl rfl ?_
 refine TD.takeNot (i := 10) (b := true) rfl (by kernel_rfl) (by kernel_rfl) (by kernel_rfl) (fun _ _ _ _ h => h) rfl rfl rfl rfl rfl ?_
 refine TD.takeNot (i := 11) (b := true) rfl (by kernel_rfl) (by kernel_rfl) (by kernel_rfl) (fun _ _ _ _ h => h) rfl rfl rfl rfl rfl ?_
 refine TD.takeNot (i := 12) (b := true) rfl (by kernel_rfl) (by kernel_rfl) (by kernel_rfl) (fun _ _ _ _ h => h) rfl rfl rfl rfl rfl ?_
 refine TD.takeNot (i := 13) (b := true) rfl (by kernel_rfl) (by kernel_rfl) (by kernel_rfl) (fun _ _ _ _ h => h) rfl rfl rfl rfl rfl ?_
 refine TD.takeNot (i := 14) (b := true) rfl (by kernel_rfl) (by kernel_rfl) (by kernel_rfl) (fun _ _ _ _ h => h) rfl rfl rfl rfl rfl ?_
 refine TD.takeNot (i := 15) (b := true) rfl (by kernel_rfl) (by kernel_rfl) (by kernel_rfl) (fun _ _ _ _ h => h) rfl rfl rfl rfl rfl ?_
 refine TD.takeNot (i := 16) (b := true) rfl (by kernel_rfl) (by kernel_rfl) (by kernel_rfl) (fun _ _ _ _ h => h) rfl rfl rfl rfl rfl ?_
 refine TD.takeNot (i := 17) (b := true) rfl (by kernel_rfl) (by kernel_rfl) (by kernel_rfl) (fun _ _ _ _ h => h) rfl rfl rfl rfl rfl ?_
 refine TD.takeNot (i := 18) (b := true) rfl (by kernel_rfl) (by kernel_rfl) (by kernel_rfl) (fun _ _ _ _ h => h) rfl rfl rfl rfl rfl ?_
 refine ta 19 rfl (PV.pick rfl rfl rfl) ?_
 refine TD.done (by kernel_rfl) ?_
 refine TE.next J3 ?_
 refine TC.yes rfl ?_
 refine sr fun _ J7 => ?_
 refine sg' ?_
 refine nx J7 ?_
 refine TC.ret ?_
 refine TE.passRet ?_
 refine TE.weak (Sub.refl _) (fun _ s => sep_keep [1] rfl s) ?_
 refine TE.ret1 rfl rfl ?_
 have e : bookMerge B who x = (B, false) := by rw [bookMerge, if_neg (fun h => by simp only [Bool.and_eq_true, decide_eq_true_iff] at h; rw [h12] at h; exact absurd h.1.2 (by decide))]
 exact ⟨by rw [e], by rw [e]; rfl⟩
 exact AllT.nil
 refine TL.nil ?_
 refine TE.draw (fun _ s => ⟨Frm.of s, s.block 0 (lb rfl) rfl, s.block 1 (lb rfl) rfl, trivial⟩) ?_
 refine ta 2 rfl (PV.not (r := true) rfl rfl rfl) ?_
 refine ta 3 rfl (PV.move rfl rfl) ?_
 refine TD.takeNot (i := 4) (b := true) rfl (by kernel_rfl) (by kernel_rfl) (by kernel_rfl) (fun _ _ _ _ h => h) rfl rfl rfl rfl rfl ?_
 refine TD.takeNot (i := 5) (b := true) rfl (by kernel_rfl) (by kernel_rfl) (by kernel_rfl) (fun _ _ _ _ h => h) rfl rfl rfl rfl rfl ?_
 refine TD.takeNot (i := 6) (b := true) rfl (by kernel_rfl) (by kernel_rfl) (by kernel_rfl) (fun _ _ _ _ h => h) rfl rfl rfl rfl rfl ?_
 refine ta 7 rfl (PV.pick rfl rfl rfl) ?_
 refine ta 8 rfl (PV.move rfl rfl) ?_
 refine TD.takeNot (i := 9) (b := true) rfl (by kernel_rfl) (by kernel_rfl) (by kernel_rfl) (fun _ _ _ _ h => h) rfl rfl rfl rfl rfl ?_
 refine TD.takeNot (i := 10) (b := true) rfl (by kernel_rfl) (by kernel_rfl) (by kernel_rfl) (fun _ _ _ _ h => h) rfl rfl rfl rfl rfl ?_
 refine TD.takeNot (i := 11) (b := true) rfl (by kernel_rfl) (by kernel_rfl) (by kernel_rfl) (fun _ _ _ _ h => h) rfl rfl rfl rfl rfl ?_
 refine TD.takeNot (i := 12) (b := true) rfl (by kernel_rfl) (by kernel_rfl) (by kernel_rfl) (fun _ _ _ _ h => h) rfl rfl rfl rfl rfl ?_
 refine TD.takeNot (i := 13) (b := true) rfl (by kernel_rfl) (by kernel_rfl) (by kernel_rfl) (fun _ _ _ _ h => h) rfl rfl rfl rfl rfl ?_
 refine TD.takeNot (i := 14) (b := true) rfl (by kernel_rfl) (by kernel_rfl) (by kernel_rfl) (fun _ _ _ _ h => h) rfl rfl rfl rfl rfl ?_
 refine TD.takeNot (i := 15) (b := true) rfl (by kernel_rfl) (by kernel_rfl) (by kernel_rfl) (fun _ _ _ _ h => h) rfl rfl rfl rfl rfl ?_
 refine TD.takeNot (i := 16) (b := true) rfl (by kernel_rfl) (by kernel_rfl) (by kernel_rfl) (fun _ _ _ _ h => h) rfl rfl rfl rfl rfl ?_
 refine TD.takeNot (i := 17) (b := true) rfl (by kernel_rfl) (by kernel_rfl) (by kernel_rfl) (fun _ _ _ _ h => h) rfl rfl rfl rfl rfl ?_
 refine TD.takeNot (i := 18) (b := true) rfl (by kernel_rfl) (by kernel_rfl) (by kernel_rfl) (fun _ _ _ _ h => h) rfl rfl rfl rfl rfl ?_
 refine ta 19 rfl (PV.pick rfl rfl rfl) ?_
 refine TD.done (by kernel_rfl) ?_
 refine TE.next J3 ?_
 refine TC.yes rfl ?_
 refine sr fun _ J8 => ?_
 refine sg' ?_
 refine nx J8 ?_
 refine TC.ret ?_
 refine TE.passRet ?_
 refine TE.weak (Sub.refl _) (fun _ s => sep_keep [1] rfl s) ?_
 refine TE.ret1 rfl rfl ?_
 have e : bookMerge B who x = (B, false) := by rw [bookMerge, if_neg (fun h => by simp only [Bool.and_eq_true, decide_eq_true_iff] at h; rw [h8] at h; exact absurd h.1.1 (by decide))]
 exact ⟨by rw [e], by rw [e]; rfl⟩
 exact AllT.nil
theorem bookCell_does (b off T : Nat) (cs : BookT → List Value) (hA : Arnd cs (fun x => ints x.flat) off) (B : BookT) (of' key : Int) :
    Does Tryz.prog 51 #[(.pointer (some ⟨b, off, none⟩)), (.int .i64 (of')), (.int .i64 (key))] (fun _ => True) [blkA b (cs B) T] (Ret (fun r' H => r' = .agg (ints (bookCell B of' key).flat).toArray ∧ H = [blkA b (cs B) T])) := by
 refine Does.body (vs := [(.pointer (some ⟨b, off, none⟩)), (.int .i64 (of')), (.int .i64 (key))]) (n := 35) Tryz.func51 rfl rfl rfl (fun w0 F hF => ?_)
 refine sr fun _ J1 => ?_
 refine TL.alloc (Want.plain rfl) rfl rfl rfl z44 (fun b6 => ?_)
 change TL _ _ _ _ _ _ _ _ _ [blkA b6 (ints CellT.zero.flat) 44, blkA b (cs B) T]
 refine nx J1 ?_
 refine sr fun _ J2 => ?_
 refine TL.alloc (Want.plain rfl) rfl rfl rfl z44 (fun b7 => ?_)
 change TL _ _ _ _ _ _ _ _ _ [blkA b7 (ints CellT.zero.flat) 44, blkA b6 (ints CellT.zero.flat) 44, blkA b (cs B) T]
 refine nx J2 ?_
 refine sr fun _ J3 => ?_
 refine sg' ?_
 refine nx J3 ?_
 refine TC.seq fun _ J4 => ?_
 refine sr fun _ J5 => ?_
 refine mv ?_
 refine nx J5 ?_
 refine TC.block ?_
 refine TC.loop (α := (Nat) × (CellT) × (Int)) (fun ⟨k, c, n⟩ => k ≤ 5 ∧ (c, n) = bookTo B of' key k) (fun ⟨k, c, n⟩ => [(0, (.pointer (some ⟨b, off, none⟩))), (1, (.int .i64 (of'))), (2, (.int .i64 (key))), (6, (.pointer (some ⟨b6, 0, none⟩))), (7, (.pointer (some ⟨b7, 0, none⟩))), (8, (.int .i64 (n))), (12, (.int .i64 (((k : Nat) : Int))))]) (fun ⟨k, c, n⟩ => [blkA b7 (ints c.flat) 44, blkA b6 (ints CellT.zero.flat) 44, blkA b (cs B) T]) (fun ⟨k, c, n⟩ => 5 - k) (0, CellT.zero, -1)
     ⟨Nat.zero_le _, rfl⟩ (Sub.r (Sub.r (Sub.r (Sub.r (Sub.r (Sub.cons rfl (by congr 1) (Sub.cons rfl (by congr 1) (Sub.nil _))))))))
     (fun _ s => s) (fun ⟨k, c, n⟩ hinv => ?_)
 obtain ⟨hk, hc⟩ := hinv
 refine sr fun _ J6 => ?_
 refine tp (PV.lss rfl rfl rfl) ?_
 refine TL.dec (fun h13 => ?_) (fun h13 => ?_)
 refine nx J6 ?_
 refine TC.seq fun _ J7 => ?_
 refine TC.yes rfl ?_
 refine TC.skip ?_
 refine TE.next J7 ?_
 refine TC.seq fun _ J8 => ?_
 refine TC.block ?_
 refine sr fun _ J9 => ?_
 refine mv ?_
 refine sg' ?_
 refine nx J9 ?_
 refine sr fun _ J10 => ?_
 refine mv ?_
 refine mv ?_
 refine tp (PV.nilCheck rfl rfl) ?_
 refine tp (PV.fieldAddr (r := off) rfl Tryz.underlying71 rfl sz69 rfl rfl) ?_
 refine tp (PV.indexArr (r := off + k * 174) rfl Tryz.underlying69 sz48 rfl rfl (by omega) (by omega) (by omega)) ?_
 refine tp (PV.loadN (vs := ints (B.rows[k]'(by omega)).flat) rfl Tryz.underlying48 rfl sz48 rfl (Rd.own 2 rfl rfl) (RowT.len (B.rows[k]'(by omega))) (Arnd.sub hA (j := k * 174) (by omega) (by have h0 := (BookT.len B); omega) (BookT.sub_rows B (k * 174) (by omega) (by omega) (vs_sub RowT.flat_length B.rows (i := k) 0 (by omega) (by omega) (by decide) (whole (RowT.len (B.rows[k]'(by omega)))))))) ?_
 refine mv ?_
 refine mv ?_
 refine mv ?_
 refine TL.callR (A := []) (Want.plain rfl) rfl rfl rfl nm87 rfl (rowCell_does (B.rows[k]'(by omega)) ((k : Nat) : Int) of' key) (fun _ s => s) (fun _ _ _ => trivial) (fun vR HR hR => ?_)
 obtain ⟨rfl, rfl⟩ := hR
 change TL _ _ _ _ _ _ _ _ _ [blkA b7 (ints c.flat) 44, blkA b6 (ints CellT.zero.flat) 44, blkA b (cs B) T]
 refine mv ?_
 refine tp (PV.extract (vs := [(.agg (ints ((rowCell (B.rows[k]'(by omega)) ((k : Nat) : Int) of' key).1).flat).toArray), (.int .i64 ((rowCell (B.rows[k]'(by omega)) ((k : Nat) : Int) of' key).2))]) rfl rfl rfl) ?_
 refine tp (PV.extract (vs := [(.agg (ints ((rowCell (B.rows[k]'(by omega)) ((k : Nat) : Int) of' key).1).flat).toArray), (.int .i64 ((rowCell (B.rows[k]'(by omega)) ((k : Nat) : Int) of' key).2))]) rfl rfl rfl) ?_
 refine TL.alloc (Want.plain rfl) rfl rfl rfl z44 (fun b10 => ?_)
 change TL _ _ _ _ _ _ _ _ _ [blkA b10 (ints CellT.zero.flat) 44, blkA b7 (ints c.flat) 44, blkA b6 (ints CellT.zero.flat) 44, blkA b (cs B) T]
 refine TL.store (vs := ints ((rowCell (B.rows[k]'(by omega)) ((k : Nat) : Int) of' key).1).flat) (i := 0) (H' := [blkA b10 (ints ((rowCell (B.rows[k]'(by omega)) ((k : Nat) : Int) of' key).1).flat) 44, blkA b7 (ints c.flat) 44, blkA b6 (ints CellT.zero.flat) 44, blkA b (cs B) T]) (Want.plain rfl) rfl rfl rfl rfl rfl (by rw [(CellT.len ((rowCell (B.rows[k]'(by omega)) ((k : Nat) : Int) of' key).1))]; exact sz44) (ints_one _) rfl rfl (by have h0 := (CellT.len CellT.zero); have h1 := (CellT.len ((rowCell (B.rows[k]'(by omega)) ((k : Nat) : Int) of' key).1)); omega) (wwhole ((CellT.len CellT.zero).trans (CellT.len ((rowCell (B.rows[k]'(by omega)) ((k : Nat) : Int) of' key).1)).symm)) rfl ?_
 refine sg' ?_
 refine nx J10 ?_
 refine sr fun _ J11 => ?_
 refine mv ?_
 refine mv ?_
 refine tp (PV.gtr rfl rfl rfl) ?_
 refine TL.dec (fun h30 => ?_) (fun h30 => ?_)
 refine nx J11 ?_
 refine TC.yes rfl ?_
 refine TC.region ?_
 refine tp (PV.loadN (vs := ints ((rowCell (B.rows[k]'(by omega)) ((k : Nat) : Int) of' key).1).flat) rfl Tryz.underlying44 rfl sz44 rfl (Rd.own 0 rfl rfl) (CellT.len ((rowCell (B.rows[k]'(by omega)) ((k : Nat) : Int) of' key).1)) (whole (CellT.len ((rowCell (B.rows[k]'(by omega)) ((k : Nat) : Int) of' key).1)))) ?_
 refine mv ?_
 refine TL.store (vs := ints ((rowCell (B.rows[k]'(by omega)) ((k : Nat) : Int) of' key).1).flat) (i := 1) (H' := [blkA b10 (ints ((rowCell (B.rows[k]'(by omega)) ((k : Nat) : Int) of' key).1).flat) 44, blkA b7 (ints ((rowCell (B.rows[k]'(by omega)) ((k : Nat) : Int) of' key).1).flat) 44, blkA b6 (ints CellT.zero.flat) 44, blkA b (cs B) T]) (Want.plain rfl) rfl rfl rfl rfl rfl (by rw [(CellT.len ((rowCell (B.rows[k]'(by omega)) ((k : Nat) : Int) of' key).1))]; exact sz44) (ints_one _) rfl rfl (by have h0 := (CellT.len c); have h1 := (CellT.len ((rowCell (B.rows[k]'(by omega)) ((k : Nat) : Int) of' key).1)); omega) (wwhole ((CellT.len c).trans (CellT.len ((rowCell (B.rows[k]'(by omega)) ((k : Nat) : Int) of' key).1)).symm)) rfl ?_
 refine sg' ?_
 refine TL.nil ?_
 refine TE.blockEnd ?_
 refine TE.next J8 ?_
 refine TC.region ?_
 refine tp (PV.add rfl rfl rfl (wrap_i64 (by omega) (by omega))) ?_
 refine mv ?_
 refine TL.nil ?_
 exact TE.round ((k + 1, (rowCell (B.rows[k]'(by omega)) ((k : Nat) : Int) of' key).1, (rowCell (B.rows[k]'(by omega)) ((k : Nat) : Int) of' key).2) : (Nat) × (CellT) × (Int)) ⟨by omega, by rw [bookTo_succ, ← hc, bookStep, bookRow_at B (by omega)]; simp [h30]⟩ (by show 5 - (k + 1) < 5 - k; omega)
   (Sub.r (Sub.r (Sub.r (Sub.r (Sub.r (Sub.r (Sub.cons rfl (by simp) (Sub.nil _))))))))
   (fun _ s => sep_keep [1, 1, 1] rfl s)
 refine nx J11 ?_
 refine TC.no rfl ?_
 refine TC.skip ?_
 refine TE.blockEnd ?_
 refine TE.next J8 ?_
 refine TC.region ?_
 refine tp (PV.add rfl rfl rfl (wrap_i64 (by omega) (by omega))) ?_
 refine mv ?_
 refine TL.nil ?_
 exact TE.round ((k + 1, c, n) : (Nat) × (CellT) × (Int)) ⟨by omega, by rw [bookTo_succ, ← hc, bookStep, bookRow_at B (by omega)]; simp [h30]⟩ (by show 5 - (k + 1) < 5 - k; omega)
   (Sub.r (Sub.r (Sub.r (Sub.r (Sub.r (Sub.r (Sub.cons rfl (by simp) (Sub.nil _))))))))
   (fun _ s => sep_keep [1, 1, 1] rfl s)
 refine nx J6 ?_
 refine TC.seq fun _ J12 => ?_
 refine TC.no rfl ?_
 refine TC.exit ?_
 refine TE.pass ?_
 refine TE.pass ?_
 refine TE.hit ?_
 refine TE.next J4 ?_
 refine sr fun _ J13 => ?_
 refine tp (PV.loadN (vs := ints c.flat) rfl Tryz.underlying44 rfl sz44 rfl (Rd.own 0 rfl rfl) (CellT.len c) (whole (CellT.len c))) ?_
 refine TL.store (vs := ints c.flat) (i := 1) (H' := [blkA b7 (ints c.flat) 44, blkA b6 (ints c.flat) 44, blkA b (cs B) T]) (Want.plain rfl) rfl rfl rfl rfl rfl (by rw [(CellT.len c)]; exact sz44) (ints_one _) rfl rfl (by have h0 := (CellT.len CellT.zero); have h1 := (CellT.len c); omega) (wwhole ((CellT.len CellT.zero).trans (CellT.len c).symm)) rfl ?_
 refine nx J13 ?_
 refine TC.ret ?_
 refine TE.retC (H' := [blkA b (cs B) T]) rfl rfl Tryz.underlying44 rfl sz44 (Rd.own 1 rfl rfl) (CellT.len c) (fun _ s => sep_keep [2] rfl s) ?_
 obtain rfl : k = 5 := by omega
 exact ⟨by rw [bookCell, ← hc], rfl⟩
theorem bookValue_does (b off T : Nat) (cs : BookT → List Value) (hA : Arnd cs (fun x => ints x.flat) off) (B : BookT) (key : Int) :
    Does Tryz.prog 22 #[(.pointer (some ⟨b, off, none⟩)), (.int .i64 (key))] (fun _ => True) [blkA b (cs B) T] (Ret (fun r' H => r' = .int .i64 (bookValue B key) ∧ H = [blkA b (cs B) T])) := by
 refine Does.body (vs := [(.pointer (some ⟨b, off, none⟩)), (.int .i64 (key))]) (n := 24) Tryz.func22 rfl rfl rfl (fun w0 F hF => ?_)
 refine sr fun _ J1 => ?_
 refine sg' ?_
 refine nx J1 ?_
 refine sr fun _ J2 => ?_
 refine sg' ?_
 refine nx J2 ?_
 refine TC.seq fun _ J3 => ?_
 refine sr fun _ J4 => ?_
 refine mv ?_
 refine nx J4 ?_
 refine TC.block ?_
 refine TC.loop (α := (Nat) × (Int)) (fun ⟨k, n⟩ => k ≤ 5 ∧ n = valueTo B key k) (fun ⟨k, n⟩ => [(0, (.pointer (some ⟨b, off, none⟩))), (1, (.int .i64 (key))), (4, (.int .i64 0)), (5, (.int .i64 (n))), (8, (.int .i64 (((k : Nat) : Int))))]) (fun ⟨k, n⟩ => [blkA b (cs B) T]) (fun ⟨k, n⟩ => 5 - k) (0, 0)
     ⟨Nat.zero_le _, rfl⟩ (Sub.r (Sub.r (Sub.r (Sub.cons rfl (by congr 1) (Sub.cons rfl (by congr 1) (Sub.nil _))))))
     (fun _ s => s) (fun ⟨k, n⟩ hinv => ?_)
 obtain ⟨hk, hc⟩ := hinv
 refine sr fun _ J5 => ?_
 refine tp (PV.lss rfl rfl rfl) ?_
 refine TL.dec (fun h9 => ?_) (fun h9 => ?_)
 refine nx J5 ?_
 refine TC.seq fun _ J6 => ?_
 refine TC.yes rfl ?_
 refine TC.skip ?_
 refine TE.next J6 ?_
 refine TC.seq fun _ J7 => ?_
 refine TC.block ?_
 refine sr fun _ J8 => ?_
 refine mv ?_
 refine sg' ?_
 refine nx J8 ?_
 refine sr fun _ J9 => ?_
 refine mv ?_
 refine mv ?_
 refine mv ?_
 refine TL.callR (A := [blkA b (cs B) T]) (Want.plain rfl) rfl rfl rfl nm51 rfl (bookCell_does b off T cs hA B ((k : Nat) : Int) key) (fun _ s => s) (fun _ _ _ => trivial) (fun vR HR hR => ?_)
 obtain ⟨rfl, rfl⟩ := hR
 change TL _ _ _ _ _ _ _ _ _ [blkA b (cs B) T]
 refine TL.alloc (Want.plain rfl) rfl rfl rfl z44 (fun b7 => ?_)
 change TL _ _ _ _ _ _ _ _ _ [blkA b7 (ints CellT.zero.flat) 44, blkA b (cs B) T]
 refine TL.store (vs := ints (bookCell B ((k : Nat) : Int) key).flat) (i := 0) (H' := [blkA b7 (ints (bookCell B ((k : Nat) : Int) key).flat) 44, blkA b (cs B) T]) (Want.plain rfl) rfl rfl rfl rfl rfl (by rw [(CellT.len (bookCell B ((k : Nat) : Int) key))]; exact sz44) (ints_one _) rfl rfl (by have h0 := (CellT.len CellT.zero); have h1 := (CellT.len (bookCell B ((k : Nat) : Int) key)); omega) (wwhole ((CellT.len CellT.zero).trans (CellT.len (bookCell B ((k : Nat) : Int) key)).symm)) rfl ?_
 refine nx J9 ?_
 refine TC.region ?_
 refine mv ?_
 refine tp (PV.fieldAddr (r := 0) rfl Tryz.underlying44 rfl sz3 rfl rfl) ?_
 refine tp (PV.load1 (v := (.int .i64 ((bookCell B ((k : Nat) : Int) key).inn))) rfl Tryz.underlying3 rfl rfl (Rd.own 0 rfl rfl) (CellT.at_inn (bookCell B ((k : Nat) : Int) key) rfl)) ?_
 refine tp (PV.fieldAddr (r := 1) rfl Tryz.underlying44 rfl sz3 rfl rfl) ?_
 refine tp (PV.load1 (v := (.int .i64 ((bookCell B ((k : Nat) : Int) key).out))) rfl Tryz.underlying3 rfl rfl (Rd.own 0 rfl rfl) (CellT.at_out (bookCell B ((k : Nat) : Int) key) rfl)) ?_
 refine tp (PV.sub (r := (w64 (((bookCell B ((k : Nat) : Int) key).inn) - ((bookCell B ((k : Nat) : Int) key).out)))) rfl rfl rfl rfl) ?_
 refine tp (PV.add (r := (w64 (n + (w64 (((bookCell B ((k : Nat) : Int) key).inn) - ((bookCell B ((k : Nat) : Int) key).out)))))) rfl rfl rfl rfl) ?_
 refine sg' ?_
 refine TL.nil ?_
 refine TE.blockEnd ?_
 refine TE.next J7 ?_
 refine TC.region ?_
 refine tp (PV.add rfl rfl rfl (wrap_i64 (by omega) (by omega))) ?_
 refine mv ?_
 refine TL.nil ?_
 exact TE.round ((k + 1, (w64 (n + (w64 (((bookCell B ((k : Nat) : Int) key).inn) - ((bookCell B ((k : Nat) : Int) key).out)))))) : (Nat) × (Int)) ⟨by omega, by rw [valueTo_succ, ← hc]⟩ (by show 5 - (k + 1) < 5 - k; omega)
   (Sub.r (Sub.r (Sub.r (Sub.r (Sub.cons rfl (by simp) (Sub.nil _))))))
   (fun _ s => sep_keep [1] rfl s)
 refine nx J5 ?_
 refine TC.seq fun _ J10 => ?_
 refine TC.no rfl ?_
 refine TC.exit ?_
 refine TE.pass ?_
 refine TE.pass ?_
 refine TE.hit ?_
 refine TE.next J3 ?_
 refine sr fun _ J11 => ?_
 refine mv ?_
 refine sg' ?_
 refine nx J11 ?_
 refine TC.ret ?_
 refine TE.weak (Sub.refl _) (fun _ s => sep_keep [0] rfl s) ?_
 refine TE.ret1 rfl rfl ?_
 obtain rfl : k = 5 := by omega
 exact ⟨by rw [hc]; rfl, rfl⟩
theorem bookRights_does (b off T : Nat) (cs : BookT → List Value) (hA : Arnd cs (fun x => ints x.flat) off) (B : BookT) (who key : Int) :
    Does Tryz.prog 21 #[(.pointer (some ⟨b, off, none⟩)), (.int .i64 (who)), (.int .i64 (key))] (fun _ => True) [blkA b (cs B) T] (Ret (fun r' H => r' = .int .i64 (bookRights B who key) ∧ H = [blkA b (cs B) T])) := by
 refine Does.body (vs := [(.pointer (some ⟨b, off, none⟩)), (.int .i64 (who)), (.int .i64 (key))]) (n := 71) Tryz.func21 rfl rfl rfl (fun w0 F hF => ?_)
 refine sr fun _ J1 => ?_
 refine sg' ?_
 refine nx J1 ?_
 refine TC.seq fun _ J2 => ?_
 refine sr fun _ J3 => ?_
 refine mv ?_
 refine TL.callR (A := []) (Want.plain rfl) rfl rfl rfl nm50 rfl (bookMachine_does who) (fun _ s => s) (fun _ _ _ => trivial) (fun vR HR hR => ?_)
 obtain ⟨rfl, rfl⟩ := hR
 change TL _ _ _ _ _ _ _ _ _ [blkA b (cs B) T]
 refine TL.decB (fun h14 => ?_) (fun h14 => ?_)
 have hm : 0 ≤ who ∧ who < 5 := of_decide_eq_true h14
 refine tp (PV.not (r := false) rfl rfl rfl) ?_
 refine nx J3 ?_
 refine TC.no rfl ?_
 refine TC.skip ?_
 refine TE.next J2 ?_
 refine sr fun _ J4 => ?_
 refine TL.alloc (Want.plain rfl) rfl rfl rfl z127 (fun b7 => ?_)
 change TL _ _ _ _ _ _ _ _ _ [blkA b7 (ints ((#v[CellT.zero, CellT.zero, CellT.zero, CellT.zero, CellT.zero]).toList.flatMap CellT.flat)) 127, blkA b (cs B) T]
 refine nx J4 ?_
 refine TC.seq fun _ J5 => ?_
 refine sr fun _ J6 => ?_
 refine mv ?_
 refine nx J6 ?_
 refine TC.block ?_
 refine TC.loop (α := (Nat) × (Vector CellT 5)) (fun ⟨k, C⟩ => k ≤ 5 ∧ ∀ (j : Nat) (h : j < 5), j < k → C[j] = bookCell B j key) (fun ⟨k, C⟩ => [(0, (.pointer (some ⟨b, off, none⟩))), (1, (.int .i64 (who))), (2, (.int .i64 (key))), (6, (.int .i64 0)), (7, (.pointer (some ⟨b7, 0, none⟩))), (16, (.int .i64 (((k : Nat) : Int))))]) (fun ⟨k, C⟩ => [blkA b7 (ints (C.toList.flatMap CellT.flat)) 127, blkA b (cs B) T]) (fun ⟨k, C⟩ => 5 - k) (0, #v[CellT.zero, CellT.zero, CellT.zero, CellT.zero, CellT.zero])
     ⟨Nat.zero_le _, fun j _ h => absurd h (by omega)⟩ (Sub.r (Sub.r (Sub.r (Sub.r (Sub.r (Sub.cons rfl (by congr 1) (Sub.nil _)))))))
     (fun _ s => sep_keep [0, 0] rfl s) (fun ⟨k, C⟩ hinv => ?_)
 obtain ⟨hk, hC⟩ := hinv
 refine sr fun _ J7 => ?_
 refine tp (PV.lss rfl rfl rfl) ?_
 refine TL.dec (fun h17 => ?_) (fun h17 => ?_)
 refine nx J7 ?_
 refine TC.seq fun _ J8 => ?_
 refine TC.yes rfl ?_
 refine TC.skip ?_
 refine TE.next J8 ?_
 refine TC.seq fun _ J9 => ?_
 refine TC.block ?_
 refine sr fun _ J10 => ?_
 refine mv ?_
 refine sg' ?_
 refine nx J10 ?_
 refine TC.region ?_
 refine mv ?_
 refine mv ?_
 refine mv ?_
 refine mv ?_
 refine TL.callR (A := [blkA b (cs B) T]) (Want.plain rfl) rfl rfl rfl nm51 rfl (bookCell_does b off T cs hA B ((k : Nat) : Int) key) (fun _ s => sep_selR [1] rfl s) (fun _ _ _ => trivial) (fun vR HR hR => ?_)
 obtain ⟨rfl, rfl⟩ := hR
 change TL _ _ _ _ _ _ _ _ _ [blkA b (cs B) T, blkA b7 (ints (C.toList.flatMap CellT.flat)) 127]
 refine tp (PV.indexArr (r := k * 7) rfl Tryz.underlying127 sz44 rfl rfl (by omega) (by omega) (by omega)) ?_
 refine TL.store (vs := ints (bookCell B ((k : Nat) : Int) key).flat) (i := 1) (H' := [blkA b (cs B) T, blkA b7 (ints ((C.set k (bookCell B ((k : Nat) : Int) key) (by omega)).toList.flatMap CellT.flat)) 127]) (Want.plain rfl) rfl rfl rfl rfl rfl (by rw [(CellT.len (bookCell B ((k : Nat) : Int) key))]; exact sz44) (ints_one _) rfl rfl (by have h0 := (vsc_len C); have h1 := (CellT.len (bookCell B ((k : Nat) : Int) key)); omega) (vs_wr CellT.flat_length C (i := k) 0 (by omega) (by omega) (by have h1 := (CellT.len (bookCell B ((k : Nat) : Int) key)); omega) (wwhole ((CellT.len (C[k]'(by omega))).trans (CellT.len (bookCell B ((k : Nat) : Int) key)).symm))) rfl ?_
 refine TL.nil ?_
 refine TE.blockEnd ?_
 refine TE.next J9 ?_
 refine TC.region ?_
 refine tp (PV.add rfl rfl rfl (wrap_i64 (by omega) (by omega))) ?_
 refine mv ?_
 refine TL.nil ?_
 exact TE.round ((k + 1, (C.set k (bookCell B ((k : Nat) : Int) key) (by omega))) : (Nat) × (Vector CellT 5)) ⟨by omega, fun j h hj => by
        rw [Vector.getElem_set]
        split
        · subst_vars; rfl
        · exact hC j h (by omega)⟩ (by show 5 - (k + 1) < 5 - k; omega)
   (Sub.r (Sub.r (Sub.r (Sub.r (Sub.r (Sub.cons rfl (by simp) (Sub.nil _)))))))
   (fun _ s => sep_keep [1, 0] rfl s)
 refine nx J7 ?_
 refine TC.seq fun _ J11 => ?_
 refine TC.no rfl ?_
 refine TC.exit ?_
 refine TE.pass ?_
 refine TE.pass ?_
 refine TE.hit ?_
 refine TE.next J5 ?_
 refine sr fun _ J12 => ?_
 refine sg' ?_
 refine nx J12 ?_
 refine TC.seq fun _ J13 => ?_
 refine sr fun _ J14 => ?_
 refine mv ?_
 refine mv ?_
 refine tp (PV.nilCheck rfl rfl) ?_
 refine tp (PV.fieldAddr (r := off) rfl Tryz.underlying71 rfl sz69 rfl rfl) ?_
 refine tp (PV.indexArr (r := off + who.toNat * 174) rfl Tryz.underlying69 sz48 rfl rfl (by omega) (by omega) (by omega)) ?_
 refine tp (PV.loadN (vs := ints (B.rows[who.toNat]'(by omega)).flat) rfl Tryz.underlying48 rfl sz48 rfl (Rd.own 1 rfl rfl) (RowT.len (B.rows[who.toNat]'(by omega))) (Arnd.sub hA (j := who.toNat * 174) (by omega) (by have h0 := (BookT.len B); omega) (BookT.sub_rows B (who.toNat * 174) (by omega) (by omega) (vs_sub RowT.flat_length B.rows (i := who.toNat) 0 (by omega) (by omega) (by decide) (whole (RowT.len (B.rows[who.toNat]'(by omega)))))))) ?_
 refine mv ?_
 have hbr : B.rows[who.toNat]'(by omega) = bookRow B who := by rw [bookRow, dif_pos h14]
 rw [hbr]
 refine TL.callR (A := []) (Want.plain rfl) rfl rfl rfl nm52 rfl (rowOwn_does (bookRow B who) who) (fun _ s => s) (fun _ _ _ => trivial) (fun vR HR hR => ?_)
 obtain ⟨_, rfl, rfl⟩ := hR
 revert vR
 intro ul1
 change TL _ _ _ _ _ _ _ _ _ [own ul1 ((rowOwn (bookRow B who) who).length) (ints (rowOwn (bookRow B who) who)) 3 1, blkA b7 (ints (C.toList.flatMap CellT.flat)) 127, blkA b (cs B) T]
 refine TL.ownLen 0 rfl rfl (fun hlul1 houl1 => ?_)
 refine tp (PV.lenV rfl Tryz.underlying74 rfl hlul1) ?_
 refine mv ?_
 refine nx J14 ?_
 refine TC.block ?_
 refine TC.loop (α := (Nat) × (Int)) (fun ⟨i, r⟩ => i ≤ (rowOwn (bookRow B who) who).length ∧ r = ((rowOwn (bookRow B who) who).take i).foldl (rightsStep B key) 0) (fun ⟨i, r⟩ => [(0, (.pointer (some ⟨b, off, none⟩))), (6, (.int .i64 0)), (7, (.pointer (some ⟨b7, 0, none⟩))), (9, (.int .i64 (r))), (33, ul1), (34, (.int .i64 ((((rowOwn (bookRow B who) who).length : Nat) : Int)))), (35, (.int .i64 (((i : Nat) : Int))))]) (fun ⟨i, r⟩ => [own ul1 ((rowOwn (bookRow B who) who).length) (ints (rowOwn (bookRow B who) who)) 3 1, blkA b7 (ints (C.toList.flatMap CellT.flat)) 127, blkA b (cs B) T]) (fun ⟨i, r⟩ => (rowOwn (bookRow B who) who).length - i) (0, 0)
     ⟨Nat.zero_le _, rfl⟩ (Sub.r (Sub.r (Sub.r (Sub.cons rfl (by congr 1) (Sub.r (Sub.r (Sub.cons rfl (by congr 1) (Sub.nil _))))))))
     (fun _ s => sep_keep [0, 0, 0] rfl s) (fun ⟨i, r⟩ hinv => ?_)
 obtain ⟨hi, hr⟩ := hinv
 have hE : ∀ (j : Nat) (h : j < 5), C[j] = bookCell B j key := fun j h => hC j h (by omega)
 refine sr fun _ J15 => ?_
 refine tp (PV.lss rfl rfl rfl) ?_
 refine TL.dec (fun h36 => ?_) (fun h36 => ?_)
 refine nx J15 ?_
 refine TC.seq fun _ J16 => ?_
 refine TC.yes rfl ?_
 refine TC.skip ?_
 refine TE.next J16 ?_
 refine TC.seq fun _ J17 => ?_
 refine TC.block ?_
 refine sr fun _ J18 => ?_
 refine TL.ownAt 0 rfl rfl (by omega) (fun ga capa hva hcapa => ?_)
 obtain ⟨q, hq, hq5⟩ : ∃ q : Nat, (rowOwn (bookRow B who) who)[i] = ((q : Nat) : Int) ∧ q < 5 := by have := rowOwn_mem (bookRow B who) who _ (List.getElem_mem (show i < (rowOwn (bookRow B who) who).length by omega)); exact ⟨(rowOwn (bookRow B who) who)[i].toNat, by omega, by omega⟩
 have hE2 : C[q] = bookCell B (rowOwn (bookRow B who) who)[i] key := by rw [hE q hq5, hq]
 refine tp (PV.indexSlV (r := i) hva rfl Tryz.underlying74 sz3 rfl rfl (by omega) (by omega) (by omega)) ?_
 refine tp (PV.load1X (v := (.int .i64 (((q : Nat) : Int)))) rfl Tryz.underlying3 rfl rfl (RdX.own 0 rfl hva rfl) (by rw [← hq]; simp [ints, show i < (rowOwn (bookRow B who) who).length by omega])) ?_
 refine sg' ?_
 refine nx J18 ?_
 refine TC.seq fun _ J19 => ?_
 refine TC.draw (fun w => Frm F w ∧ w.heap[b7]? = some (.cells (ints (C.toList.flatMap CellT.flat)).toArray 127 (0, 0)) ∧ True) mixed rfl (fun _ s => ⟨Frm.of s, s.block 1 (lb rfl) rfl, trivial⟩) ?_
 refine ta 0 rfl (PV.move rfl rfl) ?_
 refine ta 1 rfl (PV.move rfl rfl) ?_
 refine ta 2 rfl (PV.indexArr (r := q * 7) rfl Tryz.underlying127 sz44 rfl rfl (by omega) (by omega) (by omega)) ?_
 refine ta 3 rfl (PV.fieldAddr (r := q * 7) rfl Tryz.underlying44 rfl sz3 rfl rfl) ?_
 refine ta 4 rfl (PV.load1 (v := (.int .i64 ((C[q]'(by omega)).inn))) rfl Tryz.underlying3 rfl rfl (fun _ h => h.2.1) (vs_pt CellT.flat_length C (i := q) 0 (by omega) (by omega) (by decide) (CellT.at_inn (C[q]'(by omega)) rfl))) ?_
 refine ta 5 rfl (PV.move rfl rfl) ?_
 refine ta 6 rfl (PV.indexArr (r := q * 7) rfl Tryz.underlying127 sz44 rfl rfl (by omega) (by omega) (by omega)) ?_
 refine ta 7 rfl (PV.fieldAddr (r := q * 7 + 1) rfl Tryz.underlying44 rfl sz3 rfl rfl) ?_
 refine ta 8 rfl (PV.load1 (v := (.int .i64 ((C[q]'(by omega)).out))) rfl Tryz.underlying3 rfl rfl (fun _ h => h.2.1) (vs_pt CellT.flat_length C (i := q) 1 (by omega) (by omega) (by decide) (CellT.at_out (C[q]'(by omega)) rfl))) ?_
 refine ta 9 rfl (PV.sub (r := (w64 (((C[q]'(by omega)).inn) - ((C[q]'(by omega)).out)))) rfl rfl rfl rfl) ?_
 refine ta 10 rfl (PV.add (r := (w64 (r + (w64 (((C[q]'(by omega)).inn) - ((C[q]'(by omega)).out)))))) rfl rfl rfl rfl) ?_
 refine ta 11 rfl (PV.assign rfl rfl) ?_
 refine TD.done (by kernel_rfl) ?_
 refine TE.next J19 ?_
 refine sr fun _ J20 => ?_
 refine mv ?_
 refine nx J20 ?_
 refine TC.block ?_
 refine TC.loop (α := (Nat) × (Int)) (fun ⟨o, r3⟩ => o ≤ 5 ∧ r3 = rightsIn B key (rowOwn (bookRow B who) who)[i] (w64 (r + w64 (C[q].inn - C[q].out))) o) (fun ⟨o, r3⟩ => [(0, (.pointer (some ⟨b, off, none⟩))), (6, (.int .i64 0)), (7, (.pointer (some ⟨b7, 0, none⟩))), (9, (.int .i64 (r3))), (11, (.int .i64 (((q : Nat) : Int)))), (33, ul1), (34, (.int .i64 ((((rowOwn (bookRow B who) who).length : Nat) : Int)))), (35, (.int .i64 (((i : Nat) : Int)))), (50, (.int .i64 (((o : Nat) : Int))))]) (fun ⟨o, r3⟩ => [own ul1 ((rowOwn (bookRow B who) who).length) (ints (rowOwn (bookRow B who) who)) 3 1, blkA b7 (ints (C.toList.flatMap CellT.flat)) 127, blkA b (cs B) T]) (fun ⟨o, r3⟩ => 5 - o) (0, (w64 (r + (w64 (((C[q]'(by omega)).inn) - ((C[q]'(by omega)).out))))))
     ⟨Nat.zero_le _, rfl⟩ (Sub.r (Sub.r (Sub.r (Sub.cons rfl (by congr 1) (Sub.r (Sub.r (Sub.r (Sub.r (Sub.cons rfl (by congr 1) (Sub.nil _))))))))))
     (fun _ s => sep_keep [0, 0, 0] rfl s) (fun ⟨o, r3⟩ hinv => ?_)
 obtain ⟨ho, hr3⟩ := hinv
 refine sr fun _ J21 => ?_
 refine tp (PV.lss rfl rfl rfl) ?_
 refine TL.dec (fun h51 => ?_) (fun h51 => ?_)
 refine nx J21 ?_
 refine TC.seq fun _ J22 => ?_
 refine TC.yes rfl ?_
 refine TC.skip ?_
 refine TE.next J22 ?_
 refine TC.seq fun _ J23 => ?_
 refine TC.block ?_
 refine sr fun _ J24 => ?_
 refine mv ?_
 refine sg' ?_
 refine nx J24 ?_
 refine TC.draw (fun w => Frm F w ∧ w.heap[b7]? = some (.cells (ints (C.toList.flatMap CellT.flat)).toArray 127 (0, 0)) ∧ True) mixed rfl (fun _ s => ⟨Frm.of s, s.block 1 (lb rfl) rfl, trivial⟩) ?_
 refine ta 0 rfl (PV.move rfl rfl) ?_
 refine ta 1 rfl (PV.move rfl rfl) ?_
 refine ta 2 rfl (PV.move rfl rfl) ?_
 refine ta 3 rfl (PV.indexArr (r := o * 7) rfl Tryz.underlying127 sz44 rfl rfl (by omega) (by omega) (by omega)) ?_
 refine ta 4 rfl (PV.fieldAddr (r := o * 7 + 2) rfl Tryz.underlying44 rfl sz42 rfl rfl) ?_
 refine ta 5 rfl (PV.indexArr (r := o * 7 + 2 + q) rfl Tryz.underlying42 sz3 rfl rfl (by omega) (by omega) (by omega)) ?_
 refine ta 6 rfl (PV.load1 (v := (.int .i64 ((((C[o]'(by omega)).given)[q]'(by omega))))) rfl Tryz.underlying3 rfl rfl (fun _ h => h.2.1) (vs_pt CellT.flat_length C (i := o) (2 + q) (by omega) (by omega) (by omega) (CellT.pt_given (C[o]'(by omega)) q (by omega) (by omega) (vi_at ((C[o]'(by omega)).given) (by omega))))) ?_
 refine ta 7 rfl (PV.move rfl rfl) ?_
 refine ta 8 rfl (PV.move rfl rfl) ?_
 refine ta 9 rfl (PV.indexArr (r := q * 7) rfl Tryz.underlying127 sz44 rfl rfl (by omega) (by omega) (by omega)) ?_
 refine ta 10 rfl (PV.fieldAddr (r := q * 7 + 2) rfl Tryz.underlying44 rfl sz42 rfl rfl) ?_
 refine ta 11 rfl (PV.indexArr (r := q * 7 + 2 + o) rfl Tryz.underlying42 sz3 rfl rfl (by omega) (by omega) (by omega)) ?_
 refine ta 12 rfl (PV.load1 (v := (.int .i64 ((((C[q]'(by omega)).given)[o]'(by omega))))) rfl Tryz.underlying3 rfl rfl (fun _ h => h.2.1) (vs_pt CellT.flat_length C (i := q) (2 + o) (by omega) (by omega) (by omega) (CellT.pt_given (C[q]'(by omega)) o (by omega) (by omega) (vi_at ((C[q]'(by omega)).given) (by omega))))) ?_
 refine ta 13 rfl (PV.sub (r := (w64 ((((C[o]'(by omega)).given)[q]'(by omega)) - (((C[q]'(by omega)).given)[o]'(by omega))))) rfl rfl rfl rfl) ?_
 refine ta 14 rfl (PV.add (r := (w64 (r3 + (w64 ((((C[o]'(by omega)).given)[q]'(by omega)) - (((C[q]'(by omega)).given)[o]'(by omega))))))) rfl rfl rfl rfl) ?_
 refine ta 15 rfl (PV.assign rfl rfl) ?_
 refine TD.done (by kernel_rfl) ?_
 refine TE.blockEnd ?_
 refine TE.next J23 ?_
 refine TC.region ?_
 refine tp (PV.add rfl rfl rfl (wrap_i64 (by omega) (by omega))) ?_
 refine mv ?_
 refine TL.nil ?_
 exact TE.round ((o + 1, (w64 (r3 + (w64 ((((C[o]'(by omega)).given)[q]'(by omega)) - (((C[q]'(by omega)).given)[o]'(by omega))))))) : (Nat) × (Int)) ⟨by omega, by rw [rightsIn_succ, ← hr3, givenOf_at _ (by omega), hq, givenOf_at _ hq5, ← hE o (by omega), ← hE q hq5]⟩ (by show 5 - (o + 1) < 5 - o; omega)
   (Sub.r (Sub.r (Sub.r (Sub.r (Sub.r (Sub.r (Sub.r (Sub.r (Sub.cons rfl (by simp) (Sub.nil _))))))))))
   (fun _ s => sep_keep [0, 0, 0] rfl s)
 refine nx J21 ?_
 refine TC.seq fun _ J25 => ?_
 refine TC.no rfl ?_
 refine TC.exit ?_
 refine TE.pass ?_
 refine TE.pass ?_
 refine TE.hit ?_
 refine TE.blockEnd ?_
 refine TE.next J17 ?_
 refine TC.region ?_
 refine tp (PV.add rfl rfl rfl (wrap_i64 (by omega) (by omega))) ?_
 refine mv ?_
 refine TL.nil ?_
 exact TE.round ((i + 1, r3) : (Nat) × (Int)) ⟨by omega, by
          have h5 : o = 5 := by omega
          rw [List.take_succ_eq_append_getElem (by omega), List.foldl_append, ← hr]
          show r3 = rightsStep B key r _
          rw [hr3, h5, rightsStep, ← hE2]⟩ (by show (rowOwn (bookRow B who) who).length - (i + 1) < (rowOwn (bookRow B who) who).length - i; omega)
   (Sub.r (Sub.r (Sub.r (Sub.r (Sub.r (Sub.r (Sub.cons rfl (by simp) (Sub.nil _))))))))
   (fun _ s => sep_keep [0, 0, 0] rfl s)
 refine nx J15 ?_
 refine TC.seq fun _ J26 => ?_
 refine TC.no rfl ?_
 refine TC.exit ?_
 refine TE.pass ?_
 refine TE.pass ?_
 refine TE.hit ?_
 refine TE.next J13 ?_
 refine sr fun _ J27 => ?_
 refine mv ?_
 refine sg' ?_
 refine nx J27 ?_
 refine TC.ret ?_
 refine TE.weak (Sub.refl _) (fun _ s => sep_keep [2] rfl s) ?_
 refine TE.ret1 rfl rfl ?_
 obtain rfl : i = (rowOwn (bookRow B who) who).length := by omega
 exact ⟨by rw [bookRights, if_pos h14, hr, List.take_length], rfl⟩
 refine tp (PV.not (r := true) rfl rfl rfl) ?_
 refine nx J3 ?_
 refine TC.yes rfl ?_
 refine sr fun _ J28 => ?_
 refine sg' ?_
 refine nx J28 ?_
 refine TC.ret ?_
 refine TE.passRet ?_
 refine TE.weak (Sub.refl _) (fun _ s => sep_keep [0] rfl s) ?_
 refine TE.ret1 rfl rfl ?_
 exact ⟨by rw [bookRights, if_neg (by simp [h14])], rfl⟩
theorem mirRow_does (b off T : Nat) (cs : MirT → List Value) (hA : Arnd cs MirT.cells off) (M : MirT) (who : Int) :
    Does Tryz.prog 26 #[(.pointer (some ⟨b, off, none⟩)), (.int .i64 (who))] (fun _ => True) [blkA b (cs M) T] (Ret (fun r' H => r' = .agg (ints (mirRow M who).flat).toArray ∧ H = [blkA b (cs M) T])) := by
 refine Does.body (vs := [(.pointer (some ⟨b, off, none⟩)), (.int .i64 (who))]) (n := 15) Tryz.func26 rfl rfl rfl (fun w0 F hF => ?_)
 refine sr fun _ J1 => ?_
 refine TL.alloc (Want.plain rfl) rfl rfl rfl z48 (fun b4 => ?_)
 change TL _ _ _ _ _ _ _ _ _ [blkA b4 (ints RowT.zero.flat) 48, blkA b (cs M) T]
 refine nx J1 ?_
 refine TC.seq fun _ J2 => ?_
 refine sr fun _ J3 => ?_
 refine mv ?_
 refine TL.callR (A := []) (Want.plain rfl) rfl rfl rfl nm55 rfl (mirrorMachine_does who) (fun _ s => s) (fun _ _ _ => trivial) (fun vR HR hR => ?_)
 obtain ⟨rfl, rfl⟩ := hR
 change TL _ _ _ _ _ _ _ _ _ [blkA b4 (ints RowT.zero.flat) 48, blkA b (cs M) T]
 refine TL.decB (fun h6 => ?_) (fun h6 => ?_)
 have hm : 0 ≤ who ∧ who < 5 := of_decide_eq_true h6
 refine tp (PV.not (r := false) rfl rfl rfl) ?_
 refine nx J3 ?_
 refine TC.no rfl ?_
 refine TC.skip ?_
 refine TE.next J2 ?_
 refine sr fun _ J4 => ?_
 refine mv ?_
 refine mv ?_
 refine tp (PV.nilCheck rfl rfl) ?_
 refine tp (PV.fieldAddr (r := off) rfl Tryz.underlying77 rfl sz69 rfl rfl) ?_
 refine tp (PV.indexArr (r := off + who.toNat * 174) rfl Tryz.underlying69 sz48 rfl rfl (by omega) (by omega) (by omega)) ?_
 refine tp (PV.loadN (vs := ints (M.rows[who.toNat]'(by omega)).flat) rfl Tryz.underlying48 rfl sz48 rfl (Rd.own 1 rfl rfl) (RowT.len (M.rows[who.toNat]'(by omega))) (Arnd.sub hA (j := who.toNat * 174) (by omega) (by have h0 := (MirT.len M); omega) (MirT.sub_rows M (who.toNat * 174) (by omega) (by omega) (vs_sub RowT.flat_length M.rows (i := who.toNat) 0 (by omega) (by omega) (by decide) (whole (RowT.len (M.rows[who.toNat]'(by omega)))))))) ?_
 refine TL.store (vs := ints (M.rows[who.toNat]'(by omega)).flat) (i := 0) (H' := [blkA b4 (ints (M.rows[who.toNat]'(by omega)).flat) 48, blkA b (cs M) T]) (Want.plain rfl) rfl rfl rfl rfl rfl (by rw [(RowT.len (M.rows[who.toNat]'(by omega)))]; exact sz48) (ints_one _) rfl rfl (by have h0 := (RowT.len RowT.zero); have h1 := (RowT.len (M.rows[who.toNat]'(by omega))); omega) (wwhole ((RowT.len RowT.zero).trans (RowT.len (M.rows[who.toNat]'(by omega))).symm)) rfl ?_
 refine nx J4 ?_
 refine TC.ret ?_
 refine TE.retC (H' := [blkA b (cs M) T]) rfl rfl Tryz.underlying48 rfl sz48 (Rd.own 0 rfl rfl) (RowT.len (M.rows[who.toNat]'(by omega))) (fun _ s => sep_keep [1] rfl s) ?_
 exact ⟨by rw [mirRow, dif_pos h6], rfl⟩
 refine tp (PV.not (r := true) rfl rfl rfl) ?_
 refine nx J3 ?_
 refine TC.yes rfl ?_
 refine sr fun _ J5 => ?_
 refine tp (PV.build (cells := (ints RowT.zero.flat).toArray) rfl rfl (by as_aux_lemma => kernel_rfl)) ?_
 refine TL.store (vs := ints RowT.zero.flat) (i := 0) (H' := [blkA b4 (ints RowT.zero.flat) 48, blkA b (cs M) T]) (Want.plain rfl) rfl rfl rfl rfl rfl (by rw [(RowT.len RowT.zero)]; exact sz48) (ints_one _) rfl rfl (by have h0 := (RowT.len RowT.zero); have h1 := (RowT.len RowT.zero); omega) (wwhole ((RowT.len RowT.zero).trans (RowT.len RowT.zero).symm)) rfl ?_
 refine nx J5 ?_
 refine TC.ret ?_
 refine TE.passRet ?_
 refine TE.retC (H' := [blkA b (cs M) T]) rfl rfl Tryz.underlying48 rfl sz48 (Rd.own 0 rfl rfl) (RowT.len RowT.zero) (fun _ s => sep_keep [1] rfl s) ?_
 exact ⟨by rw [mirRow, dif_neg (by simp [h6])], rfl⟩
theorem mirSealed_does (b off T : Nat) (cs : MirT → List Value) (hA : Arnd cs MirT.cells off) (M : MirT) (who : Int) :
    Does Tryz.prog 30 #[(.pointer (some ⟨b, off, none⟩)), (.int .i64 (who))] (fun _ => True) [blkA b (cs M) T] (Ret (fun r' H => r' = .bool (mirSealed M who) ∧ H = [blkA b (cs M) T])) := by
 refine Does.body (vs := [(.pointer (some ⟨b, off, none⟩)), (.int .i64 (who))]) (n := 15) Tryz.func30 rfl rfl rfl (fun w0 F hF => ?_)
 refine sr fun _ J1 => ?_
 refine sg' ?_
 refine nx J1 ?_
 clear J1
 refine sr fun _ J2 => ?_
 refine mv ?_
 refine TL.callR (A := []) (Want.plain rfl) rfl rfl rfl nm55 rfl (mirrorMachine_does who) (fun _ s => s) (fun _ _ _ => trivial) (fun vR HR hR => ?_)
 obtain ⟨rfl, rfl⟩ := hR
 change TL _ _ _ _ _ _ _ _ _ [blkA b (cs M) T]
 refine TL.decB (fun h6 => ?_) (fun h6 => ?_)
 have hm : 0 ≤ who ∧ who < 5 := of_decide_eq_true h6
 refine mv ?_
 refine tq (PV.move rfl rfl) ?_
 refine tq (PV.move rfl rfl) ?_
 refine tq (PV.nilCheck rfl rfl) ?_
 refine tq (PV.fieldAddr (r := off + 870) rfl Tryz.underlying77 rfl sz75 rfl rfl) ?_
 refine tq (PV.indexArr (r := off + 870 + who.toNat) rfl Tryz.underlying75 sz4 rfl rfl (by omega) (by omega) (by omega)) ?_
 refine tq (PV.load1 (v := (.bool ((M.sealed[who.toNat]'(by omega))))) rfl Tryz.underlying4 rfl rfl (Rd.own 0 rfl rfl) (Arnd.at hA (j := 870 + who.toNat) (by omega) (by have h0 := (MirT.len M); omega) (MirT.pt_sealed M (who.toNat) (by omega) (by omega) (vb_at M.sealed (by omega))))) ?_
 refine tp (PV.pick rfl rfl rfl) ?_
 refine sg' ?_
 refine nx J2 ?_
 clear J2
 refine TC.ret ?_
 refine TE.weak (Sub.refl _) (fun _ s => sep_keep [0] rfl s) ?_
 refine TE.ret1 rfl rfl ?_
 exact ⟨by simp [mirSealed, *], rfl⟩
 refine mv ?_
 refine TL.unmet (b := false) rfl rfl rfl rfl (lb rfl) ?_
 refine TL.unmet (b := false) rfl rfl rfl rfl (lb rfl) ?_
 refine TL.unmet (b := false) rfl rfl rfl rfl (lb rfl) ?_
 refine TL.unmet (b := false) rfl rfl rfl rfl (lb rfl) ?_
 refine TL.unmet (b := false) rfl rfl rfl rfl (lb rfl) ?_
 refine TL.unmet (b := false) rfl rfl rfl rfl (lb rfl) ?_
 refine tp (PV.pick rfl rfl rfl) ?_
 refine sg' ?_
 refine nx J2 ?_
 clear J2
 refine TC.ret ?_
 refine TE.weak (Sub.refl _) (fun _ s => sep_keep [0] rfl s) ?_
 refine TE.ret1 rfl rfl ?_
 exact ⟨by simp [mirSealed, *], rfl⟩
theorem mirTakes_does (b off T : Nat) (cs : MirT → List Value) (hA : Arnd cs MirT.cells off) (M : MirT) (who : Int) (x : RowT) (hx : WF x.flat) :
    Does Tryz.prog 56 #[(.pointer (some ⟨b, off, none⟩)), (.int .i64 (who)), (.agg (ints x.flat).toArray)] (fun _ => True) [blkA b (cs M) T] (Ret (fun r' H => r' = .bool (mirTakes M who x) ∧ H = [blkA b (cs M) T])) := by
 refine Does.body (vs := [(.pointer (some ⟨b, off, none⟩)), (.int .i64 (who)), (.agg (ints x.flat).toArray)]) (n := 34) Tryz.func56 rfl rfl rfl (fun w0 F hF => ?_)
 refine sr fun _ J1 => ?_
 refine TL.box (Want.plain rfl) rfl rfl rfl rfl (fun b5 => ?_)
 change TL _ _ _ _ _ _ _ _ _ [blkA b5 (ints x.flat) 48, blkA b (cs M) T]
 refine sg' ?_
 refine nx J1 ?_
 clear J1
 refine TC.seq fun _ J2 => ?_
 refine TC.draw (fun w => Frm F w ∧ w.heap[b]? = some (.cells (cs M).toArray T (0, 0)) ∧ w.heap[b5]? = some (.cells (ints x.flat).toArray 48 (0, 0)) ∧ True) mixed rfl (fun _ s => ⟨Frm.of s, s.block 1 (lb rfl) rfl, s.block 0 (lb rfl) rfl, trivial⟩) ?_
 refine ta 0 rfl (PV.move rfl rfl) ?_
 refine TD.all [1] (by kernel_rfl) rfl ?_
 refine AllT.cons rfl ?_ ?_
 refine TL.callR (A := []) (Want.plain rfl) rfl rfl rfl nm55 rfl (mirrorMachine_does who) (fun _ s => s) (fun _ _ _ => trivial) (fun vR HR hR => ?_)
 obtain ⟨rfl, rfl⟩ := hR
 change TL _ _ _ _ _ _ _ _ _ [blkA b5 (ints x.flat) 48, blkA b (cs M) T]
 refine TL.decB (fun h8 => ?_) (fun h8 => ?_)
 have hm : 0 ≤ who ∧ who < 5 := of_decide_eq_true h8
 refine TL.nil ?_
 refine TE.draw (fun _ s => ⟨Frm.of s, s.block 1 (lb rfl) rfl, s.block 0 (lb rfl) rfl, trivial⟩) ?_
 refine ta 2 rfl (PV.move rfl rfl) ?_
 refine tb 3 rfl (PV.move rfl rfl) ?_
 refine tb 4 rfl (PV.move rfl rfl) ?_
 refine tb 5 rfl (PV.nilCheck rfl rfl) ?_
 refine tb 6 rfl (PV.fieldAddr (r := off + 870) rfl Tryz.underlying77 rfl sz75 rfl rfl) ?_
 refine tb 7 rfl (PV.indexArr (r := off + 870 + who.toNat) rfl Tryz.underlying75 sz4 rfl rfl (by omega) (by omega) (by omega)) ?_
 refine tb 8 rfl (PV.load1 (v := (.bool ((M.sealed[who.toNat]'(by omega))))) rfl Tryz.underlying4 rfl rfl (fun _ h => h.2.1) (Arnd.at hA (j := 870 + who.toNat) (by omega) (by have h0 := (MirT.len M); omega) (MirT.pt_sealed M (who.toNat) (by omega) (by omega) (vb_at M.sealed (by omega))))) ?_
 refine TD.decB (fun h15 => ?_) (fun h15 => ?_)
 refine tb 9 rfl (PV.not (r := false) rfl rfl rfl) ?_
 refine ta 10 rfl (PV.pick rfl rfl rfl) ?_
 refine ta 11 rfl (PV.move rfl rfl) ?_
 refine TD.takeNot (i := 12) (b := false) rfl (by kernel_rfl) (by kernel_rfl) (by kernel_rfl) (fun _ _ _ _ h => h) rfl rfl rfl rfl rfl ?_
 refine TD.takeNot (i := 13) (b := false) rfl (by kernel_rfl) (by kernel_rfl) (by kernel_rfl) (fun _ _ _ _ h => h) rfl rfl rfl rfl rfl ?_
 refine ta 14 rfl (PV.pick rfl rfl rfl) ?_
 refine ta 15 rfl (PV.move rfl rfl) ?_
 refine TD.takeNot (i := 16) (b := false) rfl (by kernel_rfl) (by kernel_rfl) (by kernel_rfl) (fun _ _ _ _ h => h) rfl rfl rfl rfl rfl ?_
 refine TD.takeNot (i := 17) (b := false) rfl (by kernel_rfl) (by kernel_rfl) (by kernel_rfl) (fun _ _ _ _ h => h) rfl rfl rfl rfl rfl ?_
 refine TD.takeNot (i := 18) (b := false) rfl (by kernel_rfl) (by kernel_rfl) (by kernel_rfl) (fun _ _ _ _ h => h) rfl rfl rfl rfl rfl ?_
 refine TD.takeNot (i := 19) (b := false) rfl (by kernel_rfl) (by kernel_rfl) (by kernel_rfl) (fun _ _ _ _ h => h) rfl rfl rfl rfl rfl ?_
 refine TD.takeNot (i := 20) (b := false) rfl (by kernel_rfl) (by kernel_rfl) (by kernel_rfl) (fun _ _ _ _ h => h) rfl rfl rfl rfl rfl ?_
 refine TD.takeNot (i := 21) (b := false) rfl (by kernel_rfl) (by kernel_rfl) (by kernel_rfl) (fun _ _ _ _ h => h) rfl rfl rfl rfl rfl ?_
 refine TD.takeNot (i := 22) (b := false) rfl (by kernel_rfl) (by kernel_rfl) (by kernel_rfl) (fun _ _ _ _ h => h) rfl rfl rfl rfl rfl ?_
 refine TD.takeNot (i := 23) (b := false) rfl (by kernel_rfl) (by kernel_rfl) (by kernel_rfl) (fun _ _ _ _ h => h) rfl rfl rfl rfl rfl ?_
 refine TD.takeNot (i := 24) (b := false) rfl (by kernel_rfl) (by kernel_rfl) (by kernel_rfl) (fun _ _ _ _ h => h) rfl rfl rfl rfl rfl ?_
 refine TD.takeNot (i := 25) (b := false) rfl (by kernel_rfl) (by kernel_rfl) (by kernel_rfl) (fun _ _ _ _ h => h) rfl rfl rfl rfl rfl ?_
 refine ta 26 rfl (PV.pick rfl rfl rfl) ?_
 refine ta 27 rfl (PV.assign rfl rfl) ?_
 refine TD.done (by kernel_rfl) ?_
 refine TE.next J2 ?_
 clear J2
 refine TC.ret ?_
 refine TE.weak (Sub.refl _) (fun _ s => sep_keep [1] rfl s) ?_
 refine TE.ret1 rfl rfl ?_
 exact ⟨by simp [mirTakes, mirSealed, mirRow, *], rfl⟩
 refine tb 9 rfl (PV.not (r := true) rfl rfl rfl) ?_
 refine ta 10 rfl (PV.pick rfl rfl rfl) ?_
 refine ta 11 rfl (PV.move rfl rfl) ?_
 refine tb 12 rfl (PV.loadN (vs := ints x.flat) rfl Tryz.underlying48 rfl sz48 rfl (fun _ h => h.2.2.1) (RowT.len x) (whole (RowT.len x))) ?_
 refine TD.all [13] (by kernel_rfl) rfl ?_
 refine AllT.cons rfl ?_ ?_
 refine TL.callR (A := []) (Want.met rfl rfl rfl) rfl rfl rfl nm33 rfl (rowRight_does x hx) (fun _ s => s) (fun _ _ _ => trivial) (fun vR HR hR => ?_)
 obtain ⟨rfl, rfl⟩ := hR
 change TL _ _ _ _ _ _ _ _ _ [blkA b5 (ints x.flat) 48, blkA b (cs M) T]
 refine TL.decB (fun h20 => ?_) (fun h20 => ?_)
 refine TL.nil ?_
 refine TE.draw (fun _ s => ⟨Frm.of s, s.block 1 (lb rfl) rfl, s.block 0 (lb rfl) rfl, trivial⟩) ?_
 refine ta 14 rfl (PV.pick rfl rfl rfl) ?_
 refine ta 15 rfl (PV.move rfl rfl) ?_
 refine tb 16 rfl (PV.fieldAddr (r := 0) rfl Tryz.underlying48 rfl sz3 rfl rfl) ?_
 refine tb 17 rfl (PV.load1 (v := (.int .i64 (x.version))) rfl Tryz.underlying3 rfl rfl (fun _ h => h.2.2.1) (RowT.at_version x rfl)) ?_
 refine tb 18 rfl (PV.move rfl rfl) ?_
 refine tb 19 rfl (PV.move rfl rfl) ?_
 refine tb 20 rfl (PV.nilCheck rfl rfl) ?_
 refine tb 21 rfl (PV.fieldAddr (r := off) rfl Tryz.underlying77 rfl sz69 rfl rfl) ?_
 refine tb 22 rfl (PV.indexArr (r := off + who.toNat * 174) rfl Tryz.underlying69 sz48 rfl rfl (by omega) (by omega) (by omega)) ?_
 refine tb 23 rfl (PV.fieldAddr (r := off + who.toNat * 174) rfl Tryz.underlying48 rfl sz3 rfl rfl) ?_
 refine tb 24 rfl (PV.load1 (v := (.int .i64 ((M.rows[who.toNat]'(by omega)).version))) rfl Tryz.underlying3 rfl rfl (fun _ h => h.2.1) (Arnd.at hA (j := who.toNat * 174) (by omega) (by have h0 := (MirT.len M); omega) (MirT.pt_rows M (who.toNat * 174) (by omega) (by omega) (vs_pt RowT.flat_length M.rows (i := who.toNat) 0 (by omega) (by omega) (by decide) (RowT.at_version (M.rows[who.toNat]'(by omega)) rfl))))) ?_
 refine tb 25 rfl (PV.gtr rfl rfl rfl) ?_
 refine ta 26 rfl (PV.pick rfl rfl rfl) ?_
 refine ta 27 rfl (PV.assign rfl rfl) ?_
 refine TD.done (by kernel_rfl) ?_
 refine TE.next J2 ?_
 clear J2
 refine TC.ret ?_
 refine TE.weak (Sub.refl _) (fun _ s => sep_keep [1] rfl s) ?_
 refine TE.ret1 rfl rfl ?_
 exact ⟨by simp [mirTakes, mirSealed, mirRow, *], rfl⟩
 refine TL.nil ?_
 refine TE.draw (fun _ s => ⟨Frm.of s, s.block 1 (lb rfl) rfl, s.block 0 (lb rfl) rfl, trivial⟩) ?_
 refine ta 14 rfl (PV.pick rfl rfl rfl) ?_
 refine ta 15 rfl (PV.move rfl rfl) ?_
 refine TD.takeNot (i := 16) (b := false) rfl (by kernel_rfl) (by kernel_rfl) (by kernel_rfl) (fun _ _ _ _ h => h) rfl rfl rfl rfl rfl ?_
 refine TD.takeNot (i := 17) (b := false) rfl (by kernel_rfl) (by kernel_rfl) (by kernel_rfl) (fun _ _ _ _ h => h) rfl rfl rfl rfl rfl ?_
 refine TD.takeNot (i := 18) (b := false) rfl (by kernel_rfl) (by kernel_rfl) (by kernel_rfl) (fun _ _ _ _ h => h) rfl rfl rfl rfl rfl ?_
 refine TD.takeNot (i := 19) (b := false) rfl (by kernel_rfl) (by kernel_rfl) (by kernel_rfl) (fun _ _ _ _ h => h) rfl rfl rfl rfl rfl ?_
 refine TD.takeNot (i := 20) (b := false) rfl (by kernel_rfl) (by kernel_rfl) (by kernel_rfl) (fun _ _ _ _ h => h) rfl rfl rfl rfl rfl ?_
 refine TD.takeNot (i := 21) (b := false) rfl (by kernel_rfl) (by kernel_rfl) (by kernel_rfl) (fun _ _ _ _ h => h) rfl rfl rfl rfl rfl ?_
 refine TD.takeNot (i := 22) (b := false) rfl (by kernel_rfl) (by kernel_rfl) (by kernel_rfl) (fun _ _ _ _ h => h) rfl rfl rfl rfl rfl ?_
 refine TD.takeNot (i := 23) (b := false) rfl (by kernel_rfl) (by kernel_rfl) (by kernel_rfl) (fun _ _ _ _ h => h) rfl rfl rfl rfl rfl ?_
 refine TD.takeNot (i := 24) (b := false) rfl (by kernel_rfl) (by kernel_rfl) (by kernel_rfl) (fun _ _ _ _ h => h) rfl rfl rfl rfl rfl ?_
 refine TD.takeNot (i := 25) (b := false) rfl (by kernel_rfl) (by kernel_rfl) (by kernel_rfl) (fun _ _ _ _ h => h) rfl rfl rfl rfl rfl ?_
 refine ta 26 rfl (PV.pick rfl rfl rfl) ?_
 refine ta 27 rfl (PV.assign rfl rfl) ?_
 refine TD.done (by kernel_rfl) ?_
 refine TE.next J2 ?_
 clear J2
 refine TC.ret ?_
 refine TE.weak (Sub.refl _) (fun _ s => sep_keep [1] rfl s) ?_
 refine TE.ret1 rfl rfl ?_
 exact ⟨by simp [mirTakes, mirSealed, mirRow, *], rfl⟩
 exact AllT.nil
 refine TL.nil ?_
 refine TE.draw (fun _ s => ⟨Frm.of s, s.block 1 (lb rfl) rfl, s.block 0 (lb rfl) rfl, trivial⟩) ?_
 refine ta 2 rfl (PV.move rfl rfl) ?_
 refine TD.takeNot (i := 3) (b := false) rfl (by kernel_rfl) (by kernel_rfl) (by kernel_rfl) (fun _ _ _ _ h => h) rfl rfl rfl rfl rfl ?_
 refine TD.takeNot (i := 4) (b := false) rfl (by kernel_rfl) (by kernel_rfl) (by kernel_rfl) (fun _ _ _ _ h => h) rfl rfl rfl rfl rfl ?_
 refine TD.takeNot (i := 5) (b := false) rfl (by kernel_rfl) (by kernel_rfl) (by kernel_rfl) (fun _ _ _ _ h => h) rfl rfl rfl rfl rfl ?_
 refine TD.takeNot (i := 6) (b := false) rfl (by kernel_rfl) (by kernel_rfl) (by kernel_rfl) (fun _ _ _ _ h => h) rfl rfl rfl rfl rfl ?_
 refine TD.takeNot (i := 7) (b := false) rfl (by kernel_rfl) (by kernel_rfl) (by kernel_rfl) (fun _ _ _ _ h => h) rfl rfl rfl rfl rfl ?_
 refine TD.takeNot (i := 8) (b := false) rfl (by kernel_rfl) (by kernel_rfl) (by kernel_rfl) (fun _ _ _ _ h => h) rfl rfl rfl rfl rfl ?_
 refine TD.takeNot (i := 9) (b := false) rfl (by kernel_rfl) (by kernel_rfl) (by kernel_rfl) (fun _ _ _ _ h => h) rfl rfl rfl rfl rfl ?_
 refine ta 10 rfl (PV.pick rfl rfl rfl) ?_
 refine ta 11 rfl (PV.move rfl rfl) ?_
 refine TD.takeNot (i := 12) (b := false) rfl (by kernel_rfl) (by kernel_rfl) (by kernel_rfl) (fun _ _ _ _ h => h) rfl rfl rfl rfl rfl ?_
 refine TD.takeNot (i := 13) (b := false) rfl (by kernel_rfl) (by kernel_rfl) (by kernel_rfl) (fun _ _ _ _ h => h) rfl rfl rfl rfl rfl ?_
 refine ta 14 rfl (PV.pick rfl rfl rfl) ?_
 refine ta 15 rfl (PV.move rfl rfl) ?_
 refine TD.takeNot (i := 16) (b := false) rfl (by kernel_rfl) (by kernel_rfl) (by kernel_rfl) (fun _ _ _ _ h => h) rfl rfl rfl rfl rfl ?_
 refine TD.takeNot (i := 17) (b := false) rfl (by kernel_rfl) (by kernel_rfl) (by kernel_rfl) (fun _ _ _ _ h => h) rfl rfl rfl rfl rfl ?_
 refine TD.takeNot (i := 18) (b := false) rfl (by kernel_rfl) (by kernel_rfl) (by kernel_rfl) (fun _ _ _ _ h => h) rfl rfl rfl rfl rfl ?_
 refine TD.takeNot (i := 19) (b := false) rfl (by kernel_rfl) (by kernel_rfl) (by kernel_rfl) (fun _ _ _ _ h => h) rfl rfl rfl rfl rfl ?_
 refine TD.takeNot (i := 20) (b := false) rfl (by kernel_rfl) (by kernel_rfl) (by kernel_rfl) (fun _ _ _ _ h => h) rfl rfl rfl rfl rfl ?_
 refine TD.takeNot (i := 21) (b := false) rfl (by kernel_rfl) (by kernel_rfl) (by kernel_rfl) (fun _ _ _ _ h => h) rfl rfl rfl rfl rfl ?_
 refine TD.takeNot (i := 22) (b := false) rfl (by kernel_rfl) (by kernel_rfl) (by kernel_rfl) (fun _ _ _ _ h => h) rfl rfl rfl rfl rfl ?_
 refine TD.takeNot (i := 23) (b := false) rfl (by kernel_rfl) (by kernel_rfl) (by kernel_rfl) (fun _ _ _ _ h => h) rfl rfl rfl rfl rfl ?_
 refine TD.takeNot (i := 24) (b := false) rfl (by kernel_rfl) (by kernel_rfl) (by kernel_rfl) (fun _ _ _ _ h => h) rfl rfl rfl rfl rfl ?_
 refine TD.takeNot (i := 25) (b := false) rfl (by kernel_rfl) (by kernel_rfl) (by kernel_rfl) (fun _ _ _ _ h => h) rfl rfl rfl rfl rfl ?_
 refine ta 26 rfl (PV.pick rfl rfl rfl) ?_
 refine ta 27 rfl (PV.assign rfl rfl) ?_
 refine TD.done (by kernel_rfl) ?_
 refine TE.next J2 ?_
 clear J2
 refine TC.ret ?_
 refine TE.weak (Sub.refl _) (fun _ s => sep_keep [1] rfl s) ?_
 refine TE.ret1 rfl rfl ?_
 exact ⟨by simp [mirTakes, mirSealed, mirRow, *], rfl⟩
 exact AllT.nil
theorem mirKeep_does (b off T : Nat) (cs : MirT → List Value) (hA : Arnd cs MirT.cells off) (M : MirT) (who : Int) (x : RowT) (hx : WF x.flat) :
    Does Tryz.prog 28 #[(.pointer (some ⟨b, off, none⟩)), (.int .i64 (who)), (.agg (ints x.flat).toArray)] (fun _ => True) [blkA b (cs M) T] (Ret (fun r' H => r' = .bool (mirKeep M who x).2 ∧ H = [blkA b (cs (mirKeep M who x).1) T])) := by
 refine Does.body (vs := [(.pointer (some ⟨b, off, none⟩)), (.int .i64 (who)), (.agg (ints x.flat).toArray)]) (n := 18) Tryz.func28 rfl rfl rfl (fun w0 F hF => ?_)
 refine sr fun _ J1 => ?_
 refine TL.box (Want.plain rfl) rfl rfl rfl rfl (fun b5 => ?_)
 change TL _ _ _ _ _ _ _ _ _ [blkA b5 (ints x.flat) 48, blkA b (cs M) T]
 refine sg' ?_
 refine nx J1 ?_
 refine TC.seq fun _ J2 => ?_
 refine sr fun _ J3 => ?_
 refine mv ?_
 refine mv ?_
 refine tp (PV.loadN (vs := ints x.flat) rfl Tryz.underlying48 rfl sz48 rfl (Rd.own 0 rfl rfl) (RowT.len x) (whole (RowT.len x))) ?_
 refine TL.callR (A := [blkA b (cs M) T]) (Want.plain rfl) rfl rfl rfl nm56 rfl (mirTakes_does b off T cs hA M who x hx) (fun _ s => sep_selR [1] rfl s) (fun _ _ _ => trivial) (fun vR HR hR => ?_)
 obtain ⟨rfl, rfl⟩ := hR
 change TL _ _ _ _ _ _ _ _ _ [blkA b (cs M) T, blkA b5 (ints x.flat) 48]
 refine TL.decB (fun h10 => ?_) (fun h10 => ?_)
 have hm0 : machB who = true := by have := h10; simp only [mirTakes, Bool.and_eq_true] at this; exact this.1.1.1
 have hm : 0 ≤ who ∧ who < 5 := of_decide_eq_true hm0
 refine tp (PV.not (r := false) rfl rfl rfl) ?_
 refine nx J3 ?_
 refine TC.no rfl ?_
 refine TC.skip ?_
 refine TE.next J2 ?_
 refine TC.seq fun _ J4 => ?_
 refine TC.draw (fun w => Frm F w ∧ w.heap[b5]? = some (.cells (ints x.flat).toArray 48 (0, 0)) ∧ True) mixed rfl (fun _ s => ⟨Frm.of s, s.block 1 (lb rfl) rfl, trivial⟩) ?_
 refine ta 0 rfl (PV.move rfl rfl) ?_
 refine ta 1 rfl (PV.move rfl rfl) ?_
 refine ta 2 rfl (PV.loadN (vs := ints x.flat) rfl Tryz.underlying48 rfl sz48 rfl (fun _ h => h.2.1) (RowT.len x) (whole (RowT.len x))) ?_
 refine ta 3 rfl (PV.nilCheck rfl rfl) ?_
 refine ta 4 rfl (PV.fieldAddr (r := off) rfl Tryz.underlying77 rfl sz69 rfl rfl) ?_
 refine ta 5 rfl (PV.indexArr (r := off + who.toNat * 174) rfl Tryz.underlying69 sz48 rfl rfl (by omega) (by omega) (by omega)) ?_
 refine TD.all [6] (by kernel_rfl) rfl ?_
 refine AllT.cons rfl ?_ ?_
 refine TL.store (vs := ints x.flat) (i := 0) (H' := [blkA b (cs (MirT.mk (M.rows.set who.toNat x (by omega)) M.sealed)) T, blkA b5 (ints x.flat) 48]) (Want.plain rfl) rfl rfl rfl rfl rfl (by rw [(RowT.len x)]; exact sz48) (ints_one _) rfl rfl (by have h0 := (MirT.len M); have h2 := Arnd.le hA M; have h1 := (RowT.len x); omega) (Arnd.wr hA (x := M) (x' := (MirT.mk (M.rows.set who.toNat x (by omega)) M.sealed)) (j := who.toNat * 174) (by omega) (by have h0 := (MirT.len M); have h1 := (RowT.len x); omega) (MirT.wr_rows_ M (who.toNat * 174) (by omega) (by have h1 := (RowT.len x); omega) (vs_wr RowT.flat_length M.rows (i := who.toNat) 0 (by omega) (by omega) (by have h1 := (RowT.len x); omega) (wwhole ((RowT.len (M.rows[who.toNat]'(by omega))).trans (RowT.len x).symm))))) rfl ?_
 refine TL.nil ?_
 refine TE.draw (fun _ s => ⟨Frm.of s, s.block 1 (lb rfl) rfl, trivial⟩) ?_
 refine TD.done (by kernel_rfl) ?_
 refine TE.next J4 ?_
 refine sr fun _ J5 => ?_
 refine sg' ?_
 refine nx J5 ?_
 refine TC.ret ?_
 refine TE.weak (Sub.refl _) (fun _ s => sep_keep [0] rfl s) ?_
 refine TE.ret1 rfl rfl ?_
 have e : mirKeep M who x = (mirPut M who x, true) := by rw [mirKeep, if_pos h10]
 exact ⟨by rw [e], by rw [e, mirPut, dif_pos hm0]; rfl⟩
 exact AllT.nil
 refine tp (PV.not (r := true) rfl rfl rfl) ?_
 refine nx J3 ?_
 refine TC.yes rfl ?_
 refine sr fun _ J6 => ?_
 refine sg' ?_
 refine nx J6 ?_
 refine TC.ret ?_
 refine TE.passRet ?_
 refine TE.weak (Sub.refl _) (fun _ s => sep_keep [0] rfl s) ?_
 refine TE.ret1 rfl rfl ?_
 have e : mirKeep M who x = (M, false) := by rw [mirKeep, if_neg (by simp [h10])]
 exact ⟨by rw [e], by rw [e]; rfl⟩
theorem mirSeal_does (b off T : Nat) (cs : MirT → List Value) (hA : Arnd cs MirT.cells off) (M : MirT) (who : Int) :
    Does Tryz.prog 25 #[(.pointer (some ⟨b, off, none⟩)), (.int .i64 (who))] (fun _ => True) [blkA b (cs M) T] (Ret (fun r' H => r' = .tuple #[.agg (ints (mirRow M who).flat).toArray, .bool (machB who)] ∧ H = [blkA b (cs (mirClose M who)) T])) := by
 refine Does.body (vs := [(.pointer (some ⟨b, off, none⟩)), (.int .i64 (who))]) (n := 21) Tryz.func25 rfl rfl rfl (fun w0 F hF => ?_)
 refine sr fun _ J1 => ?_
 refine TL.alloc (Want.plain rfl) rfl rfl rfl z48 (fun b4 => ?_)
 change TL _ _ _ _ _ _ _ _ _ [blkA b4 (ints RowT.zero.flat) 48, blkA b (cs M) T]
 refine sg' ?_
 refine nx J1 ?_
 clear J1
 refine TC.seq fun _ J2 => ?_
 refine sr fun _ J3 => ?_
 refine mv ?_
 refine TL.callR (A := []) (Want.plain rfl) rfl rfl rfl nm55 rfl (mirrorMachine_does who) (fun _ s => s) (fun _ _ _ => trivial) (fun vR HR hR => ?_)
 obtain ⟨rfl, rfl⟩ := hR
 change TL _ _ _ _ _ _ _ _ _ [blkA b4 (ints RowT.zero.flat) 48, blkA b (cs M) T]
 refine TL.decB (fun h7 => ?_) (fun h7 => ?_)
 have hm : 0 ≤ who ∧ who < 5 := of_decide_eq_true h7
 refine tp (PV.not (r := false) rfl rfl rfl) ?_
 refine nx J3 ?_
 clear J3
 refine TC.no rfl ?_
 refine TC.skip ?_
 refine TE.next J2 ?_
 clear J2
 refine sr fun _ J4 => ?_
 refine mv ?_
 refine mv ?_
 refine tp (PV.nilCheck rfl rfl) ?_
 refine tp (PV.fieldAddr (r := off + 870) rfl Tryz.underlying77 rfl sz75 rfl rfl) ?_
 refine tp (PV.indexArr (r := off + 870 + who.toNat) rfl Tryz.underlying75 sz4 rfl rfl (by omega) (by omega) (by omega)) ?_
 refine TL.store1 (i := 1) (H' := [blkA b4 (ints RowT.zero.flat) 48, blkA b (cs (MirT.mk M.rows (M.sealed.set who.toNat true (by omega)))) T]) (Want.plain rfl) rfl rfl rfl rfl rfl sz4 rfl rfl (by have h0 := (MirT.len M); have h2 := Arnd.le hA M; omega) (Arnd.set hA (x := M) (x' := (MirT.mk M.rows (M.sealed.set who.toNat true (by omega)))) (j := 870 + who.toNat) (by omega) (by have h0 := (MirT.len M); omega) (MirT.st_sealed M (who.toNat) (by omega) (by omega) (vb_st M.sealed (by omega) _))) rfl ?_
 refine nx J4 ?_
 clear J4
 refine sr fun _ J5 => ?_
 refine mv ?_
 refine mv ?_
 refine tp (PV.nilCheck rfl rfl) ?_
 refine tp (PV.fieldAddr (r := off) rfl Tryz.underlying77 rfl sz69 rfl rfl) ?_
 refine tp (PV.indexArr (r := off + who.toNat * 174) rfl Tryz.underlying69 sz48 rfl rfl (by omega) (by omega) (by omega)) ?_
 refine tp (PV.loadN (vs := ints (M.rows[who.toNat]'(by omega)).flat) rfl Tryz.underlying48 rfl sz48 rfl (Rd.own 1 rfl rfl) (RowT.len (M.rows[who.toNat]'(by omega))) (Arnd.sub hA (j := who.toNat * 174) (by omega) (by have h0 := (MirT.len (MirT.mk M.rows (M.sealed.set who.toNat true (by omega)))); omega) (MirT.sub_rows (MirT.mk M.rows (M.sealed.set who.toNat true (by omega))) (who.toNat * 174) (by omega) (by omega) (vs_sub RowT.flat_length M.rows (i := who.toNat) 0 (by omega) (by omega) (by decide) (whole (RowT.len (M.rows[who.toNat]'(by omega)))))))) ?_
 refine TL.store (vs := ints (M.rows[who.toNat]'(by omega)).flat) (i := 0) (H' := [blkA b4 (ints (M.rows[who.toNat]'(by omega)).flat) 48, blkA b (cs (MirT.mk M.rows (M.sealed.set who.toNat true (by omega)))) T]) (Want.plain rfl) rfl rfl rfl rfl rfl (by rw [(RowT.len (M.rows[who.toNat]'(by omega)))]; exact sz48) (ints_one _) rfl rfl (by have h0 := (RowT.len RowT.zero); have h1 := (RowT.len (M.rows[who.toNat]'(by omega))); omega) (wwhole ((RowT.len RowT.zero).trans (RowT.len (M.rows[who.toNat]'(by omega))).symm)) rfl ?_
 refine sg' ?_
 refine nx J5 ?_
 clear J5
 refine TC.ret ?_
 refine TE.retCT (H' := [blkA b (cs (MirT.mk M.rows (M.sealed.set who.toNat true (by omega)))) T]) rfl rfl rfl Tryz.underlying48 rfl sz48 (Rd.own 0 rfl rfl) (RowT.len (M.rows[who.toNat]'(by omega))) (fun _ s => sep_keep [1] rfl s) ?_
 exact ⟨by simp [mirRow, *], by simp [mirClose, *]⟩
 refine tp (PV.not (r := true) rfl rfl rfl) ?_
 refine nx J3 ?_
 clear J3
 refine TC.yes rfl ?_
 refine sr fun _ J6 => ?_
 refine tp (PV.build (cells := (ints RowT.zero.flat).toArray) rfl rfl (by as_aux_lemma => kernel_rfl)) ?_
 refine TL.store (vs := ints RowT.zero.flat) (i := 0) (H' := [blkA b4 (ints RowT.zero.flat) 48, blkA b (cs M) T]) (Want.plain rfl) rfl rfl rfl rfl rfl (by rw [(RowT.len RowT.zero)]; exact sz48) (ints_one _) rfl rfl (by have h0 := (RowT.len RowT.zero); have h1 := (RowT.len RowT.zero); omega) (wwhole ((RowT.len RowT.zero).trans (RowT.len RowT.zero).symm)) rfl ?_
 refine sg' ?_
 refine nx J6 ?_
 clear J6
 refine TC.ret ?_
 refine TE.passRet ?_
 clear J2
 refine TE.retCT (H' := [blkA b (cs M) T]) rfl rfl rfl Tryz.underlying48 rfl sz48 (Rd.own 0 rfl rfl) (RowT.len RowT.zero) (fun _ s => sep_keep [1] rfl s) ?_
 exact ⟨by simp [mirRow, *], by simp [mirClose, *]⟩
end Go.Proofs.YtfceaphohlbnbaaGreat
end

section
namespace Api
open Go Leg Codec

def kRow (k : Int) : Bool := decide (k = 0 ∨ k = 2 ∨ k = 9)
def kAsk (k : Int) : Bool := decide (k = 3 ∨ k = 6)
def readMsgP : Ps (MsgT × Bool) := pb (smallP 10) fun k =>
  if kRow k then pb (smallP 5) fun w => pb rowP fun x => pr (⟨k, w, x, 0, 0, .zero, .zero, .zero, .zero⟩, rightR x)
  else if k = 1 then pb numP fun n => pr (⟨k, 0, .zero, n, 0, .zero, .zero, .zero, .zero⟩, true)
  else if kAsk k then pb numP fun n => pb ballotP fun b => pr (⟨k, 0, .zero, 0, n, b, .zero, .zero, .zero⟩, true)
  else if k = 4 then pb numP fun n => pb ballotP fun b => pb ballotP fun d => pb changeP fun c => pr (⟨k, 0, .zero, 0, n, b, d, c, .zero⟩, true)
  else if k = 5 then pb numP fun n => pb ballotP fun b => pb changeP fun c => pr (⟨k, 0, .zero, 0, n, b, .zero, c, .zero⟩, true)
  else if k = 7 then pb viewP fun v => pr (⟨k, 0, .zero, 0, 0, .zero, .zero, .zero, v⟩, rightV v)
  else if k = 8 then pb (smallP 5) fun w => pb viewP fun v => pr (⟨k, w, .zero, 0, 0, .zero, .zero, .zero, v⟩, rightV v)
  else pr (⟨k, 0, .zero, 0, 0, .zero, .zero, .zero, .zero⟩, true)
def readRecP : Ps (RecT × Bool) := pb (smallP 6) fun k =>
  if k = 0 then pb rowP fun x => pr (⟨k, 0, x, 0, .zero, .zero, .zero⟩, rightR x)
  else if k = 1 then pb (smallP 5) fun w => pb rowP fun x => pr (⟨k, w, x, 0, .zero, .zero, .zero⟩, rightR x)
  else if k = 2 then pb (smallP 5) fun w => pr (⟨k, w, .zero, 0, .zero, .zero, .zero⟩, true)
  else if k = 3 then pb numP fun n => pb ballotP fun b => pr (⟨k, 0, .zero, n, b, .zero, .zero⟩, true)
  else if k = 4 then pb numP fun n => pb ballotP fun b => pb changeP fun c => pr (⟨k, 0, .zero, n, b, c, .zero⟩, true)
  else if k = 5 then pb viewP fun v => pr (⟨k, 0, .zero, 0, .zero, .zero, v⟩, rightV v)
  else pr (⟨k, 0, .zero, 0, .zero, .zero, .zero⟩, true)
def decR (bs : List UInt8) : RecT × Int := match readRecP bs with
  | some ((m, true), []) => (m, 0)
  | _ => (.zero, 1)
def encR (m : RecT) : List UInt8 :=
  if m.kind = 0 then encs [m.kind] ++ encRow m.row
  else if m.kind = 1 then encs [m.kind, m.whose] ++ encRow m.row
  else if m.kind = 2 then encs [m.kind, m.whose]
  else if m.kind = 3 then encs [m.kind, m.epoch] ++ encs m.ballot.flat
  else if m.kind = 4 then encs [m.kind, m.epoch] ++ encs m.ballot.flat ++ encs m.change.flat
  else if m.kind = 5 then encs [m.kind] ++ encs m.view.flat
  else []
theorem view_rng {v : ViewT} {bs r : List UInt8} (h : viewP bs = some (v, r)) : Rng v := fun i hi => by
  have := (view_spec h).1.2.2 i hi
  exact ⟨this.1, by omega⟩
theorem row_wf {x : RowT} {bs r : List UInt8} (h : rowP bs = some (x, r)) : WF x.flat := (row_spec h).1.wf
end Api
end

section
namespace Api
open Go Leg Codec

def Nm (n : Int) : Prop := 0 ≤ n ∧ n < 9223372036854775808
def OkB (b : BallotT) : Prop := Nm b.round ∧ 0 ≤ b.who ∧ b.who < 5
def OkC (c : ChangeT) : Prop := (0 ≤ c.kind ∧ c.kind < 2) ∧ (0 ≤ c.who ∧ c.who < 5) ∧ (0 ≤ c.heir ∧ c.heir < 5)
def OkV (v : ViewT) : Prop := Nm v.epoch ∧ (0 ≤ v.members ∧ v.members < 32) ∧ ∀ (i : Nat) (h : i < 5), 0 ≤ v.heirs[i] ∧ v.heirs[i] < 6
theorem ballot_enc {b : BallotT} (h : OkB b) (r : List UInt8) : ballotP (encs b.flat ++ r) = some (b, r) := by
  obtain ⟨a, c⟩ := b
  obtain ⟨h1, h2, h3⟩ := h
  replace h3 : c < 5 := h3
  simp only [BallotT.flat, encs_cons, encs_nil, List.append_assoc, List.nil_append, ballotP]
  rw [pb_some (numP_encN h1.1 h1.2 _), pb_some (smallP_enc (n := c) h2 h3 (by omega) _)]; rfl
theorem change_enc {c : ChangeT} (h : OkC c) (r : List UInt8) : changeP (encs c.flat ++ r) = some (c, r) := by
  obtain ⟨a, b, d⟩ := c
  obtain ⟨⟨h1, h2⟩, ⟨h3, h4⟩, h5, h6⟩ := h
  simp only at h1 h2 h3 h4 h5 h6
  simp only [ChangeT.flat, encs_cons, encs_nil, List.append_assoc, List.nil_append, changeP]
  rw [pb_some (smallP_enc h1 h2 (by omega) _), pb_some (smallP_enc h3 h4 (by omega) _), pb_some (smallP_enc h5 h6 (by omega) _)]; rfl
theorem view_enc {v : ViewT} (h : OkV v) (r : List UInt8) : viewP (encs v.flat ++ r) = some (v, r) := by
  obtain ⟨i, o, g⟩ := v
  obtain ⟨h1, ⟨h2, h3⟩, h4⟩ := h
  replace h2 : 0 ≤ o := h2
  replace h3 : o < 32 := h3
  revert h4
  refine vec5 (p := fun g => (∀ (i_1 : Nat) (h : i_1 < 5), 0 ≤ g[i_1] ∧ g[i_1] < 6) → viewP (encs (ViewT.flat ⟨i, o, g⟩) ++ r) = some (⟨i, o, g⟩, r)) (fun a b c d e h4 => ?_) g
  have e0 := h4 0 (by omega)
  have e1 := h4 1 (by omega)
  have e2 := h4 2 (by omega)
  have e3 := h4 3 (by omega)
  have e4 := h4 4 (by omega)
  have s := fun n (h : 0 ≤ n ∧ n < 6) r => smallP_enc (n := n) (lim := 6) h.1 h.2 (by omega) r
  simp only [ViewT.flat, Vector.toList_mk, encs_cons, encs_nil, List.append_assoc, List.nil_append, viewP]
  rw [pb_some (numP_encN h1.1 h1.2 _), pb_some (smallP_enc h2 h3 (by omega) _), pb_some (s a e0 _), pb_some (s b e1 _), pb_some (s c e2 _), pb_some (s d e3 _), pb_some (s e e4 _)]; rfl
structure OkM (m : MsgT) : Prop where
  kind : 0 ≤ m.kind ∧ m.kind < 10
  whose : 0 ≤ m.whose ∧ m.whose < 5
  row : TameR m.row
  version : Nm m.version
  epoch : Nm m.epoch
  ballot : OkB m.ballot
  had : OkB m.had
  change : OkC m.change
  view : OkV m.view
theorem heir_z (i : Nat) (hi : i < 5) : RowT.zero.heir[i] = 0 := by match i, hi with | 0, _ | 1, _ | 2, _ | 3, _ | 4, _ => rfl
theorem cell_z (k : Nat) (hk : k < 4) : RowT.zero.cells[k] = CellT.zero := by match k, hk with | 0, _ | 1, _ | 2, _ | 3, _ => rfl
theorem left_z (i : Nat) (hi : i < 5) : RowT.zero.left[i] = RowT.zero.cells := by match i, hi with | 0, _ | 1, _ | 2, _ | 3, _ | 4, _ => rfl
theorem tame_rzero : TameR RowT.zero := ⟨⟨by decide, by decide⟩, fun k hk => by rw [cell_z k hk]; exact tame_zero, fun i hi => by rw [heir_z i hi]; decide, fun i k hi hk => by rw [show RowT.zero.left[i][k] = RowT.zero.cells[k] from by rw [left_z i hi], cell_z k hk]; exact tame_zero, fun i hi _ => by rw [left_z i hi, left_z 0 (by decide)]⟩
theorem Ext.if {α : Type} {c : Prop} [Decidable c] {p q : Ps α} (hp : Ext p) (hq : Ext q) : Ext (if c then p else q) := by split <;> assumption
theorem Ext.change : Ext changeP := (Ext.small _).pb fun _ => (Ext.small _).pb fun _ => (Ext.small _).pb fun _ => Ext.pr _
theorem Ext.ballot : Ext ballotP := Ext.num.pb fun _ => (Ext.small _).pb fun _ => Ext.pr _
theorem Ext.view : Ext viewP := Ext.num.pb fun _ => (Ext.small _).pb fun _ => (Ext.small _).pb fun _ => (Ext.small _).pb fun _ => (Ext.small _).pb fun _ => (Ext.small _).pb fun _ => (Ext.small _).pb fun _ => Ext.pr _
theorem Ext.msg : Ext readMsgP := (Ext.small _).pb fun k => Ext.if ((Ext.small _).pb fun _ => Ext.row.pb fun _ => Ext.pr _) (Ext.if (Ext.num.pb fun _ => Ext.pr _) (Ext.if (Ext.num.pb fun _ => Ext.ballot.pb fun _ => Ext.pr _)
  (Ext.if (Ext.num.pb fun _ => Ext.ballot.pb fun _ => Ext.ballot.pb fun _ => Ext.change.pb fun _ => Ext.pr _) (Ext.if (Ext.num.pb fun _ => Ext.ballot.pb fun _ => Ext.change.pb fun _ => Ext.pr _) (Ext.if (Ext.view.pb fun _ => Ext.pr _) (Ext.if ((Ext.small _).pb fun _ => Ext.view.pb fun _ => Ext.pr _) (Ext.pr _)))))))
def normR (m : RecT) : RecT :=
  if m.kind = 0 then ⟨m.kind, 0, m.row, 0, .zero, .zero, .zero⟩
  else if m.kind = 1 then ⟨m.kind, m.whose, m.row, 0, .zero, .zero, .zero⟩
  else if m.kind = 2 then ⟨m.kind, m.whose, .zero, 0, .zero, .zero, .zero⟩
  else if m.kind = 3 then ⟨m.kind, 0, .zero, m.epoch, m.ballot, .zero, .zero⟩
  else if m.kind = 4 then ⟨m.kind, 0, .zero, m.epoch, m.ballot, m.change, .zero⟩
  else ⟨m.kind, 0, .zero, 0, .zero, .zero, m.view⟩
def okRc (m : RecT) : Bool := if m.kind = 0 ∨ m.kind = 1 then rightR m.row else if m.kind = 5 then rightV m.view else true
structure OkRc (m : RecT) : Prop where
  kind : 0 ≤ m.kind ∧ m.kind < 6
  whose : 0 ≤ m.whose ∧ m.whose < 5
  row : TameR m.row
  epoch : Nm m.epoch
  ballot : OkB m.ballot
  change : OkC m.change
  view : OkV m.view
theorem rec_enc {m : RecT} (h : OkRc m) (r : List UInt8) : readRecP (encR m ++ r) = some ((normR m, okRc m), r) := by
  have hk := h.kind
  have kk := fun r => smallP_enc hk.1 hk.2 (show m.kind < 9223372036854775808 by omega) r
  have kw := fun r => smallP_enc h.whose.1 h.whose.2 (show m.whose < 9223372036854775808 by have := h.whose; omega) r
  have ke := fun r => numP_encN h.epoch.1 h.epoch.2 r
  unfold readRecP encR normR okRc
  by_cases c0 : m.kind = 0
  · have q : m.kind = 0 ∨ m.kind = 1 := .inl c0
    simp only [if_pos c0, if_pos q, encs_cons, encs_nil, List.append_assoc, List.nil_append]
    rw [pb_some (kk _)]; simp only [if_pos c0]; rw [pb_some (rowP_enc h.row _)]; rfl
  simp only [if_neg c0]
  by_cases c1 : m.kind = 1
  · have q : m.kind = 0 ∨ m.kind = 1 := .inr c1
    simp only [if_pos c1, if_pos q, encs_cons, encs_nil, List.append_assoc, List.nil_append]
    rw [pb_some (kk _)]; simp only [if_neg c0, if_pos c1]; rw [pb_some (kw _), pb_some (rowP_enc h.row _)]; rfl
  have q : ¬ (m.kind = 0 ∨ m.kind = 1) := by omega
  simp only [if_neg c1, if_neg q]
  by_cases c2 : m.kind = 2
  · have q : ¬ m.kind = 5 := by omega
    simp only [if_pos c2, if_neg q, encs_cons, encs_nil, List.append_assoc, List.nil_append]
    rw [pb_some (kk _)]; simp only [if_neg c0, if_neg c1, if_pos c2]; rw [pb_some (kw _)]; rfl
  simp only [if_neg c2]
  by_cases c3 : m.kind = 3
  · have q : ¬ m.kind = 5 := by omega
    simp only [if_pos c3, if_neg q, encs_cons, encs_nil, List.append_assoc, List.nil_append]
    rw [pb_some (kk _)]; simp only [if_neg c0, if_neg c1, if_neg c2, if_pos c3]; rw [pb_some (ke _), pb_some (ballot_enc h.ballot _)]; rfl
  simp only [if_neg c3]
  by_cases c4 : m.kind = 4
  · have q : ¬ m.kind = 5 := by omega
    simp only [if_pos c4, if_neg q, encs_cons, encs_nil, List.append_assoc, List.nil_append]
    rw [pb_some (kk _)]; simp only [if_neg c0, if_neg c1, if_neg c2, if_neg c3, if_pos c4]; rw [pb_some (ke _), pb_some (ballot_enc h.ballot _), pb_some (change_enc h.change _)]; rfl
  have c5 : m.kind = 5 := by omega
  simp only [if_neg c4, if_pos c5, encs_cons, encs_nil, List.append_assoc, List.nil_append]
  rw [pb_some (kk _)]; simp only [if_neg c0, if_neg c1, if_neg c2, if_neg c3, if_neg c4, if_pos c5]; rw [pb_some (view_enc h.view _)]; rfl
end Api
end

section
namespace Api
open Go Leg Codec

theorem leaveH_rng {c : ChangeT} {i : Nat} {h : Int} (hh : 0 ≤ h ∧ h ≤ 5) (hc : 0 ≤ c.heir ∧ c.heir < 5) : 0 ≤ leaveH c i h ∧ leaveH c i h ≤ 5 := by
  unfold leaveH; split <;> omega
theorem leaveV_get (v : ViewT) (c : ChangeT) (i : Nat) (h : i < 5) : (leaveV v c)[i] = leaveH c i v.heirs[i] := by simp [leaveV]
theorem Rng.zeros {v : ViewT} (h : v.heirs = #v[0, 0, 0, 0, 0]) : Rng v := fun i hi => by
  have : v.heirs[i] = 0 := by
    rw [show v.heirs[i] = (#v[0, 0, 0, 0, 0] : Vector Int 5)[i] from by rw [h]]
    match i, hi with | 0, _ | 1, _ | 2, _ | 3, _ | 4, _ => rfl
  omega
theorem Rng.zero : Rng ViewT.zero := Rng.zeros rfl
theorem Rng.next {v : ViewT} (h : Rng v) (c : ChangeT) : Rng (nextV v c).1 := by
  unfold nextV
  split
  · exact Rng.zero
  rename_i h1
  have hm : 0 ≤ c.heir ∧ c.heir < 5 := by
    simp only [Bool.or_eq_true, Bool.not_eq_true', not_or, Bool.not_eq_false] at h1
    exact of_decide_eq_true h1.2
  split
  · split
    · exact Rng.zero
    · exact h
  · split
    · split
      · exact Rng.zero
      · exact fun i hi => by show 0 ≤ (leaveV v c)[i] ∧ (leaveV v c)[i] ≤ 5; rw [leaveV_get v c i hi]; exact leaveH_rng (h i hi) hm
    · exact Rng.zero
theorem Rng.first : Rng firstV := Rng.zeros rfl
def stepV (v : ViewT) (c : ChangeT) : ViewT := if (nextV v c).2 = 0 then (nextV v c).1 else v
theorem Rng.step {v : ViewT} (h : Rng v) (c : ChangeT) : Rng (stepV v c) := by unfold stepV; split; exact h.next c; exact h
theorem or_bits : ∀ (m : Fin 32) (w u : Fin 5), bitB (orI .i64 ((m.val : Nat) : Int) (2 ^ w.val)) ((u.val : Nat) : Int) = (bitB ((m.val : Nat) : Int) ((u.val : Nat) : Int) || decide (u = w)) ∧ 0 ≤ orI .i64 ((m.val : Nat) : Int) (2 ^ w.val) ∧ orI .i64 ((m.val : Nat) : Int) (2 ^ w.val) < 32 := by decide +kernel
theorem andNot_bits : ∀ (m : Fin 32) (w u : Fin 5), bitB (andNotI .i64 ((m.val : Nat) : Int) (2 ^ w.val)) ((u.val : Nat) : Int) = (bitB ((m.val : Nat) : Int) ((u.val : Nat) : Int) && decide (u ≠ w)) ∧ 0 ≤ andNotI .i64 ((m.val : Nat) : Int) (2 ^ w.val) ∧ andNotI .i64 ((m.val : Nat) : Int) (2 ^ w.val) < 32 := by decide +kernel
structure GoodV (v : ViewT) : Prop where
  epoch : 1 ≤ v.epoch
  mem : 1 ≤ v.members ∧ v.members < 32
  ok : ∀ (i : Nat) (h : i < 5), okH v v.heirs[i] i = true
  rng : Rng v
theorem GoodV.right {v : ViewT} (h : GoodV v) : rightV v = true := by
  unfold rightV
  rw [Bool.and_eq_true, decide_eq_true_iff, decide_eq_true_iff]
  exact ⟨⟨h.epoch, h.mem⟩, h.ok⟩
theorem GoodV.of {v : ViewT} (h : rightV v = true) (hr : Rng v) : GoodV v := by
  unfold rightV at h
  rw [Bool.and_eq_true, decide_eq_true_iff, decide_eq_true_iff] at h
  exact ⟨h.1.1, h.1.2, h.2, hr⟩
theorem memb_or {v v' : ViewT} {w u : Int} (hm : 0 ≤ v.members ∧ v.members < 32) (hw : 0 ≤ w ∧ w < 5) (e : v'.members = orI .i64 v.members (2 ^ w.toNat)) : memb v' u = (memb v u || (machB u && decide (u = w))) ∧ 0 ≤ v'.members ∧ v'.members < 32 := by
  obtain ⟨m, hm', e1⟩ : ∃ m : Nat, m < 32 ∧ v.members = (m : Int) := ⟨v.members.toNat, by omega, by omega⟩
  have hb := or_bits ⟨m, hm'⟩ ⟨w.toNat, by omega⟩
  simp only at hb
  rw [← e1, ← e] at hb
  refine ⟨?_, (hb ⟨0, by decide⟩).2⟩
  by_cases hu : 0 ≤ u ∧ u < 5
  · have h1 := (hb ⟨u.toNat, by omega⟩).1
    simp only at h1
    rw [show ((u.toNat : Nat) : Int) = u by omega] at h1
    have hmu : machB u = true := decide_eq_true hu
    simp only [memb, hmu, Bool.true_and, h1, Fin.mk.injEq]
    congr 1
    rw [decide_eq_decide]; omega
  · have hmu : machB u = false := decide_eq_false hu
    simp [memb, hmu]
theorem memb_andNot {v v' : ViewT} {w u : Int} (hm : 0 ≤ v.members ∧ v.members < 32) (hw : 0 ≤ w ∧ w < 5) (e : v'.members = andNotI .i64 v.members (2 ^ w.toNat)) : memb v' u = (memb v u && decide (u ≠ w)) ∧ 0 ≤ v'.members ∧ v'.members < 32 := by
  obtain ⟨m, hm', e1⟩ : ∃ m : Nat, m < 32 ∧ v.members = (m : Int) := ⟨v.members.toNat, by omega, by omega⟩
  have hb := andNot_bits ⟨m, hm'⟩ ⟨w.toNat, by omega⟩
  simp only at hb
  rw [← e1, ← e] at hb
  refine ⟨?_, (hb ⟨0, by decide⟩).2⟩
  by_cases hu : 0 ≤ u ∧ u < 5
  · have h1 := (hb ⟨u.toNat, by omega⟩).1
    simp only at h1
    rw [show ((u.toNat : Nat) : Int) = u by omega] at h1
    have hmu : machB u = true := decide_eq_true hu
    simp only [memb, hmu, Bool.true_and, h1, ne_eq, Fin.mk.injEq]
    congr 1
    rw [decide_eq_decide]; omega
  · have hmu : machB u = false := decide_eq_false hu
    simp [memb, hmu]
theorem mem_pos {v : ViewT} {u : Int} (h0 : 0 ≤ v.members) (h : memb v u = true) : 1 ≤ v.members := by
  have hb : bitB v.members u = true := by simp only [memb, Bool.and_eq_true] at h; exact h.2
  have : v.members ≠ 0 := fun e => by
    rw [e] at hb
    have := of_decide_eq_true hb
    rw [Int.zero_fdiv] at this; omega
  omega
theorem GoodV.step {v : ViewT} (g : GoodV v) (he : v.epoch < 9223372036854775807) (c : ChangeT) : GoodV (stepV v c) ∧ v.epoch ≤ (stepV v c).epoch ∧ (stepV v c).epoch ≤ v.epoch + 1 := by
  have hw1 : IntKind.i64.wrap (v.epoch + 1) = v.epoch + 1 := wrap_i64 (by have := g.epoch; omega) (by omega)
  by_cases hz : (nextV v c).2 = 0
  rotate_left
  · rw [stepV, if_neg hz]; exact ⟨g, by omega, by omega⟩
  rw [stepV, if_pos hz]
  have hr := g.rng.next c
  unfold nextV at hz hr ⊢
  split at hz
  · exact absurd hz (by decide)
  rename_i h1
  rw [if_neg h1] at hr ⊢
  have hm : machB c.who = true ∧ machB c.heir = true := by
    simp only [Bool.or_eq_true, Bool.not_eq_true', not_or, Bool.not_eq_false] at h1; exact h1
  have hwho := of_decide_eq_true hm.1
  have hheir := of_decide_eq_true hm.2
  split at hz
  · rename_i h2
    rw [if_pos h2] at hr ⊢
    split at hz
    · exact absurd hz (by decide)
    rename_i h3
    rw [if_neg h3] at hr ⊢
    simp only [Bool.or_eq_true, not_or, Bool.not_eq_true] at h3
    have hb := fun u => memb_or (v := v) (v' := ⟨IntKind.i64.wrap (v.epoch + 1), orI .i64 v.members (2 ^ c.who.toNat), v.heirs⟩) (u := u) ⟨by have := g.mem; omega, g.mem.2⟩ hwho rfl
    have hh0 : ∀ (i : Nat) (h : i < 5), (i : Int) = c.who → v.heirs[i] = 0 := fun i h e => by
      have := h3.1
      rw [heirV, dif_pos hwho] at this
      have e2 : c.who.toNat = i := by omega
      simp only [e2] at this
      have hr := g.rng i h
      split at this
      · omega
      · cases this
    refine ⟨⟨by show 1 ≤ IntKind.i64.wrap (v.epoch + 1); rw [hw1]; have := g.epoch; omega, ⟨mem_pos (u := c.who) (hb 0).2.1 (by rw [(hb c.who).1, hm.1]; simp), (hb 0).2.2⟩, fun i h => ?_, hr⟩, by show v.epoch ≤ IntKind.i64.wrap (v.epoch + 1); rw [hw1]; omega, by show IntKind.i64.wrap (v.epoch + 1) ≤ _; rw [hw1]; omega⟩
    have ho := g.ok i h
    unfold okH at ho ⊢
    rw [Bool.or_eq_true, decide_eq_true_iff, Bool.and_eq_true] at ho ⊢
    rcases ho with ho | ⟨h4, h5⟩
    · exact .inl ho
    · by_cases q : (i : Int) = c.who
      · exact .inl (hh0 i h q)
      · refine .inr ⟨by rw [(hb _).1]; show (memb v (v.heirs[i] - 1) || _) = true; rw [h4]; rfl, ?_⟩
        rw [(hb _).1, decide_eq_false q, Bool.and_false, Bool.or_false]; exact h5
  · rename_i h2
    rw [if_neg h2] at hr ⊢
    split at hz
    rotate_left
    · exact absurd hz (by decide)
    rename_i h3
    rw [if_pos h3] at hr ⊢
    split at hz
    · exact absurd hz (by decide)
    rename_i h4
    rw [if_neg h4] at hr ⊢
    simp only [Bool.or_eq_true, Bool.not_eq_true', not_or, Bool.not_eq_false, decide_eq_true_iff] at h4
    obtain ⟨⟨m1, m2⟩, m3⟩ := h4
    have hb := fun u => memb_andNot (v := v) (v' := ⟨IntKind.i64.wrap (v.epoch + 1), andNotI .i64 v.members (2 ^ c.who.toNat), leaveV v c⟩) (u := u) ⟨by have := g.mem; omega, g.mem.2⟩ hwho rfl
    refine ⟨⟨by show 1 ≤ IntKind.i64.wrap (v.epoch + 1); rw [hw1]; have := g.epoch; omega, ⟨mem_pos (u := c.heir) (hb 0).2.1 (by rw [(hb c.heir).1, m2]; simpa using m3), (hb 0).2.2⟩, fun i h => ?_, hr⟩, by show v.epoch ≤ IntKind.i64.wrap (v.epoch + 1); rw [hw1]; omega, by show IntKind.i64.wrap (v.epoch + 1) ≤ _; rw [hw1]; omega⟩
    have ho := g.ok i h
    show okH _ ((leaveV v c)[i]) i = true
    rw [leaveV_get v c i h]
    unfold okH at ho ⊢
    rw [Bool.or_eq_true, decide_eq_true_iff, Bool.and_eq_true] at ho ⊢
    unfold leaveH
    by_cases q : (i : Int) = c.who ∨ v.heirs[i] = c.who + 1
    · rw [if_pos q]
      refine .inr ⟨by rw [(hb _).1, show c.heir + 1 - 1 = c.heir by omega, m2]; simpa using m3, ?_⟩
      rw [(hb _).1]
      rcases q with q | q
      · rw [q]; simp
      · rcases ho with ho | ⟨_, h5⟩
        · omega
        · rw [Bool.not_eq_true'] at h5; rw [h5]; rfl
    · rw [if_neg q]
      rcases ho with ho | ⟨h5, h6⟩
      · exact .inl ho
      · refine .inr ⟨by rw [(hb _).1, h5]; simp; omega, ?_⟩
        rw [Bool.not_eq_true'] at h6
        rw [(hb _).1, h6]; rfl
theorem GoodV.first : GoodV firstV := ⟨by decide, by decide, fun i h => by match i, h with | 0, _ | 1, _ | 2, _ | 3, _ | 4, _ => rfl, Rng.first⟩
end Api
end

section
namespace Api
open Go Leg Codec

def rowMsg (x : RepT) : MsgT := { MsgT.zero with kind := 0, whose := x.id, row := x.own }
def newsMsg (id : Int) (x : RowT) : MsgT := { MsgT.zero with kind := 2, whose := id, row := x }
def bit0 (k w : Int) : Bool := decide (k.fdiv (2 ^ min w.toNat IntKind.i64.bits) % 2 = 0)
def tellL (x : RepT) : List SaidT := ((witL x.id).filter fun w => bit0 x.kept w).map fun w => ⟨w, rowMsg x⟩
def newsTo (id : Int) (x : RowT) (k : Nat) : List SaidT := ((List.range k).filter fun i : Nat => !decide (((i : Nat) : Int) = id)).map fun i : Nat => ⟨((i : Nat) : Int), newsMsg id x⟩
def newsL (id : Int) (x : RowT) : List SaidT := newsTo id x 5
theorem newsTo_succ (id : Int) (x : RowT) (k : Nat) : newsTo id x (k + 1) = newsTo id x k ++ (if ((k : Nat) : Int) = id then [] else [⟨((k : Nat) : Int), newsMsg id x⟩]) := by
  unfold newsTo
  rw [List.range_succ, List.filter_append, List.map_append]
  by_cases h : ((k : Nat) : Int) = id <;> simp [h]
def Alone (x : RepT) : Prop := Rng x.view ∧ ∀ i : Nat, i < 5 → heirV x.view ((i : Nat) : Int) ≠ some x.id
end Api
namespace Api
open Go Leg Codec
def growOf (x : RepT) (o : OpT) : RowT × Int :=
  if o.kind = 0 then rowInc x.own o.key o.n else if o.kind = 1 then rowDec x.own o.key o.n else if o.kind = 2 then (if o.to' ≠ x.id then rowGive x.own o.key o.n o.to' else (.zero, 5)) else (.zero, 5)
def planF (x : RepT) (o : OpT) : RowT × Int × Int :=
  if memb x.view x.id = false then (.zero, 0, 9) else if keyB o.key = false then (.zero, 0, 5) else if o.kind = 3 then (.zero, bookValue x.book o.key, 0) else if x.busy then (.zero, 0, 8)
  else if (growOf x o).2 ≠ 0 then (.zero, 0, (growOf x o).2) else if o.kind ≠ 0 ∧ bookRights x.book x.id o.key < o.n then (.zero, 0, 7) else ((growOf x o).1, 0, 0)
def rowRec (y : RowT) : RecT := { RecT.zero with kind := 0, row := y }
def growF (x : RepT) (y : RowT) (op : Int) : RepT := { x with own := y, busy := true, kept := 0, waits := op }
end Api
namespace Api
open Go Leg Codec
def enterF (x : RepT) (v : ViewT) : RepT := { x with view := v, acc := { AccT.zero with epoch := v.epoch }, vote := .pointer none, round := 0 }
def newRep (id : Int) (lg : Nat) : RepT := enterF { RepT.zero with id := id, log := .pointer (some ⟨lg, 0, none⟩) } firstV
def opsF (x : RepT) : RepT := { x with ops := w64 (x.ops + 1) }
theorem rowRec_len (y : RowT) : (encR (rowRec y)).length ≤ 1760 := by
  have h1 := encRow_len y
  have h2 := encs_len [(0 : Int)]
  simp only [encR, rowRec, if_true, List.length_append, List.length_cons, List.length_nil] at *
  omega
end Api
namespace Api
open Go Leg Codec
def countF (x : RepT) : RepT := { x with busy := false, book := (bookMerge x.book x.id x.own).1, waits := if x.waits > 0 then 0 else x.waits }
def countR (x : RepT) (rs : List ReplyT) : List ReplyT := if x.waits > 0 then rs ++ [⟨x.waits, 0, 0⟩] else rs
def keptB (x : RepT) (from' ver : Int) : Bool := x.busy && decide (ver = x.own.version) && decide (from' ∈ witL x.id)
def keptX (x : RepT) (from' : Int) : RepT := { x with kept := orI .i64 x.kept (IntKind.i64.wrap (1 * 2 ^ min from'.toNat IntKind.i64.bits)) }
def fullB (x : RepT) : Bool := (witL x.id).all fun w => !bit0 x.kept w
def keptS (x : RepT) (from' ver : Int) : RepT := if keptB x from' ver then (if fullB (keptX x from') then countF (keptX x from') else keptX x from') else x
def keptR (x : RepT) (from' ver : Int) (rs : List ReplyT) : List ReplyT := if keptB x from' ver && fullB (keptX x from') then countR x rs else rs
def keptO (x : RepT) (from' ver : Int) : List SaidT := if keptB x from' ver && fullB (keptX x from') then newsL x.id x.own else []
end Api
namespace Api
open Go Leg Codec
def cN (x : RepT) (o : OpT) : RowT × Int × Int := planF (opsF x) o
def doneB (x : RepT) (o : OpT) : Bool := decide ((cN x o).2.2 ≠ 0 ∨ o.kind = 3)
def clientX (x : RepT) (o : OpT) : RepT := if doneB x o then opsF x else growF (opsF x) (cN x o).1 (opsF x).ops
def clientC (x : RepT) (o : OpT) (recs : List (List UInt8)) : List (List UInt8) := if doneB x o then recs else recs ++ [encR (rowRec (cN x o).1)]
def clientR (x : RepT) (o : OpT) (rs : List ReplyT) : List ReplyT := if doneB x o then rs ++ [ReplyT.mk (opsF x).ops (cN x o).2.2 (cN x o).2.1] else rs
def clientO (x : RepT) (o : OpT) : List SaidT := if doneB x o then [] else tellL (growF (opsF x) (cN x o).1 (opsF x).ops)
theorem alone_first {x : RepT} (h : x.view = firstV) : Alone x := by
  unfold Alone
  rw [h]
  refine ⟨Rng.first, fun i hi => ?_⟩
  match i, hi with
  | 0, _ | 1, _ | 2, _ | 3, _ | 4, _ => exact fun e => nomatch (show (none : Option Int) = some x.id from e)
end Api
namespace Api
open Go Leg Codec
theorem keptS_rep (y : RepT) (v : Value) (w ver : Int) : keptS { y with replies := v } w ver = { keptS y w ver with replies := v } := by
  unfold keptS
  rw [show keptB { y with replies := v } w ver = keptB y w ver from rfl, show fullB (keptX { y with replies := v } w) = fullB (keptX y w) from rfl]
  split
  · split <;> rfl
  · rfl
theorem keptR_rep (y : RepT) (v : Value) (w ver : Int) (rs : List ReplyT) : keptR { y with replies := v } w ver rs = keptR y w ver rs := rfl
theorem keptO_rep (y : RepT) (v : Value) (w ver : Int) : keptO { y with replies := v } w ver = keptO y w ver := rfl
theorem keptS_own (y : RepT) (w ver : Int) : (keptS y w ver).own = y.own ∧ (keptS y w ver).id = y.id ∧ (keptS y w ver).view = y.view ∧ (keptS y w ver).log = y.log ∧ (keptS y w ver).ops = y.ops := by
  unfold keptS
  split
  · split <;> exact ⟨rfl, rfl, rfl, rfl, rfl⟩
  · exact ⟨rfl, rfl, rfl, rfl, rfl⟩
def keepX (x : RepT) (id : Int) : RepT := keptS (keptS x ((id + 1) % 5) x.own.version) ((id + 2) % 5) x.own.version
def keepR (x : RepT) (id : Int) (rs : List ReplyT) : List ReplyT := keptR (keptS x ((id + 1) % 5) x.own.version) ((id + 2) % 5) x.own.version (keptR x ((id + 1) % 5) x.own.version rs)
def keepO (x : RepT) (id : Int) : List SaidT := keptO x ((id + 1) % 5) x.own.version ++ keptO (keptS x ((id + 1) % 5) x.own.version) ((id + 2) % 5) x.own.version
theorem keptO_len (y : RepT) (w ver : Int) : (keptO y w ver).length ≤ 5 := by
  unfold keptO
  split
  · unfold newsL newsTo
    rw [List.length_map]
    exact Nat.le_trans (List.length_filter_le _ _) (by simp)
  · simp
theorem keptR_len (y : RepT) (w ver : Int) (rs : List ReplyT) : (keptR y w ver rs).length ≤ rs.length + 1 := by
  unfold keptR countR
  split
  · split <;> simp
  · simp
end Api
end

section
namespace Leg
open Go Go.ChangeShapes Go.WideShapes Codec Api

section
variable {P : Program} {W : World} {H : Type} {enc : TypeId × Value → H} {B0 : Nat} {spare : Nat → Bool} {held : Bool}
theorem trod_boolL {t : TypeId} {fuel : Nat} {cs : List Value} {x : DataW H × List MemPlace} (ht : P.underlying t = some .bool) (h : DataW.trod enc P W B0 spare held fuel t cs = some x) : ∃ b, cs = [.bool b] := by
  cases fuel with
  | zero => simp [DataW.trod] at h
  | succ n =>
    unfold DataW.trod at h
    rw [ht] at h
    split at h <;> simp_all
theorem Fits.append {a b : List (Option IntKind)} {x y : List Lit} (h : Fits a x) (g : Fits b y) : Fits (a ++ b) (x ++ y) :=
  ⟨by rw [List.map_append, List.map_append, h.1, g.1], fun l hl => (List.mem_append.1 hl).elim (h.2 l) (g.2 l)⟩
theorem fields_in {d : Nat} (ih : ∀ t ks, flatK P d t = some ks → ∀ fuel cs x, DataW.trod enc P W B0 spare held fuel t cs = some x → ∃ ls, Fits ks ls ∧ cs = ls.map cellL) (cs : List Value) (n : Nat) :
    ∀ (fs : List Field) (o : Nat) (ks : List (Option IntKind)), flatKF P (flatK P d) fs o = some ks → cs.length = o + ks.length →
      (∀ f ∈ fs, ∃ y, DataW.trod enc P W B0 spare held n f.type ((cs.drop f.offset).take (P.cellsOf f.type)) = some y) → ∃ ls, Fits ks ls ∧ cs.drop o = ls.map cellL
  | [], o, ks, h, hl, _ => by
    simp only [flatKF, Option.some.injEq] at h
    subst h
    exact ⟨[], ⟨rfl, fun _ h => by cases h⟩, by rw [List.drop_of_length_le (by simpa using Nat.le_of_eq hl)]; rfl⟩
  | f :: fs, o, ks, h, hl, hf => by
    simp only [flatKF] at h
    split at h
    · rename_i c hc
      split at h
      · rename_i hh
        obtain ⟨m, hm, rfl⟩ := Option.map_eq_some_iff.1 h
        rw [List.length_append] at hl
        obtain ⟨y, hy⟩ := hf f (by simp)
        rw [hh.1, hh.2] at hy
        obtain ⟨l1, f1, e1⟩ := ih f.type c hc n _ _ hy
        obtain ⟨l2, f2, e2⟩ := fields_in ih cs n fs (o + c.length) m hm (by omega) (fun g hg => hf g (by simp [hg]))
        refine ⟨l1 ++ l2, f1.append f2, ?_⟩
        rw [List.map_append, ← e1, ← e2, ← List.drop_drop]
        exact (List.take_append_drop _ _).symm
      · cases h
    · cases h
theorem flat_in : ∀ (d : Nat) (t : TypeId) (ks : List (Option IntKind)), flatK P d t = some ks → ∀ fuel cs x, DataW.trod enc P W B0 spare held fuel t cs = some x → ∃ ls, Fits ks ls ∧ cs = ls.map cellL
  | 0, _, _, h => by simp [flatK] at h
  | d + 1, t, ks, h => fun fuel cs x hx => by
    have ih := flat_in d
    simp only [flatK] at h
    split at h
    · rename_i q hu
      simp only [Option.some.injEq] at h
      subst h
      obtain ⟨n, rfl, _, hw⟩ := DataW.trod_int hu hx
      exact ⟨[.int q n], ⟨rfl, by simpa using hw⟩, rfl⟩
    · rename_i hu
      simp only [Option.some.injEq] at h
      subst h
      obtain ⟨b, rfl⟩ := trod_boolL hu hx
      exact ⟨[.bool b], ⟨rfl, by simp [Lit.wf]⟩, rfl⟩
    · rename_i n e hu
      split at h
      · rename_i c hc
        split at h
        · rename_i hh
          simp only [Option.some.injEq] at h
          subst h
          obtain ⟨xs, m, _, _, hl, hxl, hxi⟩ := DataW.trod_array hu hx
          rw [hh.2] at hl
          have each : ∀ k, k ≤ n → ∃ ls, Fits (List.replicate k c).flatten ls ∧ cs.take (k * c.length) = ls.map cellL := by
            intro k
            induction k with
            | zero => intro _; exact ⟨[], ⟨rfl, fun _ h => by cases h⟩, by simp⟩
            | succ k ihk =>
              intro hk
              obtain ⟨l1, f1, e1⟩ := ihk (by omega)
              have hy := hxi k (by omega)
              rw [List.getElem?_eq_getElem (by omega), hh.1] at hy
              obtain ⟨l2, f2, e2⟩ := ih e c hc m _ _ hy
              refine ⟨l1 ++ l2, ?_, ?_⟩
              · rw [List.replicate_succ', List.flatten_append]
                simpa using f1.append f2
              · rw [List.map_append, ← e1, ← e2, Nat.add_mul, Nat.one_mul, List.take_add]
          obtain ⟨ls, f, e⟩ := each n (Nat.le_refl _)
          rw [List.take_of_length_le (by omega)] at e
          exact ⟨ls, f, e⟩
        · cases h
      · cases h
    · rename_i fs hu
      split at h
      · rename_i m' hc
        split at h
        · rename_i hh
          simp only [Option.some.injEq] at h
          subst h
          obtain ⟨xs, m, _, _, hl, hxl, hxi⟩ := DataW.trod_struct hu hx
          have := fields_in (fun t ks h => ih t ks h) cs m fs.toList 0 _ hc (by rw [hl, hh.1, Nat.zero_add]) (fun f hf => by
            obtain ⟨i, hi⟩ := List.getElem?_of_mem hf
            have hi' : fs[i]? = some f := by simpa using hi
            have := hxi i f hi'
            have hlt := (Array.getElem?_eq_some_iff.1 hi').1
            rw [List.getElem?_eq_getElem (by omega)] at this
            exact ⟨_, this⟩)
          simpa using this
        · cases h
      · cases h
    · cases h
theorem fits_ints {c : Nat} {ls : List Lit} (h : Fits (List.replicate c (some .i64)) ls) : ∃ l, ls = litI l ∧ l.length = c ∧ WF l := by
  obtain ⟨h1, h2⟩ := h
  have e : ∀ x ∈ ls, ∃ n, x = .int .i64 n := fun x hx => by
    have : kindL x ∈ ls.map kindL := List.mem_map_of_mem hx
    rw [h1, List.map_replicate] at this
    have := List.eq_of_mem_replicate this
    cases x <;> simp only [kindL, Option.some.injEq, reduceCtorEq] at this
    subst this
    exact ⟨_, rfl⟩
  refine ⟨ls.map fun x => match x with | .int _ n => n | _ => 0, ?_, ?_, ?_⟩
  · rw [litI, List.map_map]
    conv => lhs; rw [← List.map_id ls]
    refine List.map_congr_left fun x hx => ?_
    obtain ⟨n, rfl⟩ := e x hx
    rfl
  · have := congrArg List.length h1
    simpa using this
  · intro n hn
    obtain ⟨x, hx, rfl⟩ := List.mem_map.1 hn
    obtain ⟨n, rfl⟩ := e x hx
    exact h2 _ hx
theorem litI_cells (l : List Int) : (litI l).map cellL = ints l := by simp [litI, ints, cellL]

theorem block_of_cell {a : Addr} {v : Value} (h : W.cell? a = some v) : ∃ b o cs T z, a = ⟨b, o, none⟩ ∧ W.heap[b]? = some (.cells (List.toArray cs) T z) ∧ cs[o]? = some v := by
  obtain ⟨b, o, s⟩ := a
  simp only [World.cell?] at h
  split at h
  · rename_i cs T z hb
    cases s with
    | some s => simp at h
    | none => exact ⟨b, o, cs.toList, T, z, rfl, by simpa using hb, by simpa using h⟩
  · cases h
theorem listT_in {t e : TypeId} {fuel size : Nat} {α : Type} {E : List Value → α → Hl → Prop} {cs : List Value} {x : DataW H × List MemPlace} (ht : P.underlying t = some (.slice e)) (hc : P.cellsOf e = size) (hs : 0 < size)
    (hE : ∀ fuel cs x, DataW.trod enc P W B0 spare held fuel e cs = some x → ∃ a, E cs a (hp W)) (h : DataW.trod enc P W B0 spare held fuel t cs = some x) : ∃ u l, cs = [u] ∧ IsL size E u l (hp W) := by
  classical
  rcases Deep.open_slice ht h with ⟨rfl, _⟩ | ⟨a, len, cap, m, n, D, Pl, rfl, _, hl, hm, hmm, _, hx⟩
  · exact ⟨_, [], rfl, .inl ⟨rfl, rfl⟩⟩
  · have hlm : len ≤ m := by rw [hmm]; split <;> omega
    by_cases h0 : len = 0
    · subst h0
      exact ⟨_, [], rfl, .inr (.inl ⟨a, cap, rfl, rfl⟩)⟩
    · have first : ∃ v, W.cell? a = some v := by
        obtain ⟨cs', h1, _⟩ := hx 0 (by omega)
        obtain ⟨_, h2, h3⟩ := World.cells?_some h1
        have := h3 0 (by omega)
        rw [Nat.zero_mul, show (a.add 0).add 0 = a from rfl, List.getElem?_eq_getElem (by omega)] at this
        exact ⟨_, this⟩
      obtain ⟨v, hv⟩ := first
      obtain ⟨b, o, bs, T, z, rfl, hb, _⟩ := block_of_cell hv
      have each : ∀ i, i < len → ∃ us, us.length = size ∧ (bs.drop (o + i * size)).take size = us ∧ ∃ x, E us x (hp W) := fun i hi => by
        obtain ⟨cs', h1, h2⟩ := hx i (by omega)
        obtain ⟨_, h3, h4⟩ := World.cells?_some h1
        rw [hc] at h3 h4
        refine ⟨cs', h3, ?_, hE _ _ _ h2⟩
        apply List.ext_getElem?
        intro k
        rw [List.getElem?_take]
        split
        · rename_i hk
          have := h4 k hk
          rw [addL, addL] at this
          simp only [World.cell?, hb, Option.isSome_none, Bool.false_eq_true, if_false] at this
          rw [List.getElem?_drop]
          simpa using this
        · rw [List.getElem?_eq_none (by omega)]
      obtain ⟨f, hf⟩ : ∃ f : Nat → α, ∀ i, i < len → E ((bs.drop (o + i * size)).take size) (f i) (hp W) := by
        have each' : ∀ i, i < len → ∃ x, E ((bs.drop (o + i * size)).take size) x (hp W) := fun i hi => by
          obtain ⟨us, _, e2, q⟩ := each i hi
          rw [e2]; exact q
        obtain ⟨x, _⟩ := each' 0 (by omega)
        haveI : Inhabited α := ⟨x⟩
        exact Deep.choose_lt each'
      refine ⟨_, (List.range len).map f, rfl, .inr (.inr ⟨b, o, cap, bs, T, z, by simp, by simpa using hl, by simpa [maxLen] using hm, hb, fun j hj => ?_⟩)⟩
      have hj' : j < len := by simpa using hj
      obtain ⟨us, e1, e2, _⟩ := each j hj'
      exact ⟨us, e1, e2, by rw [← e2]; simpa using hf j hj'⟩
theorem listV_in {t e : TypeId} {size : Nat} {α : Type} {E : List Value → α → Hl → Prop} {v : Value} {d : DataW H} {ps : List MemPlace} (ht : P.underlying t = some (.slice e)) (hc : P.cellsOf e = size) (hs : 0 < size) (hv : Value.okWide P W .any B0 t v)
    (hE : ∀ fuel cs x, DataW.trod enc P W 0 spare held fuel e cs = some x → ∃ a, E cs a (hp W)) (hd : DataW.Trod enc P W 0 spare held t v d ps) : ∃ l, IsL size E v l (hp W) := by
  obtain ⟨fuel, hf⟩ := hd
  obtain ⟨u, l, h1, h2⟩ := listT_in ht hc hs hE hf
  obtain ⟨a, len, cap, rfl⟩ := WideShapes.okWide_slice ht hv
  simp [Value.cells] at h1
  subst h1
  exact ⟨l, h2⟩
end
end Leg
end

section
namespace Leg
open Go

section
variable {P : Program} {w0 : World} {F : Hl} {n : Nat} {ops : Array Oper} {Q : QQ} {D : List Deferred} {L : List (Nat × Value)} {H : List HP} {o : Oper} {l : List Oper} {d : Nat} {S : World → Prop}
def IsMethod (P : Program) (t : TypeId) (rv : Value) (nm : String) (f : FuncId) : Prop := ∀ w, (method (P.types.size + Made.depth) t rv nm).run P w = .ok (f, rv) w
theorem TL.callI {recv : Operand} {nm : String} {t : TypeId} {rv : Value} {f : FuncId} {xs : Array Operand} {ts : Array TypeId} {vs : List Value} {R : Hl → Prop} {A B : List HP} {p : Value → List HP → Prop} (hw : Want n D ops o L)
    (ho : o.op = .call { callee := .invoke recv nm, args := xs, argTypes := ts }) (hd : o.dst = some d) (hn : Nat.blt d n = true) (hr : evL L recv = some (.iface t rv)) (hm : IsMethod P t rv nm f) (hf : Named P f) (hx : evs L xs.toList = some vs)
    (sp : Does P f (rv :: vs).toArray R A (Ret p)) (hp : ∀ h, sep H h → sep (A ++ B) h) (hR : ∀ g, Dj g F → sep B g → R (jn g F))
    (hret : ∀ v H', p v H' → TL P w0 F n ops Q l D ((d, v) :: L) (H' ++ B)) : TL P w0 F n ops Q (o :: l) D L H :=
  TL.callw hw (fun a w g => by
      have e : xs.map a.eval = vs.toArray := g.evals hx
      have e2 : a.eval recv = .iface t rv := g.eval hr
      have e3 := hm w
      simp [execOp, ho, resolve, invoke, callMethod, e, e2, e3, run_callFunc hf])
    sp hp hR (fun v H' q a g w s m => by rw [hd]; exact hret v H' q _ w (g.put (lb hn) v) s m) (fun _ _ h => h.elim) (fun _ h => h)
theorem TE.retCTT {H' : List HP} {fn : Func} {post : Ending → List HP → Prop} {t t' t2 ty e m b : Nat} {cs : List Value} {z : Nat × Nat} {dt : TypeDesc} {v' v2 : Value} (hr : fn.results = #[.cell t ty, .tmp t', .tmp t2]) (he : lk L t = some (.pointer (some ⟨b, 0, none⟩))) (e' : lk L t' = some v') (e2 : lk L t2 = some v2)
    (hu : P.underlying ty = some dt) (hp : plainT dt = false) (hm : (P.info? ty).map (·.size) = some m) (hR : Rd (Sat H F) b (.cells cs.toArray e z)) (hl : cs.length = m) (hk : ∀ h, sep H h → sep H' h)
    (h : post (.returned (.tuple #[.agg cs.toArray, v', v2])) H') : TE w0 F n (bodyPost P fn (postOf post w0 F)) .ret [] L H := fun a w f s q => by
  have h1 : a.tmps.getD t undef = .pointer (some ⟨b, 0, none⟩) := f.eval (x := .tmp t) he
  have h2 : a.tmps.getD t' undef = v' := f.eval (x := .tmp t') e'
  have h4 : a.tmps.getD t2 undef = v2 := f.eval (x := .tmp t2) e2
  have h3 : (results fn a.tmps).run P w = .ok (.tuple #[.agg cs.toArray, v', v2]) w := by
    have h1' : a.tmps[t]?.getD undef = .pointer (some ⟨b, 0, none⟩) := by simpa using h1
    have h2' : a.tmps[t']?.getD undef = v' := by simpa using h2
    have h4' : a.tmps[t2]?.getD undef = v2 := by simpa using h4
    simp [results, hr, h1', h2', h4', asAddr, run_loadVar_row w b e ty cs.toArray z dt (hR w q) hu (by cases dt <;> simp [plainT] at hp ⊢) (by simp [hm, hl])]
  exact bodyPost_ret h3 f.2.1 ⟨s, H', q.mono hk, h⟩
theorem PV.ifaceNotNil {t t' u : TypeId} {x : Operand} {v : Value} {ms : Array (String × TypeId)} (ho : o.op = .binOp .neq t x (.const .nilIface) t') (ht : P.underlying t = some (.interface ms)) (hx : evL L x = some (.iface u v)) : PV P n D L S o (.bool true) :=
  PV.bin ho hx rfl fun w => by
    have := eqIn_ifaceNil (P := P) (w := w) 9999 (u := u) (v := v) ht
    simp [eqGuard, binOp, Op.equal, Op.maxDepth, this]
end
theorem isI_own (i : Nat) {v : Value} {l : List Int} {e : Nat} {B : List HP} {F : Hl} (hi : Nat.blt i B.length = true) (hH : B.getD i (fun _ => True) = own v l.length (Api.ints l) e 1) : ∀ g, Dj g F → sep B g → IsI .i64 v l (jn g F) := fun g _ s => by
  obtain ⟨h1, h2, d', rfl, a, _⟩ := sep_get i (lb hi) s
  rw [hH] at a
  rcases a with ⟨_, ⟨h0, hn, _⟩ | ⟨g, cap, cur, hv, hh, h3, h4, h5, h6⟩⟩
  · exact .inl ⟨h0, List.eq_nil_of_length_eq_zero hn⟩
  · refine .inr ⟨g, 0, cap, cur.toList, e, (0, 0), hv, h3, by simp only [maxLen] at h4; omega, jn_some (jn_some (by rw [hh]; simp [sg])), fun j hj => ?_⟩
    rw [Nat.mul_one] at h6
    have e1 : (cur.toList.take l.length)[j]? = some (.int .i64 (l.getD j 0)) := by rw [h6]; exact Api.ints_get l j hj
    rw [List.getElem?_take, if_pos hj] at e1
    simpa using e1
end Leg
end

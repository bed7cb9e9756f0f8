/-
  Joined texts: what a statement's proof reaches.
-/
import Derived.Laws.MakeOwn
import Derived.OwnWalk
import Derived.Lib.AppendStr
import Derived.Lib.UnsafeStr
import Derived.Lib.Builder
import Derived.Laws.Externs
import Derived.Test.YtohmkchalilodaaGreatDoorProg
import Derived.KernelRfl
import Derived.WalkSpells
import Derived.Test.YtohmkchalilodaaGreatDoorPLock1
set_option maxHeartbeats 8000000
set_option maxRecDepth 100000
set_option linter.unusedSimpArgs false
set_option linter.unusedVariables false
section
namespace Leg
open Go Codec Api
theorem madeCells_one (v : Value) (n : Nat) : madeCells #[v] n = (List.replicate n v).toArray := by
 unfold madeCells
 apply Array.ext
 · simp
 · intro i h1 h2
   simp at h1
   simp [Nat.mod_one]
theorem u8s_rep (n : Nat) : u8s (List.replicate n 0) = List.replicate n (.int .u8 0) := by simp [u8s]
section
variable {P : Program} {w0 : World} {F : Hl} {n : Nat} {ops : Array Oper} {Q : QQ} {D : List Deferred} {L : List (Nat × Value)} {H : List HP} {o : Oper} {l : List Oper} {d : Nat} {S : World → Prop}
theorem TL.mono {H' : List HP} (m : ∀ h, sep H h → sep H' h) (h : TL P w0 F n ops Q l D L H') : TL P w0 F n ops Q l D L H := TL.weak (Sub.refl _) m h
theorem TL.makeB {t e : TypeId} {x y : Operand} {k k' : IntKind} {a b : Int} (m c : Nat) (hw : Want n D ops o L) (ho : o.op = .makeSlice t x y) (hd : o.dst = some d) (hn : Nat.blt d n = true) (ht : P.underlying t = some (.slice e))
 (hi : (P.info? e).map (fun i => (i.zero, i.size, i.bytes)) = some (some (.int .u8 0), 1, 1)) (hx : evL L x = some (.int k a)) (hy : evL L y = some (.int k' b)) (ha : a = (m : Int)) (hb : b = (c : Int)) (h1 : m ≤ c) (h2 : c ≤ 281474976710656)
 (h : ∀ b, TL P w0 F n ops Q l D ((d, .slice (some ⟨b, 0, none⟩) m c) :: L) (blkA b (u8s (List.replicate c 0)) e :: H)) : TL P w0 F n ops Q (o :: l) D L H :=
 TL.step hw fun a w f sm q => by
  subst ha; subst hb
  obtain ⟨i, hie, hz0, hs, hb⟩ := info_parts hi
  have hr := run_make (P := P) w t e i (.int .u8 0) ht hie hz0 k k' (m : Int) (c : Int) (by omega) (by omega) (by rw [hb]; omega) (by omega)
  have e1 : madeCells (Value.cells (.int .u8 0)) ((c : Int).toNat * i.size) = (u8s (List.replicate c 0)).toArray := by
   rw [hs, Nat.mul_one, Int.toNat_natCast, u8s_rep]
   exact madeCells_one _ _
  rw [e1] at hr
  simp only [Int.toNat_natCast] at hr
  have r : (execOp a.eval o).run P w = .ok (.value (.slice (some ⟨w.heap.size, 0, none⟩) m c)) (w.alloc (.cells (u8s (List.replicate c 0)).toArray e)) := by
   simp only [execOp, ho, f.eval hx, f.eval hy, Sem.run_bind, hr, Result.andThen_ok, Sem.run_pure]
  unfold Oper.wp
  rw [r, Oper.upon_value, hd]
  exact h _ _ _ (f.put (lb hn) _) (sm.trans ⟨rfl, rfl, rfl, by simp⟩) (q.alloc _)
def cutLH : Value → Nat → Nat → Value
 | .slice a m c, lo, hi => .slice (if c = lo then a else a.map (·.add lo)) (hi - lo) (c - lo)
 | v, _, _ => v
theorem PV.sliceLH {t e : TypeId} {x y z : Operand} {a : Option Addr} {len cap lo hi : Nat} {k k' : IntKind} {i j : Int} (ho : o.op = .slice t x (some y) (some z) none) (ht : P.underlying t = some (.slice e)) (hs : (P.info? e).map (·.size) = some 1)
 (hx : evL L x = some (.slice a len cap)) (hy : evL L y = some (.int k i)) (hz : evL L z = some (.int k' j)) (hi' : i = (lo : Int)) (hj : j = (hi : Int)) (h1 : lo ≤ hi) (h2 : hi ≤ cap) : PV P n D L S o (cutLH (.slice a len cap) lo hi) :=
 fun b w g _ => by
  subst hi'; subst hj
  simp only [execOp, ho, g.eval hx, Option.map_some, Option.map_none, g.eval hy, g.eval hz, cutLH]
  by_cases q : cap = lo
  · have e2 : hi = lo := by omega
    subst e2
    simp [Instr.sliceAt, Instr.slice, run_underlying ht, Instr.sliceBounds, Instr.sliceBound, asIntOf, run_sizeL hs, q]
  · simp [Instr.sliceAt, Instr.slice, run_underlying ht, Instr.sliceBounds, Instr.sliceBound, asIntOf, h1, h2, run_sizeL hs, q]
theorem PV.sliceH {t e : TypeId} {x z : Operand} {a : Option Addr} {len cap hi : Nat} {k' : IntKind} {j : Int} (ho : o.op = .slice t x none (some z) none) (ht : P.underlying t = some (.slice e)) (hs : (P.info? e).map (·.size) = some 1)
 (hx : evL L x = some (.slice a len cap)) (hz : evL L z = some (.int k' j)) (hj : j = (hi : Int)) (h2 : hi ≤ cap) : PV P n D L S o (cutLH (.slice a len cap) 0 hi) :=
 fun b w g _ => by
  subst hj
  simp only [execOp, ho, g.eval hx, Option.map_some, Option.map_none, g.eval hz, cutLH]
  by_cases q : cap = 0
  · have e2 : hi = 0 := by omega
    subst e2
    simp [Instr.sliceAt, Instr.slice, run_underlying ht, Instr.sliceBounds, Instr.sliceBound, asIntOf, run_sizeL hs, q]
  · simp [Instr.sliceAt, Instr.slice, run_underlying ht, Instr.sliceBounds, Instr.sliceBound, asIntOf, h2, run_sizeL hs, q]
theorem PV.sliceL {t e : TypeId} {x y : Operand} {a : Option Addr} {len cap lo : Nat} {k : IntKind} {i : Int} (ho : o.op = .slice t x (some y) none none) (ht : P.underlying t = some (.slice e)) (hs : (P.info? e).map (·.size) = some 1)
 (hx : evL L x = some (.slice a len cap)) (hy : evL L y = some (.int k i)) (hi : i = (lo : Int)) (h1 : lo ≤ len) : PV P n D L S o (cutLH (.slice a len cap) lo len) :=
 fun b w g _ => by
  subst hi
  simp only [execOp, ho, g.eval hx, Option.map_some, Option.map_none, g.eval hy, cutLH]
  by_cases q : cap = lo
  · simp [Instr.sliceAt, Instr.slice, run_underlying ht, Instr.sliceBounds, Instr.sliceBound, asIntOf, h1, run_sizeL hs, q]
  · simp [Instr.sliceAt, Instr.slice, run_underlying ht, Instr.sliceBounds, Instr.sliceBound, asIntOf, h1, run_sizeL hs, q]
end
theorem IsW.form {v : Value} {bs : List UInt8} {F : Hl} (h : IsW v bs F) : ∃ a c, v = .slice a bs.length c ∧ bs.length ≤ c ∧ (bs.length = 0 ∨ c ≤ 9223372036854775807) := by
 rcases h with (⟨rfl, rfl⟩ | ⟨b, off, cap, cs, T, z, rfl, h1, h2, _⟩) | ⟨a, c, rfl, rfl⟩
 · exact ⟨_, _, rfl, Nat.le_refl _, .inl rfl⟩
 · exact ⟨_, _, rfl, h1, .inr h2⟩
 · exact ⟨_, _, rfl, Nat.zero_le _, .inl rfl⟩
theorem IsW.lt {v : Value} {bs : List UInt8} {F : Hl} (h : IsW v bs F) : bs.length ≤ 9223372036854775807 := by
 obtain ⟨a, c, _, h1, h2⟩ := h.form
 omega
theorem IsW.cut {v : Value} {bs : List UInt8} {F : Hl} (h : IsW v bs F) {lo hi : Nat} (h1 : lo ≤ hi) (h2 : hi ≤ bs.length) : IsW (cutLH v lo hi) ((bs.take hi).drop lo) F := by
 have hl : ((bs.take hi).drop lo).length = hi - lo := by simp; omega
 by_cases e : hi - lo = 0
 · obtain ⟨a, c, rfl, hc, _⟩ := h.form
   have e0 : (bs.take hi).drop lo = [] := List.eq_nil_of_length_eq_zero (by omega)
   rw [e0]
   simp only [cutLH, e]
   split
   · cases a with
     | some a => exact .inr ⟨_, _, rfl, rfl⟩
     | none =>
      rcases h with (⟨h, rfl⟩ | ⟨b, off, cap, cs, T, z, h, _⟩) | ⟨a, c, h, _⟩
      · injection h with _ _ h; subst h; exact .inl (.inl ⟨by simp, rfl⟩)
      · simp at h
      · simp at h
   · cases a with
     | some a => exact .inr ⟨_, _, rfl, rfl⟩
     | none =>
      rcases h with (⟨h, rfl⟩ | ⟨b, off, cap, cs, T, z, h, _⟩) | ⟨a, c, h, _⟩
      · injection h with _ _ h; subst h; exact .inl (.inl ⟨by simp, rfl⟩)
      · simp at h
      · simp at h
 · obtain ⟨b, off, cap, cs, T, z, rfl, hb, hcs, hc⟩ := h.at (j := 0) (by omega)
   rcases h.form with ⟨a, c, hv, _, hm⟩
   injection hv with _ _ hv
   subst hv
   refine .inl (.inr ⟨b, off + lo, cap - lo, cs, T, z, ?_, by omega, by omega, hb, fun j hj => ?_⟩)
   · simp only [cutLH, hl, if_neg (show ¬ cap = lo by omega), Option.map_some, addL]
   · rw [hl] at hj
     rw [Nat.add_assoc, hcs (lo + j) (by omega)]
     congr 2
     simp [List.getD_eq_getElem?_getD, List.getElem?_take, show lo + j < hi by omega]
def subB (v : Value) (bs : List UInt8) (e : Nat) : HP := fun h =>
 (v = .slice none 0 0 ∧ bs = [] ∧ h = em) ∨ ∃ g off cap cur, v = .slice (some ⟨g, off, none⟩) bs.length cap ∧ h = sg g (.cells cur e (0, 0)) ∧ bs.length ≤ cap ∧ cap ≤ maxLen ∧ off + cap ≤ cur.size ∧ (cur.toList.drop off).take bs.length = u8s bs
theorem subB_of_own {v : Value} {bs : List UInt8} {e : Nat} {h : Hl} (x : ownB v bs e h) : subB v bs e h := by
 rcases x with ⟨_, ⟨h1, h2, h3⟩ | ⟨g, cap, cur, h1, h2, h3, h4, h5, h6⟩⟩
 · exact .inl ⟨h1, List.eq_nil_of_length_eq_zero h2, h3⟩
 · exact .inr ⟨g, 0, cap, cur, h1, h2, h3, h4, by omega, by simpa using h6⟩
section
variable {H : List HP} {F : Hl} {v : Value} {bs : List UInt8} {e : Nat}
theorem sep_sub (i : Nat) (hi : Nat.blt i H.length = true) (hH : H.getD i (fun _ => True) = ownB v bs e) {h : Hl} (s : sep H h) : sep (H.set i (subB v bs e)) h :=
 sep_put i (lb hi) (star_mono (sep_get i (lb hi) s) (fun _ x => subB_of_own (by rwa [hH] at x)) fun _ x => x)
theorem sep_ownCut {lo hi nn : Nat} {bs' : List UInt8} (i : Nat) (hi' : Nat.blt i H.length = true) (hH : H.getD i (fun _ => True) = ownB v bs e) {g cap : Nat} (hv : v = .slice (some ⟨g, 0, none⟩) nn cap) (h1 : lo ≤ hi) (h2 : hi ≤ bs.length) (h3 : lo < bs.length) (hb : (bs.take hi).drop lo = bs') {h : Hl} (s : sep H h) :
 sep (H.set i (subB (cutLH v lo hi) bs' e)) h := by
 subst hb
 have hl : ((bs.take hi).drop lo).length = hi - lo := by simp; omega
 refine sep_put i (lb hi') (star_mono (sep_get i (lb hi') s) (fun _ x => ?_) fun _ x => x)
 rw [hH] at x
 rcases x with ⟨_, ⟨h1, h2, _⟩ | ⟨g', cap', cur, h4, h5, h6, h7, h8, h9⟩⟩
 · rw [hv] at h1; simp at h1
 · rw [hv] at h4 ⊢
   simp only [Value.slice.injEq, Option.some.injEq, Addr.mk.injEq, and_true, true_and] at h4
   obtain ⟨rfl, rfl, rfl⟩ := h4
   refine .inr ⟨g, lo, cap - lo, cur, ?_, h5, by omega, by omega, by omega, ?_⟩
   · simp only [cutLH, hl, if_neg (show ¬ cap = lo by omega), Option.map_some, addL, Nat.zero_add]
   · rw [hl]
     rw [Nat.mul_one] at h9
     have e1 := congrArg (fun l : List Value => (l.take hi).drop lo) h9
     simp only [List.take_take, Nat.min_eq_left h2] at e1
     rw [← List.drop_take, e1]
     simp [u8s, List.map_take, List.map_drop]
theorem Sat.sub_form {w : World} (i : Nat) (s : Sat H F w) (hi : Nat.blt i H.length = true) (hH : H.getD i (fun _ => True) = subB v bs e) : (v = .slice none 0 0 ∧ bs = []) ∨ ∃ g off cap cur, v = .slice (some ⟨g, off, none⟩) bs.length cap ∧ w.heap[g]? = some (.cells cur e (0, 0)) ∧ bs.length ≤ cap ∧ cap ≤ maxLen ∧ off + cap ≤ cur.size ∧ (cur.toList.drop off).take bs.length = u8s bs := by
 obtain ⟨h, d, e', x⟩ := s
 obtain ⟨h1, h2, d', rfl, a, _⟩ := sep_get i (lb hi) x
 rw [hH] at a
 rcases a with ⟨x1, x2, _⟩ | ⟨g, off, cap, cur, x1, x2, x3⟩
 · exact .inl ⟨x1, x2⟩
 · refine .inr ⟨g, off, cap, cur, x1, ?_, x3⟩
   have : hp w g = some (.cells cur e (0, 0)) := by
    rw [e', jn_assoc]
    exact jn_some (by rw [x2]; simp [sg])
   exact this
theorem Sat.sub_len {w : World} (i : Nat) (s : Sat H F w) (hi : Nat.blt i H.length = true) (hH : H.getD i (fun _ => True) = subB v bs e) : SlLen v bs.length ∧ v.oneCell' = true := by
 rcases s.sub_form i hi hH with ⟨rfl, rfl⟩ | ⟨g, off, cap, cur, rfl, _⟩
 · exact ⟨⟨_, _, rfl⟩, rfl⟩
 · exact ⟨⟨_, _, rfl⟩, rfl⟩
theorem Src.sub (i : Nat) (hi : Nat.blt i H.length = true) (hH : H.getD i (fun _ => True) = subB v bs e) {w : World} (s : Sat H F w) : Src (Sat H F) v bs.length (u8s bs) 1 := by
 refine ⟨by simp [u8s], ?_⟩
 rcases s.sub_form i hi hH with ⟨rfl, rfl⟩ | ⟨g, off, cap, cur, rfl, _⟩
 · exact .inl ⟨rfl, rfl⟩
 · refine .inr ⟨⟨g, off, none⟩, cap, rfl, fun w s j u hj => ?_⟩
   rcases s.sub_form i hi hH with ⟨h1, _⟩ | ⟨g', off', cap', cur', h1, h2, h3, h4, h5, h6⟩
   · simp at h1
   · simp only [Value.slice.injEq, Option.some.injEq, Addr.mk.injEq, and_true, true_and] at h1
     obtain ⟨⟨rfl, rfl⟩, rfl⟩ := h1
     rw [addL]
     rw [← h6, List.getElem?_take] at hj
     split at hj
     · simp only [World.cell?, h2, Option.isSome_none, Bool.false_eq_true, if_false]
       simpa using hj
     · cases hj
theorem isB_sub (i : Nat) {B : List HP} (hi : Nat.blt i B.length = true) (hH : B.getD i (fun _ => True) = subB v bs e) : ∀ g, Dj g F → sep B g → IsB v bs (jn g F) := fun g _ s => by
 obtain ⟨h1, h2, d', rfl, a, _⟩ := sep_get i (lb hi) s
 rw [hH] at a
 rcases a with ⟨x1, x2, _⟩ | ⟨g, off, cap, cur, x1, x2, x3, x4, x5, x6⟩
 · exact .inl ⟨x1, x2⟩
 · refine .inr ⟨g, off, cap, cur.toList, e, (0, 0), x1, x3, by simpa [maxLen] using x4, jn_some (jn_some (by rw [x2]; simp [sg])), fun j hj => ?_⟩
   have e1 := congrArg (fun l : List Value => l[j]?) x6
   simp only [List.getElem?_take, if_pos hj, List.getElem?_drop] at e1
   rw [e1]; simp [u8s, List.getD_eq_getElem?_getD, hj]
end
theorem run_append_roomO {P : Program} (w : World) (t ty e : TypeId) (i : TypeInfo) (ht : P.underlying t = some (.slice e)) (hi : P.info? e = some i) (g off sLen sCap : Nat) (cur : Array Value) (hg : w.heap[g]? = some (.cells cur e (0, 0)))
 (a : Addr) (m c : Nat) (news : List Value) (hl : news.length = m * i.size) (hnews : ∀ j u, news[j]? = some u → w.cell? (a.add j) = some u) (h1 : ∀ u ∈ news, u.oneCell' = true)
 (hroom : sLen + m ≤ sCap) (hfit : off + sLen * i.size + news.length ≤ cur.size) :
 (Builtin.append_ #[t, t] ty #[.slice (some ⟨g, off, none⟩) sLen sCap, .slice (some a) m c]).run P w =
  .ok (.slice (some ⟨g, off, none⟩) (sLen + m) sCap) (w.setRow g (cur.toList.take (off + sLen * i.size) ++ news ++ cur.toList.drop (off + sLen * i.size + news.length)).toArray) := by
 have hf := run_firstCells_some (P := P) w i.size m a m c news hl hnews
 have hst := run_storeCells_at P g (off + sLen * i.size) e news 0 cur w hg (by simpa using hfit) h1
 simp only [Nat.add_zero] at hst
 simp [Builtin.append_, run_underlying ht, Go.sizeOf, typeInfo, hi, Builtin.lenOf, hroom, hf, Addr.add_lit, hst]
section
variable {P : Program} {w0 : World} {F : Hl} {n : Nat} {ops : Array Oper} {Q : QQ} {D : List Deferred} {L : List (Nat × Value)} {H : List HP} {o : Oper} {l : List Oper} {d : Nat} {S : World → Prop}
theorem Sat.sub_open {w : World} {k : Nat} {v : Value} {bs : List UInt8} {e : TypeId} (s : Sat H F w) (hk : Nat.blt k H.length = true) (hH : H.getD k (fun _ => True) = subB v bs e) :
 (v = .slice none 0 0 ∧ bs = [] ∧ Sat (H.set k (ownB (.slice none 0 0) [] e)) F w) ∨ ∃ g off cap cur, v = .slice (some ⟨g, off, none⟩) bs.length cap ∧ Sat (H.set k (obj g (.cells cur e (0, 0)))) F w ∧ bs.length ≤ cap ∧ cap ≤ maxLen ∧ off + cap ≤ cur.size ∧ (cur.toList.drop off).take bs.length = u8s bs := by
 obtain ⟨h, d, e', x⟩ := s
 obtain ⟨h1, h2, d', rfl, a, y⟩ := sep_get k (lb hk) x
 rw [hH] at a
 rcases a with ⟨x1, x2, x3⟩ | ⟨g, off, cap, cur, x1, x2, x3⟩
 · exact .inl ⟨x1, x2, _, d, e', sep_put k (lb hk) ⟨h1, h2, d', rfl, ⟨rfl, .inl ⟨rfl, rfl, x3⟩⟩, y⟩⟩
 · exact .inr ⟨g, off, cap, cur, x1, ⟨_, d, e', sep_put k (lb hk) ⟨h1, h2, d', rfl, x2, y⟩⟩, x3⟩
theorem Src.of_eq {S' : World → Prop} {x : Value} {m size : Nat} {news : List Value} (h : Src S x m news size) (hS : ∀ w, S' w → S w) : Src S' x m news size := ⟨h.1, h.2.imp id fun ⟨a, c, q3, q4⟩ => ⟨a, c, q3, fun w' s' => q4 w' (hS w' s')⟩⟩
theorem set_same {k : Nat} {q : HP} (hk : Nat.blt k H.length = true) (hH : H.getD k (fun _ => True) = q) : H.set k q = H := by
 rw [← hH, List.getD_eq_getElem?_getD, List.getElem?_eq_getElem (lb hk)]; exact List.set_getElem_self _
theorem run_appendS {w : World} {k : Nat} {v x : Value} {bs news : List UInt8} {t ty e : TypeId} (s : Sat H F w) (ht : P.underlying t = some (.slice e)) (hi : (P.info? e).map (fun i => (i.zero, i.size, i.bytes)) = some (some (.int .u8 0), 1, 1))
 (hk : Nat.blt k H.length = true) (hH : H.getD k (fun _ => True) = subB v bs e) (hx : Src (Sat H F) x news.length (u8s news) 1) (hb : bs.length + news.length ≤ 140737488355328) :
 ∃ v' w', (Builtin.append_ #[t, t] ty #[v, x]).run P w = .ok v' w' ∧ Same w w' ∧ Sat (H.set k (subB v' (bs ++ news) e)) F w' := by
 rcases s.sub_open hk hH with ⟨rfl, rfl, s1⟩ | ⟨g, off, cap, cur, rfl, s1, h3, h4, h5, h6⟩
 · have hx' : Src (Sat (H.set k (ownB (.slice none 0 0) [] e)) F) x news.length (u8s news) 1 := hx.of_eq fun w' s' => by
    have := s'.turn (q := subB (.slice none 0 0) [] e) k (by simpa using lb hk) fun h hh => by
     rw [getD_set (lb hk)] at hh; exact subB_of_own hh
    rwa [List.set_set, set_same hk hH] at this
   obtain ⟨v', w', r1, r2, r3⟩ := run_appendL (k := k) (nn := 0) (m := news.length) (v := .slice none 0 0) (xs := u8s []) (news := u8s news) (ty := ty) s1 ht hi rfl (by decide) (by simpa using lb hk) (getD_set (lb hk) _) hx' (u8s_one _) (by simp only [maxLen]; simp at hb; omega) (by simp at hb; omega)
   refine ⟨v', w', r1, r2, ?_⟩
   rw [List.set_set] at r3
   have := r3.turn (q := subB v' ([] ++ news) e) k (by simpa using lb hk) fun h hh => by
    rw [getD_set (lb hk)] at hh
    refine subB_of_own ?_
    rw [← u8s_append, Nat.zero_add, List.nil_append] at hh
    exact hh
   rwa [List.set_set] at this
 · obtain ⟨i, hie, hz0, hsz, hby⟩ := info_parts hi
   obtain ⟨hxl, hxx⟩ := hx
   have hg : w.heap[g]? = some (.cells cur e (0, 0)) := s1.block k (by simpa using lb hk) (getD_set (lb hk) _)
   by_cases hroom : bs.length + news.length ≤ cap
   · rcases hxx with ⟨rfl, hm⟩ | ⟨a0, c, rfl, hc⟩
     · have hn : news = [] := List.eq_nil_of_length_eq_zero hm
       subst hn
       refine ⟨_, w, ?_, Same.refl w, by rw [List.append_nil, set_same hk hH]; exact s⟩
       simp [Builtin.append_, run_underlying ht, Go.sizeOf, typeInfo, hie, Builtin.lenOf, Builtin.firstCells, loadCells, loadCellsFrom, storeCells, h3]
     · have hfit : off + bs.length * i.size + (u8s news).length ≤ cur.size := by rw [hsz, Nat.mul_one, u8s_length]; omega
       refine ⟨_, _, run_append_roomO (P := P) w t ty e i ht hie g off bs.length cap cur hg a0 news.length c (u8s news) (by rw [hsz, u8s_length, Nat.mul_one]) (fun j v hj => hc w s j v hj) (u8s_one _) hroom hfit, ⟨rfl, rfl, rfl, by simp⟩, ?_⟩
       have h2 := s1.write k (by simpa using lb hk) (getD_set (lb hk) _) (setRow_heap w g cur (cur.toList.take (off + bs.length * i.size) ++ u8s news ++ cur.toList.drop (off + bs.length * i.size + (u8s news).length)).toArray e _ hg) (fun j hj => setRow_other w g j _ hj)
       rw [List.set_set] at h2
       have h7 := h2.turn (q := subB (.slice (some ⟨g, off, none⟩) (bs.length + news.length) cap) (bs ++ news) e) k (by simpa using lb hk) (fun h hh => by
        rw [getD_set (lb hk)] at hh
        rw [hsz, Nat.mul_one, u8s_length] at hh
        refine .inr ⟨g, off, cap, _, by rw [List.length_append], hh, by rw [List.length_append]; exact hroom, h4, ?_, ?_⟩
        · simp only [List.size_toArray, List.length_append, List.length_take, List.length_drop, Array.length_toList, u8s_length]
          rw [hsz, Nat.mul_one, u8s_length] at hfit
          omega
        · simp only [List.append_assoc]
          rw [List.drop_append_of_le_length (by simp only [List.length_take, Array.length_toList]; rw [hsz, Nat.mul_one, u8s_length] at hfit; omega), List.drop_take, Nat.add_sub_cancel_left, h6, ← List.append_assoc, ← u8s_append]
          rw [List.take_append_of_le_length (by rw [u8s_length]; exact Nat.le_refl _), List.take_of_length_le (by rw [u8s_length]; exact Nat.le_refl _)])
       rwa [List.set_set] at h7
   · rcases hxx with ⟨rfl, hm⟩ | ⟨a0, c, rfl, hc⟩
     · omega
     · have holds : ∀ j u, (u8s bs)[j]? = some u → w.cell? ((⟨g, off, none⟩ : Addr).add j) = some u := fun j u hj => by
        rw [addL]
        rw [← h6, List.getElem?_take] at hj
        split at hj
        · simpa [World.cell?, hg] using hj
        · cases hj
       have hr := run_append_grow (P := P) w t ty e i _ ht hie hz0 ⟨g, off, none⟩ bs.length cap (u8s bs) (by rw [hsz, u8s_length, Nat.mul_one]) holds a0 news.length c (u8s news) (by rw [hsz, u8s_length, Nat.mul_one]) (fun j v hj => hc w s j v hj) (by omega) (by omega) (growslice_fits (by omega) (by rw [hby]; omega))
       refine ⟨_, _, hr, ⟨rfl, rfl, rfl, by simp⟩, Sat.swap k (lb hk) (s.drew.alloc _) fun h hh => ?_⟩
       have hge := grownCap_ge w (bs.length + news.length) cap e
       refine .inr ⟨w.heap.size, 0, _, _, by rw [List.length_append], hh, by rw [List.length_append]; exact hge, grownCap_le_maxLen w (bs.length + news.length) cap e (by simp only [maxLen]; omega), ?_, ?_⟩
       · simp only [Array.size_append, List.size_toArray, size_zeroCells, u8s_length, Nat.zero_add]
         have : (Value.cells (.int .u8 0)).size = 1 := rfl
         rw [this, Nat.mul_one]; omega
       · simp only [Array.toList_append, List.append_assoc, List.drop_zero]
         rw [← List.append_assoc, ← u8s_append, ← u8s_length (bs ++ news)]
         exact List.take_left
theorem TL.appendS {s x : Operand} {k : Nat} {v vx : Value} {bs news bs' : List UInt8} {t e : TypeId} (hw : Want n D ops o L)
 (ho : o.op = .call { callee := .builtin .append, args := #[s, x], argTypes := #[t, t] }) (hd : o.dst = some d) (hn : Nat.blt d n = true) (ht : P.underlying t = some (.slice e))
 (hi : (P.info? e).map (fun i => (i.zero, i.size, i.bytes)) = some (some (.int .u8 0), 1, 1)) (hs : evL L s = some v) (hx : evL L x = some vx)
 (hk : Nat.blt k H.length = true) (hH : H.getD k (fun _ => True) = subB v bs e) (hsrc : ∀ w, Sat H F w → Src (Sat H F) vx news.length (u8s news) 1) (hb : bs.length + news.length ≤ 140737488355328)
 (hxs : bs ++ news = bs') (h : ∀ v', v'.oneCell' = true → TL P w0 F n ops Q l D ((d, v') :: L) (H.set k (subB v' bs' e))) : TL P w0 F n ops Q (o :: l) D L H :=
 TL.step hw fun a w f sm q => by
  obtain ⟨v', w', hr, s', q'⟩ := run_appendS (ty := o.type) q ht hi hk hH (hsrc w q) hb
  unfold Oper.wp execOp
  simp only [ho, resolve, invoke, builtin, Sem.run_bind, Sem.run_pure, Result.andThen_ok, List.map_toArray, List.map_cons, List.map_nil, f.eval hs, f.eval hx, hr]
  rw [Oper.upon_value, hd]
  subst hxs
  have one : v'.oneCell' = true := (q'.sub_len k (by simpa using hk) (getD_set (lb hk) _)).2
  exact h v' one _ w' (f.put (lb hn) v') (sm.trans s') q'
theorem TL.subLen {v : Value} {bs : List UInt8} {e : Nat} (k : Nat) (hk : Nat.blt k H.length = true) (hH : H.getD k (fun _ => True) = subB v bs e)
 (h : SlLen v bs.length → v.oneCell' = true → TL P w0 F n ops Q l D L H) : TL P w0 F n ops Q l D L H := TL.fact (fun w m => m.sub_len k hk hH) fun ⟨h1, h2⟩ => h h1 h2
end
theorem fill_one {v : Value} {z : Array Value} (h : v.oneCell' = true) (hz : z.size = 1) : Instr.fill (fun i => some (i * 1, 1)) z [(0, v)] = some #[v] := by
 rw [Instr.fill, cells_one h]
 simp only [Nat.zero_mul, List.size_toArray, List.length_cons, List.length_nil, Nat.zero_add, hz, ne_eq, not_true_eq_false, decide_false, Bool.false_or]
 rw [if_neg (by simp)]
 have : (#[v].zipIdx.foldl (fun cs (c, j) => cs.setIfInBounds (0 + j) c) z) = #[v] := by
  match z, hz with
  | ⟨[x]⟩, _ => rfl
 simp only [Nat.zero_add] at this
 simp only [Instr.fill]
 rw [this]
theorem isBB_one {x : Value} {bs : List UInt8} {F : Hl} (hx : IsW x bs F) (i : Nat) {g T : Nat} {B : List HP} (hi : Nat.blt i B.length = true) (e : B.getD i (fun _ => True) = blkA g [x] T) : ∀ h, Dj h F → sep B h → IsBB (.slice (some ⟨g, 0, none⟩) 1 1) [bs] (jn h F) := fun h d s =>
 .inr (.inr ⟨g, 0, 1, [x], T, (0, 0), rfl, Nat.le_refl _, by decide, ro_piece i hi e h d s, fun j hj => by
  obtain rfl : j = 0 := by simpa using hj
  exact ⟨[x], rfl, rfl, x, rfl, hx.more d⟩⟩)
theorem isB_blkN (i n : Nat) {g T : Nat} {bs : List UInt8} {B : List HP} {F : Hl} (hn : bs.length = n) (hl : n ≤ 9223372036854775807) (hi : Nat.blt i B.length = true) (e : B.getD i (fun _ => True) = blkA g (u8s bs) T) : ∀ h, Dj h F → sep B h → IsB (.slice (some ⟨g, 0, none⟩) n n) bs (jn h F) := by
 subst hn; exact isB_blk i hl hi e
def bunch (us : List Value) (ls : List (List UInt8)) (e : Nat) : HP := fun h => us.length = ls.length ∧ sep (List.zipWith (fun u l => subB u l e) us ls) h
abbrev recsP (te e : Nat) (v : Value) (ls : List (List UInt8)) : HP := pack fun us : List Value => [own v ls.length us te 1, bunch us ls e]
theorem zip_concat {α β γ : Type} (f : α → β → γ) : ∀ (us : List α) (ls : List β) (u : α) (l : β), us.length = ls.length → List.zipWith f (us ++ [u]) (ls ++ [l]) = List.zipWith f us ls ++ [f u l]
 | [], [], _, _, _ => rfl
 | [], _ :: _, _, _, h => by simp at h
 | _ :: _, [], _, _, h => by simp at h
 | x :: us, y :: ls, u, l, h => by simp [zip_concat f us ls u l (by simpa using h)]
theorem bunch_add {us : List Value} {ls : List (List UInt8)} {e : Nat} {u : Value} {l : List UInt8} {H : List HP} {h : Hl} (s : sep (bunch us ls e :: subB u l e :: H) h) : sep (bunch (us ++ [u]) (ls ++ [l]) e :: H) h := by
 have t := star_assoc.2 s
 refine star_mono t (fun h' x => ?_) fun _ x => x
 obtain ⟨h1, h2, d, rfl, ⟨hl, a⟩, b⟩ := x
 refine ⟨by simp [hl], ?_⟩
 rw [zip_concat _ _ _ _ _ hl]
 exact (sep_append _ _).2 ⟨h1, h2, d, rfl, a, sep_single b⟩
theorem bunch_nil {e : Nat} {H : List HP} {h : Hl} (s : sep H h) : sep (bunch [] [] e :: H) h := ⟨em, h, Dj.em' h, (em_jn h).symm, ⟨rfl, trivial⟩, s⟩
theorem bunch_at : ∀ (us : List Value) (ls : List (List UInt8)) (e : Nat) (h : Hl), us.length = ls.length → sep (List.zipWith (fun u l => subB u l e) us ls) h → ∀ (j : Nat) (hj : j < ls.length), ∃ u, us[j]? = some u ∧ ∃ h1 h2, Dj h1 h2 ∧ h = jn h1 h2 ∧ subB u ls[j] e h1
 | [], [], _, _, _, _, j, hj => by simp at hj
 | [], _ :: _, _, _, h, _, _, _ => by simp at h
 | _ :: _, [], _, _, h, _, _, _ => by simp at h
 | u :: us, l :: ls, e, h, hl, s, 0, _ => by
  obtain ⟨h1, h2, d, rfl, a, _⟩ := s
  exact ⟨u, rfl, h1, h2, d, rfl, a⟩
 | u :: us, l :: ls, e, h, hl, s, j + 1, hj => by
  obtain ⟨h1, h2, d, rfl, _, b⟩ := s
  obtain ⟨u', e1, g1, g2, d', rfl, a⟩ := bunch_at us ls e h2 (by simpa using hl) b j (by simpa using hj)
  refine ⟨u', by simpa using e1, g1, jn h1 g2, ?_, ?_, a⟩
  · obtain ⟨q1, q2⟩ := Dj.jn_right.1 d
    exact Dj.jn_right.2 ⟨q1.symm, d'⟩
  · rw [jn_comm d, jn_assoc, jn_comm (Dj.jn_right.1 d).2]
theorem subB_isB {v : Value} {bs : List UInt8} {e : Nat} {h1 G : Hl} (a : subB v bs e h1) (hG : Le h1 G) : IsB v bs G := by
 rcases a with ⟨x1, x2, _⟩ | ⟨g, off, cap, cur, x1, x2, x3, x4, x5, x6⟩
 · exact .inl ⟨x1, x2⟩
 · refine .inr ⟨g, off, cap, cur.toList, e, (0, 0), x1, x3, by simpa [maxLen] using x4, hG _ _ (by rw [x2]; simp [sg]), fun j hj => ?_⟩
   have e1 := congrArg (fun l : List Value => l[j]?) x6
   simp only [List.getElem?_take, if_pos hj, List.getElem?_drop] at e1
   rw [e1]; simp [u8s, List.getD_eq_getElem?_getD, hj]
theorem sep_recsNil (te e : Nat) {H : List HP} {h : Hl} (s : sep H h) : sep (recsP te e (.slice none 0 0) [] :: H) h := sep_close (p := fun us : List Value => [own (.slice none 0 0) 0 us te 1, bunch us [] e]) [] (sep_ownNil te 1 (bunch_nil s))
theorem sep_recsAdd {te e : Nat} {v' u : Value} {us : List Value} {ls : List (List UInt8)} {l : List UInt8} {H : List HP} {h : Hl} (s : sep (own v' (ls.length + 1) (us ++ [u]) te 1 :: bunch us ls e :: subB u l e :: H) h) : sep (recsP te e v' (ls ++ [l]) :: H) h :=
 sep_close (p := fun us : List Value => [own v' (ls ++ [l]).length us te 1, bunch us (ls ++ [l]) e]) (us ++ [u]) (star_mono s (fun _ x => by simpa using x) fun _ x => bunch_add x)
section
variable {P : Program} {w0 : World} {F : Hl} {n : Nat} {ops : Array Oper} {Q : QQ} {D : List Deferred} {L : List (Nat × Value)} {H : List HP} {l : List Oper}
theorem TL.recsOpen {te e : Nat} {v : Value} {ls : List (List UInt8)} (h : ∀ us, TL P w0 F n ops Q l D L (own v ls.length us te 1 :: bunch us ls e :: H)) : TL P w0 F n ops Q l D L (recsP te e v ls :: H) :=
 TL.ex (fun _ s => sep_open s) h
theorem sep_recsLen {te e : Nat} {v : Value} {ls : List (List UInt8)} {h : Hl} (s : recsP te e v ls h) : SlLen v ls.length ∧ v.oneCell' = true := by
 obtain ⟨us, g1, g2, d2, rfl, a1, _⟩ := s
 rcases a1 with ⟨q0, ⟨q1, q2, _⟩ | ⟨g, cap, cur, q1, _⟩⟩
 · subst q1
   have : ls = [] := List.eq_nil_of_length_eq_zero q2
   subst this
   exact ⟨⟨_, _, rfl⟩, rfl⟩
 · subst q1; exact ⟨⟨_, _, rfl⟩, rfl⟩
theorem TL.recsLen {te e : Nat} {v : Value} {ls : List (List UInt8)} (k : Nat) (hk : Nat.blt k H.length = true) (hH : H.getD k (fun _ => True) = recsP te e v ls) (h : SlLen v ls.length → v.oneCell' = true → TL P w0 F n ops Q l D L H) : TL P w0 F n ops Q l D L H :=
 TL.fact (p := SlLen v ls.length ∧ v.oneCell' = true) (fun w ⟨h, d, e', x⟩ => by
  obtain ⟨h1, h2, d', rfl, a, _⟩ := sep_get k (lb hk) x
  rw [hH] at a
  exact sep_recsLen a) fun ⟨h1, h2⟩ => h h1 h2
end
end Leg
namespace Leg
open Go Codec Api
section
variable {P : Program} {w0 : World} {F : Hl} {n : Nat} {L : List (Nat × Value)} {H : List HP}
theorem TE.ret3 {fn : Func} {post : Ending → List HP → Prop} {t t' t'' : Nat} {v v' v'' : Value} (hr : fn.results = #[.tmp t, .tmp t', .tmp t'']) (e : lk L t = some v) (e' : lk L t' = some v') (e'' : lk L t'' = some v'') (h : post (.returned (.tuple #[v, v', v''])) H) :
 TE w0 F n (bodyPost P fn (postOf post w0 F)) .ret [] L H := fun a w f s m => by
 refine bodyPost_ret (results_tmp3 hr _ _ _) f.2.1 ⟨s, H, m, ?_⟩
 have h1 := f.eval (x := .tmp t) e
 have h2 := f.eval (x := .tmp t') e'
 have h3 := f.eval (x := .tmp t'') e''
 rw [show a.tmps.getD t undef = v from h1, show a.tmps.getD t' undef = v' from h2, show a.tmps.getD t'' undef = v'' from h3]; exact h
end
theorem u8s_at {l : List UInt8} {j : Nat} (h : j < l.length) : (u8s l)[j]? = some (.int .u8 (((l.getD j 0).toNat : Nat) : Int)) := by simp [u8s, List.getD_eq_getElem?_getD, h]
theorem cutLH_0 {a : Addr} {m c k : Nat} (hc : 0 < c) : cutLH (.slice (some a) m c) 0 k = .slice (some a) k c := by
 simp only [cutLH, if_neg (show ¬ c = 0 by omega), Option.map_some, Nat.sub_zero]
 rfl
end Leg
namespace Leg
open Go Codec Api
section
variable {P : Program} {w0 : World} {F : Hl} {n : Nat} {ops : Array Oper} {Q : QQ} {D : List Deferred} {L : List (Nat × Value)} {H : List HP} {o : Oper} {l : List Oper} {d : Nat} {S : World → Prop}
end
end Leg
end

section
namespace Leg
open Go
theorem strCells_u8s (bs : List UInt8) : Lib.strCells ⟨bs.toArray⟩ = u8s bs := by simp [Lib.strCells, u8s]
theorem str_size (bs : List UInt8) : (⟨bs.toArray⟩ : ByteArray).size = bs.length := by simp [ByteArray.size]
section
variable {P : Program} {w0 : World} {F : Hl} {n : Nat} {ops : Array Oper} {Q : QQ} {D : List Deferred} {L : List (Nat × Value)} {H : List HP} {o : Oper} {l : List Oper} {d : Nat} {S : World → Prop}
theorem run_appendT {w : World} {k nn : Nat} {v : Value} {xs : List Value} {bs : List UInt8} {t u ty e : Nat} (s : Sat H F w) (ht : P.underlying t = some (.slice e)) (hu : P.underlying u = some .string)
 (hi : (P.info? e).map (fun i => (i.zero, i.size, i.bytes)) = some (some (.int .u8 0), 1, 1)) (hk : k < H.length) (hH : H.getD k (fun _ => True) = own v nn xs e 1) (hb : nn + bs.length ≤ maxLen) (hby : nn + bs.length ≤ 140737488355328) :
 ∃ v' w', (Builtin.append_ #[t, u] ty #[v, strV bs]).run P w = .ok v' w' ∧ Same w w' ∧ Sat (H.set k (own v' (nn + bs.length) (xs ++ u8s bs) e 1)) F w' := by
 obtain ⟨i, hie, hz0, hs1, hb1⟩ := info_parts hi
 have hlx := s.own_len hk hH
 have hsz := str_size bs
 have hsc := strCells_u8s bs
 have hll : (xs ++ u8s bs).length = (nn + bs.length) * 1 := by rw [List.length_append, hlx, u8s_length, Nat.add_mul]; omega
 have hsmall : nn + bs.length ≤ 9223372036854775807 := by simp only [maxLen] at hb; omega
 have hz1 : (Value.int IntKind.u8 0).cells.size = 1 := rfl
 have fresh : ∀ old, old < nn + bs.length → (∀ h, obj w.heap.size (.cells (xs.toArray ++ (u8s bs).toArray ++ Builtin.zeroCells (Value.int .u8 0).cells (grownCap w (nn + bs.length) old e - (nn + bs.length))) e) h →
  own (.slice (some ⟨w.heap.size, 0, none⟩) (nn + bs.length) (grownCap w (nn + bs.length) old e)) (nn + bs.length) (xs ++ u8s bs) e 1 h) := fun old _ h hh => by
  have hge := grownCap_ge w (nn + bs.length) old e
  refine ⟨hll, .inr ⟨_, _, _, rfl, hh, hge, grownCap_le_maxLen w (nn + bs.length) old e hb, ?_, ?_⟩⟩
  · simp only [Array.size_append, List.size_toArray, size_zeroCells, hz1, hlx, u8s_length]
    omega
  · simp only [Array.toList_append, List.append_assoc]
    rw [← List.append_assoc, ← hll]
    exact List.take_left
 have same : ∀ ob, Same w (w.drew.alloc ob) := fun ob => ⟨rfl, rfl, rfl, by simp⟩
 have u0 : bs.length = 0 → u8s bs = [] := fun hm => List.eq_nil_of_length_eq_zero (by rw [u8s_length]; exact hm)
 rcases s.own_form hk hH with ⟨rfl, rfl, rfl⟩ | ⟨g, cap, rfl⟩
 · by_cases hm : bs.length = 0
   · have hn := u0 hm
     refine ⟨.slice none 0 0, w, ?_, Same.refl w, s.turn k hk (fun h hh => by rw [hH] at hh; rw [hm, hn]; simpa using hh)⟩
     have hf := Lib.run_firstCells_string (P := P) w 1 ⟨bs.toArray⟩
     rw [hsz, hm] at hf
     simp [Builtin.append_, run_underlying ht, run_underlying hu, Go.sizeOf, typeInfo, hie, hs1, Builtin.lenOf, hsz, hm, hf]
   · have hr := run_append_nil_string (P := P) w t u ty e i (.int .u8 0) ht hu hie hz0 ⟨bs.toArray⟩ (by rw [hsz]; omega) (by rw [hsz]; omega) (by rw [hsz, hb1]; omega)
     have e1 : ((⟨bs.toArray⟩ : ByteArray).data.map fun b => Value.int .u8 b.toNat) = (u8s bs).toArray := by
      rw [← hsc]
      apply Array.ext'
      simp [Lib.strCells]
     rw [e1, hsz] at hr
     refine ⟨_, _, hr, same _, ?_⟩
     have := fresh 0 (by omega)
     simp only [Nat.zero_add, List.nil_append, Array.empty_append] at this ⊢
     exact Sat.swap k hk (s.drew.alloc _) this
 · obtain ⟨cur, hH1, hnc, hcm, hcs, htake⟩ := s.own_open hk hH
   have hlen : k < (H.set k (obj g (.cells cur e (0, 0)))).length := by simpa using hk
   have hg := hH1.block k hlen (getD_set hk _)
   have hcs' : cur.size = cap := by simpa using hcs
   by_cases hroom : nn + bs.length ≤ cap
   · have hr := Lib.run_append_room_string (P := P) w t u ty e i ht hu hie hs1 g nn cap cur hg ⟨bs.toArray⟩ (by rw [hsz]; exact hroom) (by rw [hsz]; omega)
     rw [hsz, hsc] at hr
     have h2 := hH1.write k hlen (getD_set hk _) (setRow_heap w g cur (cur.toList.take nn ++ u8s bs ++ cur.toList.drop (nn + bs.length)).toArray e _ hg) (fun j hj => setRow_other w g j _ hj)
     rw [List.set_set] at h2
     have h3 := h2.turn (q := own (.slice (some ⟨g, 0, none⟩) (nn + bs.length) cap) (nn + bs.length) (xs ++ u8s bs) e 1) k (by simpa using hk) (fun h hh => by
      rw [getD_set hk] at hh
      refine ⟨hll, .inr ⟨g, cap, _, rfl, hh, hroom, hcm, ?_, ?_⟩⟩
      · simp only [List.size_toArray, List.length_append, List.length_take, List.length_drop, Array.length_toList, u8s_length]
        omega
      · have ht' : cur.toList.take nn = xs := by simpa using htake
        rw [ht', ← hll]
        exact List.take_left)
     rw [List.set_set] at h3
     exact ⟨_, _, hr, ⟨rfl, rfl, rfl, by simp⟩, h3⟩
   · have holds : ∀ j u, xs[j]? = some u → w.cell? ((⟨g, 0, none⟩ : Addr).add j) = some u := fun j u hj => by
      rw [addL]
      subst htake
      rw [List.getElem?_take] at hj
      split at hj
      · simpa [World.cell?, hg] using hj
      · cases hj
     have hr := Lib.run_append_grow_string (P := P) w t u ty e i (.int .u8 0) ht hu hie hz0 ⟨g, 0, none⟩ nn cap xs (by rw [hs1]; simpa using hlx) holds ⟨bs.toArray⟩ (by rw [hsz]; omega) (by rw [hsz]; omega) (by rw [hsz, hb1]; exact growslice_fits (by omega) (by omega))
     rw [hsz, hsc] at hr
     exact ⟨_, _, hr, same _, Sat.swap k hk (s.drew.alloc _) (fresh cap (by omega))⟩
theorem TL.appendT {s x : Operand} {k : Nat} {v : Value} {bs ys : List UInt8} {t u e : Nat} (hw : Want n D ops o L)
 (ho : o.op = .call { callee := .builtin .append, args := #[s, x], argTypes := #[t, u] }) (hd : o.dst = some d) (hn : Nat.blt d n = true) (ht : P.underlying t = some (.slice e)) (hu : P.underlying u = some .string)
 (hi : (P.info? e).map (fun i => (i.zero, i.size, i.bytes)) = some (some (.int .u8 0), 1, 1)) (hs : evL L s = some v) (hx : evL L x = some (strV ys))
 (hk : Nat.blt k H.length = true) (hH : H.getD k (fun _ => True) = ownB v bs e) (hb : bs.length + ys.length ≤ maxLen) (hby : bs.length + ys.length ≤ 140737488355328)
 (h : ∀ v', v'.oneCell' = true → TL P w0 F n ops Q l D ((d, v') :: L) (H.set k (ownB v' (bs ++ ys) e))) : TL P w0 F n ops Q (o :: l) D L H :=
 TL.step hw fun a w f sm q => by
  obtain ⟨v', w', hr, s', q'⟩ := run_appendT (ty := o.type) (bs := ys) q ht hu hi (lb hk) hH hb hby
  have e2 : own v' (bs.length + ys.length) (u8s bs ++ u8s ys) e 1 = ownB v' (bs ++ ys) e := by
   unfold ownB
   rw [List.length_append, u8s_append]
  have one : v'.oneCell' = true := by
   rcases q'.own_form (i := k) (by simpa using lb hk) (getD_set (lb hk) _) with ⟨rfl, _⟩ | ⟨g, c, rfl⟩ <;> rfl
  rw [e2] at q'
  unfold Oper.wp execOp
  simp only [ho, resolve, invoke, builtin, Sem.run_bind, Sem.run_pure, Result.andThen_ok, List.map_toArray, List.map_cons, List.map_nil, f.eval hs, f.eval hx, hr]
  rw [Oper.upon_value, hd]
  exact h v' one _ w' (f.put (lb hn) v') (sm.trans s') q'
end
end Leg
end

section
namespace Leg
open Go
section
variable {P : Program} {w0 : World} {F : Hl} {n : Nat} {ops : Array Oper} {Q : QQ} {D : List Deferred} {L : List (Nat × Value)} {H : List HP} {o : Oper} {l : List Oper} {d : Nat} {S : World → Prop}
theorem freeze_at {w : World} {g : Nat} {cur : Array Value} {e : TypeId} (hg : w.heap[g]? = some (.cells cur e (0, 0))) {m : Nat} (hm : 0 < m) : (w.freeze ⟨g, 0, none⟩ m).heap[g]? = some (.cells cur e (0, m)) ∧ (∀ j, j ≠ g → (w.freeze ⟨g, 0, none⟩ m).heap[j]? = w.heap[j]?) ∧ Same w (w.freeze ⟨g, 0, none⟩ m) := by
 unfold World.freeze
 rw [if_neg (by omega)]
 refine ⟨?_, fun j hj => ?_, ⟨rfl, rfl, rfl, by simp⟩⟩
 · simp only [Array.getElem?_modify, hg]
   simp
 · simp only [Array.getElem?_modify]
   rw [if_neg (fun e => hj e.symm)]
theorem TL.unsafeStr {x y : Operand} {k g cap : Nat} {bs : List UInt8} {pt it e : TypeId} (hw : Want n D ops o L) (ho : o.op = .call { callee := .builtin .unsafeString, args := #[x, y], argTypes := #[pt, it] }) (hd : o.dst = some d) (hn : Nat.blt d n = true)
 (hp : P.underlying pt = some (.pointer e)) (hc : P.cellsOf e = 1) (hx : evL L x = some (.pointer (some ⟨g, 0, none⟩))) (hy : evL L y = some (.int .i64 ((bs.length : Nat) : Int)))
 (hk : Nat.blt k H.length = true) (hH : H.getD k (fun _ => True) = ownB (.slice (some ⟨g, 0, none⟩) bs.length cap) bs e) (h0 : 0 < bs.length) (h63 : bs.length ≤ 9223372036854775807)
 (h : TL P w0 F n ops Q l D ((d, strV bs) :: L) (H.set k (fun _ => True))) : TL P w0 F n ops Q (o :: l) D L H :=
 TL.step hw fun a w f sm q => by
  obtain ⟨cur, hH1, hnc, hcm, hcs, htake⟩ := q.own_open (lb hk) hH
  have hlen : k < (H.set k (obj g (.cells cur e (0, 0)))).length := by simpa using lb hk
  have hg := hH1.block k hlen (getD_set (lb hk) _)
  have hcs' : cur.size = cap := by simpa using hcs
  have hcell : ∀ j x, bs[j]? = some x → w.cell? ((⟨g, 0, none⟩ : Addr).add j) = some (.int .u8 x.toNat) := fun j x hj => by
   rw [addL]
   have hj' : (u8s bs)[j]? = some (.int .u8 ((x.toNat : Nat) : Int)) := by simp [u8s, hj]
   rw [← htake, List.getElem?_take] at hj'
   split at hj'
   · simpa [World.cell?, hg] using hj'
   · cases hj'
  have hr := Lib.run_unsafeString_row (P := P) w pt it o.type e hp hc g cur.size (by simp [World.shape?, hg]) bs (fun e => by rw [e] at h0; exact absurd h0 (by decide)) (by omega) h63 hcell
  obtain ⟨h1, h2, h3⟩ := freeze_at hg h0
  have q' := hH1.write k hlen (getD_set (lb hk) _) h1 h2
  rw [List.set_set] at q'
  have q2 := q'.turn (q := fun _ => True) k (by simpa using lb hk) (fun _ _ => trivial)
  rw [List.set_set] at q2
  unfold Oper.wp execOp
  simp only [ho, resolve, invoke, builtin, Sem.run_bind, Sem.run_pure, Result.andThen_ok, List.map_toArray, List.map_cons, List.map_nil, f.eval hx, f.eval hy, hr]
  rw [Oper.upon_value, hd]
  exact h _ _ (f.put (lb hn) (strV bs)) (sm.trans h3) q2
theorem PV.sliceData {t : TypeId} {x : Operand} {g m cap : Nat} (ho : o.op = .call { callee := .builtin .unsafeSliceData, args := #[x], argTypes := #[t] }) (hx : evL L x = some (.slice (some ⟨g, 0, none⟩) m cap)) (hc : 0 < cap) : PV P n D L S o (.pointer (some ⟨g, 0, none⟩)) := fun a w f _ => by
 have := Lib.run_unsafeSliceData_row (P := P) (w := w) #[t] o.type ⟨g, 0, none⟩ m cap (by omega)
 simp [execOp, ho, resolve, invoke, builtin, f.eval hx, this]
end
end Leg
end

section
namespace Leg
open Go
section
variable {P : Program} {w0 : World} {F : Hl} {n : Nat} {ops : Array Oper} {Q : QQ} {D : List Deferred} {L : List (Nat × Value)} {H : List HP} {o : Oper} {l : List Oper} {d : Nat} {S : World → Prop}
theorem str_cut (bs : List UInt8) (a b : Nat) : (⟨bs.toArray⟩ : ByteArray).extract a b = ⟨((bs.take b).drop a).toArray⟩ := by
 apply ByteArray.ext
 simp [ByteArray.data_extract, List.drop_take]
theorem PV.strSlice {t : TypeId} {x y z : Operand} {bs : List UInt8} {lo hi : Nat} {k k' : IntKind} {i j : Int} (ho : o.op = .slice t x (some y) (some z) none) (ht : P.underlying t = some .string) (hx : evL L x = some (strV bs)) (hy : evL L y = some (.int k i)) (hz : evL L z = some (.int k' j))
 (hi' : i = (lo : Int)) (hj : j = (hi : Int)) (h1 : lo ≤ hi) (h2 : hi ≤ bs.length) : PV P n D L S o (strV ((bs.take hi).drop lo)) :=
 fun b w g _ => by
  subst hi'; subst hj
  simp only [execOp, ho, g.eval hx, Option.map_some, Option.map_none, g.eval hy, g.eval hz]
  have hs := str_size bs
  simp [Instr.sliceAt, Instr.slice, run_underlying ht, Instr.sliceBounds, Instr.sliceBound, asIntOf, hs, h1, h2, str_cut]
theorem PV.strTo {t : TypeId} {x z : Operand} {bs : List UInt8} {hi : Nat} {k' : IntKind} {j : Int} (ho : o.op = .slice t x none (some z) none) (ht : P.underlying t = some .string) (hx : evL L x = some (strV bs)) (hz : evL L z = some (.int k' j)) (hj : j = (hi : Int)) (h2 : hi ≤ bs.length) : PV P n D L S o (strV (bs.take hi)) :=
 fun b w g _ => by
  subst hj
  simp only [execOp, ho, g.eval hx, Option.map_some, Option.map_none, g.eval hz]
  have hs := str_size bs
  simp [Instr.sliceAt, Instr.slice, run_underlying ht, Instr.sliceBounds, Instr.sliceBound, asIntOf, hs, h2, str_cut]
theorem PV.strLen {t : TypeId} {x : Operand} {bs : List UInt8} (ho : o.op = .call { callee := .builtin .len, args := #[x], argTypes := #[t] }) (ht : P.underlying t = some .string) (hx : evL L x = some (strV bs)) : PV P n D L S o (.int .i64 ((bs.length : Nat) : Int)) := fun b w g _ => by
 have hs := str_size bs
 simp [execOp, ho, resolve, g.eval hx, invoke, builtin, Builtin.len_, run_underlying ht, goInt, hs]
theorem PV.toUnsafe {t t' u e : TypeId} {x : Operand} {b j m : Nat} {cs : List Value} {z : Nat × Nat} (ho : o.op = .convert t t' x) (ht : P.underlying t = some (.pointer u)) (ht' : P.underlying t' = some .unsafePointer) (hs : (P.info? u).map (·.size) = some (m + 1)) (hx : evL L x = some (.pointer (some ⟨b, j, none⟩)))
 (hR : Rd S b (.cells cs.toArray e z)) (hj : j < cs.length) : PV P n D L S o (.pointer (some ⟨b, j, none⟩)) := fun a w g q => by
 obtain ⟨i, hu, hi0⟩ := Option.map_eq_some_iff.1 hs
 have hi : i.size ≠ 0 := by rw [hi0]; exact Nat.succ_ne_zero m
 have hb := hR w q
 have := Lib.run_to_unsafe (P := P) w ⟨b, j, none⟩ ht ht' hu hi (e := e) (cells := cs.length) (by simp [World.shape?, hb]) hj
 simp [execOp, ho, g.eval hx, this]
theorem PV.ofUnsafe {t t' u e : TypeId} {x : Operand} {b j k : Nat} {cs : List Value} {z : Nat × Nat} (ho : o.op = .convert t t' x) (ht : P.underlying t = some .unsafePointer) (ht' : P.underlying t' = some (.pointer u)) (hs : (P.info? u).map (·.size) = some k) (hx : evL L x = some (.pointer (some ⟨b, j, none⟩)))
 (hR : Rd S b (.cells cs.toArray e z)) (hl : liesAt P P.depth e (cs.length / P.cellsOf e) j u 1 = true) : PV P n D L S o (.pointer (some ⟨b, j, none⟩)) := fun a w g q => by
 obtain ⟨i, hu, _⟩ := Option.map_eq_some_iff.1 hs
 have hb := hR w q
 have := Lib.run_from_unsafe (P := P) w ⟨b, j, none⟩ ht ht' hu (e := e) (cells := cs.length) (by simp [World.shape?, hb]) hl
 simp [execOp, ho, g.eval hx, this]
theorem PV.ptrNeqSame {t t' te k : TypeId} {x y : Operand} {a : Addr} (ho : o.op = .binOp .neq t x y t') (ht : P.underlying t = some (.pointer te)) (hs : (P.info? te).map (·.size) = some k) (hx : evL L x = some (.pointer (some a))) (hy : evL L y = some (.pointer (some a))) : PV P n D L S o (.bool false) :=
 PV.bin ho hx hy (fun w => by
  obtain ⟨i, hi, _⟩ := Option.map_eq_some_iff.1 hs
  have := Lib.run_neq_ptr_same (P := P) w a ht hi
  simpa [eqGuard] using this)
theorem PV.noEscape {f : FuncId} {fn : Func} {x : Operand} {ts : Array TypeId} {v : Value} (ho : o.op = .call { callee := .value (.func f), args := #[x], argTypes := ts }) (hf : P.funcs[f]? = some fn) (hname : (fn.name == "runtime.NumGoroutine") = false) (hb : fn.body.isNone = true) (hn : Extern.findNext fn = none)
 (he : Extern.find fn = some Extern.AbiNoEscape.same) (hx : evL L x = some v) : PV P n D L S o v := fun a w g _ => by
 have h := run_callFunc_extern hf hname hb hn he #[v] w
 rw [Lib.run_noEscape] at h
 have hr : (callFunc f #[v]).run P w = .ok (.value v) w := h
 have e : (#[x].map a.eval) = #[v] := by simp [g.eval hx]
 simp only [execOp, ho, resolve]
 rw [e]
 simp [Act.eval, Deferred.ofValue, invoke, hr]
end
end Leg
end

namespace Go.Proofs.YtohmkchalilodaaGreatDoor
abbrev Y3 := Tryz.underlying3
abbrev Y4 := Tryz.underlying4
abbrev Y5 := Tryz.underlying5
abbrev Y9 := Tryz.underlying9
abbrev Y23 := Tryz.underlying23
abbrev Y28 := Tryz.underlying28
abbrev Y30 := Tryz.underlying30
abbrev Y36 := Tryz.underlying36
abbrev Y42 := Tryz.underlying42
abbrev Y47 := Tryz.underlying47
abbrev Y49 := Tryz.underlying49
abbrev Y51 := Tryz.underlying51
abbrev Y52 := Tryz.underlying52
abbrev Y53 := Tryz.underlying53
abbrev Y56 := Tryz.underlying56
abbrev Y63 := Tryz.underlying63
abbrev Y68 := Tryz.underlying68
abbrev Y70 := Tryz.underlying70
abbrev Y71 := Tryz.underlying71
abbrev Y72 := Tryz.underlying72
abbrev Y74 := Tryz.underlying74
abbrev Y75 := Tryz.underlying75
abbrev Y77 := Tryz.underlying77
abbrev Y85 := Tryz.underlying85
abbrev Y88 := Tryz.underlying88
abbrev Y90 := Tryz.underlying90
abbrev Y93 := Tryz.underlying93
abbrev Y95 := Tryz.underlying95
abbrev Y98 := Tryz.underlying98
abbrev Y102 := Tryz.underlying102
abbrev Y103 := Tryz.underlying103
abbrev Y104 := Tryz.underlying104
abbrev Y108 := Tryz.underlying108
abbrev Y109 := Tryz.underlying109
abbrev Y111 := Tryz.underlying111
abbrev Y112 := Tryz.underlying112
abbrev Y118 := Tryz.underlying118
abbrev Y134 := Tryz.underlying134
abbrev Y145 := Tryz.underlying145
abbrev Y147 := Tryz.underlying147
abbrev Y154 := Tryz.underlying154
abbrev Y155 := Tryz.underlying155
abbrev Y159 := Tryz.underlying159
abbrev Y161 := Tryz.underlying161
abbrev Y163 := Tryz.underlying163
abbrev Y167 := Tryz.underlying167
abbrev Y171 := Tryz.underlying171
abbrev Y216 := Tryz.underlying216
abbrev Y218 := Tryz.underlying218
abbrev Y239 := Tryz.underlying239
abbrev Y246 := Tryz.underlying246
end Go.Proofs.YtohmkchalilodaaGreatDoor
section
namespace Go.Proofs.YtohmkchalilodaaGreatDoor
open Go Leg
theorem sz3 : (Tryz.prog.info? 3).map (·.size) = some 1 := by kernel_rfl
theorem in3 : (Tryz.prog.info? 3).map (fun i => (i.zero, i.size, i.bytes)) = some (some (.int .i64 0), 1, 8) := by kernel_rfl
theorem sz4 : (Tryz.prog.info? 4).map (·.size) = some 1 := by kernel_rfl
theorem z4 : (Tryz.prog.info? 4).map (·.zero) = some (some (.bool false)) := by kernel_rfl
theorem sz5 : (Tryz.prog.info? 5).map (·.size) = some 1 := by kernel_rfl
theorem in5 : (Tryz.prog.info? 5).map (fun i => (i.zero, i.size, i.bytes)) = some (some (.int .u8 0), 1, 1) := by kernel_rfl
theorem sz23 : (Tryz.prog.info? 23).map (·.size) = some 1 := by kernel_rfl
theorem sz28 : (Tryz.prog.info? 28).map (·.size) = some 3 := by kernel_rfl
theorem z28 : (Tryz.prog.info? 28).map (·.zero) = some (some (.agg #[.int .i64 0, .int .i64 0, .int .i64 0])) := by kernel_rfl
theorem sz30 : (Tryz.prog.info? 30).map (·.size) = some 11 := by kernel_rfl
theorem in30 : (Tryz.prog.info? 30).map (fun i => (i.zero, i.size, i.bytes)) = some (some (.agg #[.int .i64 0, .int .i64 0, .int .i64 0, .int .i64 0, .int .i64 0, .int .i64 0, .int .i64 0, .int .i64 0, .int .i64 0, .int .i64 0, .int .i64 0]), 11, 88) := by kernel_rfl
theorem z30 : (Tryz.prog.info? 30).map (·.zero) = some (some (.agg #[.int .i64 0, .int .i64 0, .int .i64 0, .int .i64 0, .int .i64 0, .int .i64 0, .int .i64 0, .int .i64 0, .int .i64 0, .int .i64 0, .int .i64 0])) := by kernel_rfl
theorem sz36 : (Tryz.prog.info? 36).map (·.size) = some 1 := by kernel_rfl
theorem sz42 : (Tryz.prog.info? 42).map (·.size) = some 1 := by kernel_rfl
theorem in45 : (Tryz.prog.info? 45).map (fun i => (i.zero, i.size, i.bytes)) = some (some (.agg #[.int .i64 0, .int .i64 0, .int .i64 0]), 3, 24) := by kernel_rfl
theorem sz47 : (Tryz.prog.info? 47).map (·.size) = some 1 := by kernel_rfl
theorem in47 : (Tryz.prog.info? 47).map (fun i => (i.zero, i.size, i.bytes)) = some (some (.slice none 0 0), 1, 24) := by kernel_rfl
theorem z47 : (Tryz.prog.info? 47).map (·.zero) = some (some (.slice none 0 0)) := by kernel_rfl
theorem sz49 : (Tryz.prog.info? 49).map (·.size) = some 1 := by kernel_rfl
theorem sz51 : (Tryz.prog.info? 51).map (·.size) = some 1 := by kernel_rfl
theorem sz52 : (Tryz.prog.info? 52).map (·.size) = some 5 := by kernel_rfl
theorem sz53 : (Tryz.prog.info? 53).map (·.size) = some 5 := by kernel_rfl
theorem z53 : (Tryz.prog.info? 53).map (·.zero) = some (some (.agg #[.pointer none, .pointer none, .pointer none, .pointer none, .pointer none])) := by kernel_rfl
theorem sz54 : (Tryz.prog.info? 54).map (·.size) = some 5 := by kernel_rfl
theorem sz68 : (Tryz.prog.info? 68).map (·.size) = some 5 := by kernel_rfl
theorem z68 : (Tryz.prog.info? 68).map (·.zero) = some (some (.agg #[.int .i64 0, .int .i64 0, .int .i64 0, .int .i64 0, .int .i64 0])) := by kernel_rfl
theorem sz70 : (Tryz.prog.info? 70).map (·.size) = some 7 := by kernel_rfl
theorem z70 : (Tryz.prog.info? 70).map (·.zero) = some (some (.agg #[.int .i64 0, .int .i64 0, .int .i64 0, .int .i64 0, .int .i64 0, .int .i64 0, .int .i64 0])) := by kernel_rfl
theorem sz71 : (Tryz.prog.info? 71).map (·.size) = some 28 := by kernel_rfl
theorem sz72 : (Tryz.prog.info? 72).map (·.size) = some 140 := by kernel_rfl
theorem sz74 : (Tryz.prog.info? 74).map (·.size) = some 174 := by kernel_rfl
theorem z74 : (Tryz.prog.info? 74).map (·.zero) = some (some (.agg (Api.ints Api.RowT.zero.flat).toArray)) := by kernel_rfl
theorem sz83 : (Tryz.prog.info? 83).map (·.size) = some 1 := by kernel_rfl
theorem sz85 : (Tryz.prog.info? 85).map (·.size) = some 7 := by kernel_rfl
theorem z85 : (Tryz.prog.info? 85).map (·.zero) = some (some (.agg #[.int .i64 0, .int .i64 0, .int .i64 0, .int .i64 0, .int .i64 0, .int .i64 0, .int .i64 0])) := by kernel_rfl
theorem sz86 : (Tryz.prog.info? 86).map (·.size) = some 5 := by kernel_rfl
theorem sz90 : (Tryz.prog.info? 90).map (·.size) = some 2 := by kernel_rfl
theorem z90 : (Tryz.prog.info? 90).map (·.zero) = some (some (.agg #[.int .i64 0, .int .i64 0])) := by kernel_rfl
theorem sz92 : (Tryz.prog.info? 92).map (·.size) = some 8 := by kernel_rfl
theorem sz93 : (Tryz.prog.info? 93).map (·.size) = some 1 := by kernel_rfl
theorem sz102 : (Tryz.prog.info? 102).map (·.size) = some 1 := by kernel_rfl
theorem sz103 : (Tryz.prog.info? 103).map (·.size) = some 5 := by kernel_rfl
theorem z103 : (Tryz.prog.info? 103).map (·.zero) = some (some (.agg #[.pointer none, .pointer none, .pointer none, .pointer none, .pointer none])) := by kernel_rfl
theorem sz104 : (Tryz.prog.info? 104).map (·.size) = some 25 := by kernel_rfl
theorem sz108 : (Tryz.prog.info? 108).map (·.size) = some 1 := by kernel_rfl
theorem sz109 : (Tryz.prog.info? 109).map (·.size) = some 1 := by kernel_rfl
theorem sz118 : (Tryz.prog.info? 118).map (·.size) = some 189 := by kernel_rfl
theorem sz134 : (Tryz.prog.info? 134).map (·.size) = some 192 := by kernel_rfl
theorem z134 : (Tryz.prog.info? 134).map (·.zero) = some (some (.agg (Api.ints Api.MsgT.zero.flat).toArray)) := by kernel_rfl
theorem sz145 : (Tryz.prog.info? 145).map (·.size) = some 64 := by kernel_rfl
theorem z145 : (Tryz.prog.info? 145).map (·.zero) = some (some (.agg #[.int .u8 0, .int .u8 0, .int .u8 0, .int .u8 0, .int .u8 0, .int .u8 0, .int .u8 0, .int .u8 0, .int .u8 0, .int .u8 0, .int .u8 0, .int .u8 0, .int .u8 0, .int .u8 0, .int .u8 0, .int .u8 0, .int .u8 0, .int .u8 0, .int .u8 0, .int .u8 0, .int .u8 0, .int .u8 0, .int .u8 0, .int .u8 0, .int .u8 0, .int .u8 0, .int .u8 0, .int .u8 0, .int .u8 0, .int .u8 0, .int .u8 0, .int .u8 0, .int .u8 0, .int .u8 0, .int .u8 0, .int .u8 0, .int .u8 0, .int .u8 0, .int .u8 0, .int .u8 0, .int .u8 0, .int .u8 0, .int .u8 0, .int .u8 0, .int .u8 0, .int .u8 0, .int .u8 0, .int .u8 0, .int .u8 0, .int .u8 0, .int .u8 0, .int .u8 0, .int .u8 0, .int .u8 0, .int .u8 0, .int .u8 0, .int .u8 0, .int .u8 0, .int .u8 0, .int .u8 0, .int .u8 0, .int .u8 0, .int .u8 0, .int .u8 0])) := by kernel_rfl
theorem sz147 : (Tryz.prog.info? 147).map (·.size) = some 65 := by kernel_rfl
theorem in147 : (Tryz.prog.info? 147).map (fun i => (i.zero, i.size, i.bytes)) = some (some (.agg #[.int .i64 0, .int .u8 0, .int .u8 0, .int .u8 0, .int .u8 0, .int .u8 0, .int .u8 0, .int .u8 0, .int .u8 0, .int .u8 0, .int .u8 0, .int .u8 0, .int .u8 0, .int .u8 0, .int .u8 0, .int .u8 0, .int .u8 0, .int .u8 0, .int .u8 0, .int .u8 0, .int .u8 0, .int .u8 0, .int .u8 0, .int .u8 0, .int .u8 0, .int .u8 0, .int .u8 0, .int .u8 0, .int .u8 0, .int .u8 0, .int .u8 0, .int .u8 0, .int .u8 0, .int .u8 0, .int .u8 0, .int .u8 0, .int .u8 0, .int .u8 0, .int .u8 0, .int .u8 0, .int .u8 0, .int .u8 0, .int .u8 0, .int .u8 0, .int .u8 0, .int .u8 0, .int .u8 0, .int .u8 0, .int .u8 0, .int .u8 0, .int .u8 0, .int .u8 0, .int .u8 0, .int .u8 0, .int .u8 0, .int .u8 0, .int .u8 0, .int .u8 0, .int .u8 0, .int .u8 0, .int .u8 0, .int .u8 0, .int .u8 0, .int .u8 0, .int .u8 0]), 65, 72) := by kernel_rfl
theorem z147 : (Tryz.prog.info? 147).map (·.zero) = some (some (.agg #[.int .i64 0, .int .u8 0, .int .u8 0, .int .u8 0, .int .u8 0, .int .u8 0, .int .u8 0, .int .u8 0, .int .u8 0, .int .u8 0, .int .u8 0, .int .u8 0, .int .u8 0, .int .u8 0, .int .u8 0, .int .u8 0, .int .u8 0, .int .u8 0, .int .u8 0, .int .u8 0, .int .u8 0, .int .u8 0, .int .u8 0, .int .u8 0, .int .u8 0, .int .u8 0, .int .u8 0, .int .u8 0, .int .u8 0, .int .u8 0, .int .u8 0, .int .u8 0, .int .u8 0, .int .u8 0, .int .u8 0, .int .u8 0, .int .u8 0, .int .u8 0, .int .u8 0, .int .u8 0, .int .u8 0, .int .u8 0, .int .u8 0, .int .u8 0, .int .u8 0, .int .u8 0, .int .u8 0, .int .u8 0, .int .u8 0, .int .u8 0, .int .u8 0, .int .u8 0, .int .u8 0, .int .u8 0, .int .u8 0, .int .u8 0, .int .u8 0, .int .u8 0, .int .u8 0, .int .u8 0, .int .u8 0, .int .u8 0, .int .u8 0, .int .u8 0, .int .u8 0])) := by kernel_rfl
theorem z154 : (Tryz.prog.info? 154).map (·.zero) = some (some (.agg #[.int .i64 0, .int .i64 0, .int .i64 0, .int .i64 0, .int .i64 0, .int .i64 0, .int .i64 0, .int .i64 0, .int .i64 0, .int .i64 0, .int .i64 0, .int .i64 0, .int .i64 0, .int .i64 0, .int .i64 0, .int .i64 0, .int .i64 0, .int .i64 0, .int .i64 0, .int .i64 0, .int .i64 0, .int .i64 0, .int .i64 0, .int .i64 0, .int .i64 0, .int .i64 0, .int .i64 0, .int .i64 0, .int .i64 0, .int .i64 0, .int .i64 0, .int .i64 0, .int .i64 0, .int .i64 0, .int .i64 0])) := by kernel_rfl
theorem sz159 : (Tryz.prog.info? 159).map (·.size) = some 1 := by kernel_rfl
theorem sz161 : (Tryz.prog.info? 161).map (·.size) = some 2 := by kernel_rfl
theorem sz167 : (Tryz.prog.info? 167).map (·.size) = some 1 := by kernel_rfl
theorem z216 : (Tryz.prog.info? 216).map (·.zero) = some (some (.agg #[.slice none 0 0])) := by kernel_rfl
theorem sz218 : (Tryz.prog.info? 218).map (·.size) = some 0 := by kernel_rfl
theorem z218 : (Tryz.prog.info? 218).map (·.zero) = some (some (.agg #[])) := by kernel_rfl
theorem z239 : (Tryz.prog.info? 239).map (·.zero) = some (some (.agg #[.slice none 0 0])) := by kernel_rfl
theorem nm8 : Named Tryz.prog 8 := ⟨Tryz.f8, Tryz.func8, by kernel_rfl, by kernel_rfl⟩
theorem nm9 : Named Tryz.prog 9 := ⟨Tryz.f9, Tryz.func9, by kernel_rfl, by kernel_rfl⟩
theorem nm10 : Named Tryz.prog 10 := ⟨Tryz.f10, Tryz.func10, by kernel_rfl, by kernel_rfl⟩
theorem nm11 : Named Tryz.prog 11 := ⟨Tryz.f11, Tryz.func11, by kernel_rfl, by kernel_rfl⟩
theorem nm12 : Named Tryz.prog 12 := ⟨Tryz.f12, Tryz.func12, by kernel_rfl, by kernel_rfl⟩
theorem nm13 : Named Tryz.prog 13 := ⟨Tryz.f13, Tryz.func13, by kernel_rfl, by kernel_rfl⟩
theorem nm14 : Named Tryz.prog 14 := ⟨Tryz.f14, Tryz.func14, by kernel_rfl, by kernel_rfl⟩
theorem nm17 : Named Tryz.prog 17 := ⟨Tryz.f17, Tryz.func17, by kernel_rfl, by kernel_rfl⟩
theorem nm18 : Named Tryz.prog 18 := ⟨Tryz.f18, Tryz.func18, by kernel_rfl, by kernel_rfl⟩
theorem nm19 : Named Tryz.prog 19 := ⟨Tryz.f19, Tryz.func19, by kernel_rfl, by kernel_rfl⟩
theorem nm20 : Named Tryz.prog 20 := ⟨Tryz.f20, Tryz.func20, by kernel_rfl, by kernel_rfl⟩
theorem nm21 : Named Tryz.prog 21 := ⟨Tryz.f21, Tryz.func21, by kernel_rfl, by kernel_rfl⟩
theorem nm22 : Named Tryz.prog 22 := ⟨Tryz.f22, Tryz.func22, by kernel_rfl, by kernel_rfl⟩
theorem nm23 : Named Tryz.prog 23 := ⟨Tryz.f23, Tryz.func23, by kernel_rfl, by kernel_rfl⟩
theorem nm24 : Named Tryz.prog 24 := ⟨Tryz.f24, Tryz.func24, by kernel_rfl, by kernel_rfl⟩
theorem nm25 : Named Tryz.prog 25 := ⟨Tryz.f25, Tryz.func25, by kernel_rfl, by kernel_rfl⟩
theorem nm26 : Named Tryz.prog 26 := ⟨Tryz.f26, Tryz.func26, by kernel_rfl, by kernel_rfl⟩
theorem nm27 : Named Tryz.prog 27 := ⟨Tryz.f27, Tryz.func27, by kernel_rfl, by kernel_rfl⟩
theorem nm31 : Named Tryz.prog 31 := ⟨Tryz.f31, Tryz.func31, by kernel_rfl, by kernel_rfl⟩
theorem nm32 : Named Tryz.prog 32 := ⟨Tryz.f32, Tryz.func32, by kernel_rfl, by kernel_rfl⟩
theorem nm33 : Named Tryz.prog 33 := ⟨Tryz.f33, Tryz.func33, by kernel_rfl, by kernel_rfl⟩
theorem nm34 : Named Tryz.prog 34 := ⟨Tryz.f34, Tryz.func34, by kernel_rfl, by kernel_rfl⟩
theorem nm35 : Named Tryz.prog 35 := ⟨Tryz.f35, Tryz.func35, by kernel_rfl, by kernel_rfl⟩
theorem nm36 : Named Tryz.prog 36 := ⟨Tryz.f36, Tryz.func36, by kernel_rfl, by kernel_rfl⟩
theorem nm37 : Named Tryz.prog 37 := ⟨Tryz.f37, Tryz.func37, by kernel_rfl, by kernel_rfl⟩
theorem nm38 : Named Tryz.prog 38 := ⟨Tryz.f38, Tryz.func38, by kernel_rfl, by kernel_rfl⟩
theorem nm39 : Named Tryz.prog 39 := ⟨Tryz.f39, Tryz.func39, by kernel_rfl, by kernel_rfl⟩
theorem nm40 : Named Tryz.prog 40 := ⟨Tryz.f40, Tryz.func40, by kernel_rfl, by kernel_rfl⟩
theorem nm41 : Named Tryz.prog 41 := ⟨Tryz.f41, Tryz.func41, by kernel_rfl, by kernel_rfl⟩
theorem nm42 : Named Tryz.prog 42 := ⟨Tryz.f42, Tryz.func42, by kernel_rfl, by kernel_rfl⟩
theorem nm43 : Named Tryz.prog 43 := ⟨Tryz.f43, Tryz.func43, by kernel_rfl, by kernel_rfl⟩
theorem nm44 : Named Tryz.prog 44 := ⟨Tryz.f44, Tryz.func44, by kernel_rfl, by kernel_rfl⟩
theorem nm45 : Named Tryz.prog 45 := ⟨Tryz.f45, Tryz.func45, by kernel_rfl, by kernel_rfl⟩
theorem nm46 : Named Tryz.prog 46 := ⟨Tryz.f46, Tryz.func46, by kernel_rfl, by kernel_rfl⟩
theorem nm49 : Named Tryz.prog 49 := ⟨Tryz.f49, Tryz.func49, by kernel_rfl, by kernel_rfl⟩
theorem nm50 : Named Tryz.prog 50 := ⟨Tryz.f50, Tryz.func50, by kernel_rfl, by kernel_rfl⟩
theorem nm52 : Named Tryz.prog 52 := ⟨Tryz.f52, Tryz.func52, by kernel_rfl, by kernel_rfl⟩
theorem nm53 : Named Tryz.prog 53 := ⟨Tryz.f53, Tryz.func53, by kernel_rfl, by kernel_rfl⟩
theorem nm54 : Named Tryz.prog 54 := ⟨Tryz.f54, Tryz.func54, by kernel_rfl, by kernel_rfl⟩
theorem nm55 : Named Tryz.prog 55 := ⟨Tryz.f55, Tryz.func55, by kernel_rfl, by kernel_rfl⟩
theorem nm56 : Named Tryz.prog 56 := ⟨Tryz.f56, Tryz.func56, by kernel_rfl, by kernel_rfl⟩
theorem nm59 : Named Tryz.prog 59 := ⟨Tryz.f59, Tryz.func59, by kernel_rfl, by kernel_rfl⟩
theorem nm60 : Named Tryz.prog 60 := ⟨Tryz.f60, Tryz.func60, by kernel_rfl, by kernel_rfl⟩
theorem nm61 : Named Tryz.prog 61 := ⟨Tryz.f61, Tryz.func61, by kernel_rfl, by kernel_rfl⟩
theorem nm62 : Named Tryz.prog 62 := ⟨Tryz.f62, Tryz.func62, by kernel_rfl, by kernel_rfl⟩
theorem nm63 : Named Tryz.prog 63 := ⟨Tryz.f63, Tryz.func63, by kernel_rfl, by kernel_rfl⟩
theorem nm64 : Named Tryz.prog 64 := ⟨Tryz.f64, Tryz.func64, by kernel_rfl, by kernel_rfl⟩
theorem nm66 : Named Tryz.prog 66 := ⟨Tryz.f66, Tryz.func66, by kernel_rfl, by kernel_rfl⟩
theorem nm67 : Named Tryz.prog 67 := ⟨Tryz.f67, Tryz.func67, by kernel_rfl, by kernel_rfl⟩
theorem nm72 : Named Tryz.prog 72 := ⟨Tryz.f72, Tryz.func72, by kernel_rfl, by kernel_rfl⟩
theorem nm75 : Named Tryz.prog 75 := ⟨Tryz.f75, Tryz.func75, by kernel_rfl, by kernel_rfl⟩
theorem nm76 : Named Tryz.prog 76 := ⟨Tryz.f76, Tryz.func76, by kernel_rfl, by kernel_rfl⟩
theorem nm77 : Named Tryz.prog 77 := ⟨Tryz.f77, Tryz.func77, by kernel_rfl, by kernel_rfl⟩
theorem nm78 : Named Tryz.prog 78 := ⟨Tryz.f78, Tryz.func78, by kernel_rfl, by kernel_rfl⟩
theorem nm79 : Named Tryz.prog 79 := ⟨Tryz.f79, Tryz.func79, by kernel_rfl, by kernel_rfl⟩
theorem nm80 : Named Tryz.prog 80 := ⟨Tryz.f80, Tryz.func80, by kernel_rfl, by kernel_rfl⟩
theorem nm81 : Named Tryz.prog 81 := ⟨Tryz.f81, Tryz.func81, by kernel_rfl, by kernel_rfl⟩
theorem nm82 : Named Tryz.prog 82 := ⟨Tryz.f82, Tryz.func82, by kernel_rfl, by kernel_rfl⟩
theorem nm83 : Named Tryz.prog 83 := ⟨Tryz.f83, Tryz.func83, by kernel_rfl, by kernel_rfl⟩
theorem nm85 : Named Tryz.prog 85 := ⟨Tryz.f85, Tryz.func85, by kernel_rfl, by kernel_rfl⟩
theorem nm86 : Named Tryz.prog 86 := ⟨Tryz.f86, Tryz.func86, by kernel_rfl, by kernel_rfl⟩
theorem nm87 : Named Tryz.prog 87 := ⟨Tryz.f87, Tryz.func87, by kernel_rfl, by kernel_rfl⟩
theorem nm88 : Named Tryz.prog 88 := ⟨Tryz.f88, Tryz.func88, by kernel_rfl, by kernel_rfl⟩
theorem nm89 : Named Tryz.prog 89 := ⟨Tryz.f89, Tryz.func89, by kernel_rfl, by kernel_rfl⟩
theorem nm92 : Named Tryz.prog 92 := ⟨Tryz.f92, Tryz.func92, by kernel_rfl, by kernel_rfl⟩
theorem nm94 : Named Tryz.prog 94 := ⟨Tryz.f94, Tryz.func94, by kernel_rfl, by kernel_rfl⟩
theorem nm95 : Named Tryz.prog 95 := ⟨Tryz.f95, Tryz.func95, by kernel_rfl, by kernel_rfl⟩
theorem nm96 : Named Tryz.prog 96 := ⟨Tryz.f96, Tryz.func96, by kernel_rfl, by kernel_rfl⟩
theorem nm97 : Named Tryz.prog 97 := ⟨Tryz.f97, Tryz.func97, by kernel_rfl, by kernel_rfl⟩
theorem nm98 : Named Tryz.prog 98 := ⟨Tryz.f98, Tryz.func98, by kernel_rfl, by kernel_rfl⟩
theorem nm99 : Named Tryz.prog 99 := ⟨Tryz.f99, Tryz.func99, by kernel_rfl, by kernel_rfl⟩
theorem nm100 : Named Tryz.prog 100 := ⟨Tryz.f100, Tryz.func100, by kernel_rfl, by kernel_rfl⟩
theorem nm101 : Named Tryz.prog 101 := ⟨Tryz.f101, Tryz.func101, by kernel_rfl, by kernel_rfl⟩
theorem nm102 : Named Tryz.prog 102 := ⟨Tryz.f102, Tryz.func102, by kernel_rfl, by kernel_rfl⟩
theorem nm103 : Named Tryz.prog 103 := ⟨Tryz.f103, Tryz.func103, by kernel_rfl, by kernel_rfl⟩
theorem nm104 : Named Tryz.prog 104 := ⟨Tryz.f104, Tryz.func104, by kernel_rfl, by kernel_rfl⟩
theorem nm105 : Named Tryz.prog 105 := ⟨Tryz.f105, Tryz.func105, by kernel_rfl, by kernel_rfl⟩
theorem nm106 : Named Tryz.prog 106 := ⟨Tryz.f106, Tryz.func106, by kernel_rfl, by kernel_rfl⟩
theorem nm111 : Named Tryz.prog 111 := ⟨Tryz.f111, Tryz.func111, by kernel_rfl, by kernel_rfl⟩
theorem nm112 : Named Tryz.prog 112 := ⟨Tryz.f112, Tryz.func112, by kernel_rfl, by kernel_rfl⟩
theorem nm113 : Named Tryz.prog 113 := ⟨Tryz.f113, Tryz.func113, by kernel_rfl, by kernel_rfl⟩
theorem nm116 : Named Tryz.prog 116 := ⟨Tryz.f116, Tryz.func116, by kernel_rfl, by kernel_rfl⟩
theorem nm122 : Named Tryz.prog 122 := ⟨Tryz.f122, Tryz.func122, by kernel_rfl, by kernel_rfl⟩
theorem nm123 : Named Tryz.prog 123 := ⟨Tryz.f123, Tryz.func123, by kernel_rfl, by kernel_rfl⟩
theorem nm124 : Named Tryz.prog 124 := ⟨Tryz.f124, Tryz.func124, by kernel_rfl, by kernel_rfl⟩
theorem nm126 : Named Tryz.prog 126 := ⟨Tryz.f126, Tryz.func126, by kernel_rfl, by kernel_rfl⟩
theorem nm127 : Named Tryz.prog 127 := ⟨Tryz.f127, Tryz.func127, by kernel_rfl, by kernel_rfl⟩
theorem nm128 : Named Tryz.prog 128 := ⟨Tryz.f128, Tryz.func128, by kernel_rfl, by kernel_rfl⟩
theorem nm129 : Named Tryz.prog 129 := ⟨Tryz.f129, Tryz.func129, by kernel_rfl, by kernel_rfl⟩
theorem nm130 : Named Tryz.prog 130 := ⟨Tryz.f130, Tryz.func130, by kernel_rfl, by kernel_rfl⟩
theorem nm132 : Named Tryz.prog 132 := ⟨Tryz.f132, Tryz.func132, by kernel_rfl, by kernel_rfl⟩
theorem nm133 : Named Tryz.prog 133 := ⟨Tryz.f133, Tryz.func133, by kernel_rfl, by kernel_rfl⟩
theorem nm134 : Named Tryz.prog 134 := ⟨Tryz.f134, Tryz.func134, by kernel_rfl, by kernel_rfl⟩
theorem nm135 : Named Tryz.prog 135 := ⟨Tryz.f135, Tryz.func135, by kernel_rfl, by kernel_rfl⟩
theorem nm136 : Named Tryz.prog 136 := ⟨Tryz.f136, Tryz.func136, by kernel_rfl, by kernel_rfl⟩
theorem nm137 : Named Tryz.prog 137 := ⟨Tryz.f137, Tryz.func137, by kernel_rfl, by kernel_rfl⟩
theorem nm138 : Named Tryz.prog 138 := ⟨Tryz.f138, Tryz.func138, by kernel_rfl, by kernel_rfl⟩
theorem nm139 : Named Tryz.prog 139 := ⟨Tryz.f139, Tryz.func139, by kernel_rfl, by kernel_rfl⟩
theorem nm140 : Named Tryz.prog 140 := ⟨Tryz.f140, Tryz.func140, by kernel_rfl, by kernel_rfl⟩
theorem nm141 : Named Tryz.prog 141 := ⟨Tryz.f141, Tryz.func141, by kernel_rfl, by kernel_rfl⟩
theorem nm142 : Named Tryz.prog 142 := ⟨Tryz.f142, Tryz.func142, by kernel_rfl, by kernel_rfl⟩
theorem nm143 : Named Tryz.prog 143 := ⟨Tryz.f143, Tryz.func143, by kernel_rfl, by kernel_rfl⟩
theorem nm144 : Named Tryz.prog 144 := ⟨Tryz.f144, Tryz.func144, by kernel_rfl, by kernel_rfl⟩
theorem nm145 : Named Tryz.prog 145 := ⟨Tryz.f145, Tryz.func145, by kernel_rfl, by kernel_rfl⟩
theorem nm146 : Named Tryz.prog 146 := ⟨Tryz.f146, Tryz.func146, by kernel_rfl, by kernel_rfl⟩
theorem nm147 : Named Tryz.prog 147 := ⟨Tryz.f147, Tryz.func147, by kernel_rfl, by kernel_rfl⟩
theorem nm148 : Named Tryz.prog 148 := ⟨Tryz.f148, Tryz.func148, by kernel_rfl, by kernel_rfl⟩
theorem nm149 : Named Tryz.prog 149 := ⟨Tryz.f149, Tryz.func149, by kernel_rfl, by kernel_rfl⟩
theorem nm151 : Named Tryz.prog 151 := ⟨Tryz.f151, Tryz.func151, by kernel_rfl, by kernel_rfl⟩
theorem nm158 : Named Tryz.prog 158 := ⟨Tryz.f158, Tryz.func158, by kernel_rfl, by kernel_rfl⟩
theorem nm159 : Named Tryz.prog 159 := ⟨Tryz.f159, Tryz.func159, by kernel_rfl, by kernel_rfl⟩
theorem nm162 : Named Tryz.prog 162 := ⟨Tryz.f162, Tryz.func162, by kernel_rfl, by kernel_rfl⟩
theorem nm163 : Named Tryz.prog 163 := ⟨Tryz.f163, Tryz.func163, by kernel_rfl, by kernel_rfl⟩
theorem nm164 : Named Tryz.prog 164 := ⟨Tryz.f164, Tryz.func164, by kernel_rfl, by kernel_rfl⟩
theorem nm165 : Named Tryz.prog 165 := ⟨Tryz.f165, Tryz.func165, by kernel_rfl, by kernel_rfl⟩
theorem nm166 : Named Tryz.prog 166 := ⟨Tryz.f166, Tryz.func166, by kernel_rfl, by kernel_rfl⟩
theorem nm167 : Named Tryz.prog 167 := ⟨Tryz.f167, Tryz.func167, by kernel_rfl, by kernel_rfl⟩
theorem nm168 : Named Tryz.prog 168 := ⟨Tryz.f168, Tryz.func168, by kernel_rfl, by kernel_rfl⟩
theorem nm169 : Named Tryz.prog 169 := ⟨Tryz.f169, Tryz.func169, by kernel_rfl, by kernel_rfl⟩
theorem nm170 : Named Tryz.prog 170 := ⟨Tryz.f170, Tryz.func170, by kernel_rfl, by kernel_rfl⟩
theorem nm171 : Named Tryz.prog 171 := ⟨Tryz.f171, Tryz.func171, by kernel_rfl, by kernel_rfl⟩
theorem nm172 : Named Tryz.prog 172 := ⟨Tryz.f172, Tryz.func172, by kernel_rfl, by kernel_rfl⟩
theorem nm179 : Named Tryz.prog 179 := ⟨Tryz.f179, Tryz.func179, by kernel_rfl, by kernel_rfl⟩
theorem nm180 : Named Tryz.prog 180 := ⟨Tryz.f180, Tryz.func180, by kernel_rfl, by kernel_rfl⟩
theorem nm210 : Named Tryz.prog 210 := ⟨Tryz.f210, Tryz.func210, by kernel_rfl, by kernel_rfl⟩
theorem nm211 : Named Tryz.prog 211 := ⟨Tryz.f211, Tryz.func211, by kernel_rfl, by kernel_rfl⟩
theorem nm212 : Named Tryz.prog 212 := ⟨Tryz.f212, Tryz.func212, by kernel_rfl, by kernel_rfl⟩
theorem nm213 : Named Tryz.prog 213 := ⟨Tryz.f213, Tryz.func213, by kernel_rfl, by kernel_rfl⟩
theorem nm214 : Named Tryz.prog 214 := ⟨Tryz.f214, Tryz.func214, by kernel_rfl, by kernel_rfl⟩
end Go.Proofs.YtohmkchalilodaaGreatDoor
end

section
namespace Dsk
open Go Leg Codec Api
abbrev Sec := List UInt8
def zs : Sec := List.replicate 64 0
def secV (b : Sec) : Value := .agg (u8s b).toArray
abbrev Secs := List (Int × Sec)
def sget (s : Secs) (k : Int) : Sec := match s with
 | [] => zs
 | (a, b) :: s => if k = a then b else sget s k
def sput (s : Secs) (k : Int) (v : Sec) : Secs := match s with
 | [] => [(k, v)]
 | (a, b) :: s => if k = a then (a, v) :: s else (a, b) :: sput s k v
theorem sget_put (s : Secs) (k j : Int) (v : Sec) : sget (sput s k v) j = if j = k then v else sget s j := by
 induction s with
 | nil => simp [sput, sget]
 | cons p s ih =>
  obtain ⟨a, b⟩ := p
  simp only [sput]
  by_cases h : k = a
  · subst h
    rw [if_pos rfl]
    by_cases h2 : j = k
    · simp [sget, h2]
    · simp [sget, h2]
  · rw [if_neg h]
    simp only [sget]
    by_cases h2 : j = a
    · subst h2
      rw [if_pos rfl, if_pos rfl, if_neg (by omega)]
    · rw [if_neg h2, if_neg h2, ih]
def kvS (s : Secs) : List (Int × Value) := s.map fun p => (p.1, secV p.2)
theorem kget_kvS (s : Secs) (k : Int) : (kget (kvS s) k).getD (secV zs) = secV (sget s k) := by
 induction s with
 | nil => rfl
 | cons p s ih =>
  obtain ⟨a, b⟩ := p
  simp only [kvS, List.map_cons, kget, sget] at ih ⊢
  split
  · rfl
  · exact ih
theorem kput_kvS (s : Secs) (k : Int) (v : Sec) : kput (kvS s) k (secV v) = kvS (sput s k v) := by
 induction s with
 | nil => rfl
 | cons p s ih =>
  obtain ⟨a, b⟩ := p
  simp only [kvS, List.map_cons, kput, sput] at ih ⊢
  split
  · rfl
  · rw [ih]; rfl
def wcell (p : Int × Sec) : List Value := .int .i64 p.1 :: u8s p.2
def wflat (ws : Secs) : List Value := ws.flatMap wcell
def padS (b : List UInt8) : Sec := b ++ List.replicate (64 - b.length) 0
theorem padS_len {b : List UInt8} (h : b.length ≤ 64) : (padS b).length = 64 := by simp [padS]; omega
def Whole (s : Secs) : Prop := ∀ p ∈ s, p.2.length = 64
theorem wcell_len {p : Int × Sec} (h : p.2.length = 64) : (wcell p).length = 65 := by simp [wcell, u8s, h]
theorem wflat_get {ws : Secs} (h : Whole ws) {k : Nat} (hk : k < ws.length) : ((wflat ws).drop (k * 65)).take 65 = wcell ws[k] := by
 induction ws generalizing k with
 | nil => simp at hk
 | cons p ws ih =>
  have h1 := wcell_len (h p (by simp))
  simp only [wflat, List.flatMap_cons] at ih ⊢
  cases k with
  | zero =>
   simp only [Nat.zero_mul, List.drop_zero, List.getElem_cons_zero]
   rw [List.take_append_of_le_length (by omega), List.take_of_length_le (by omega)]
  | succ k =>
   rw [List.drop_append, List.drop_of_length_le (by omega), h1, show (k + 1) * 65 - 65 = k * 65 by omega, List.nil_append]
   simpa using ih (fun q hq => h q (by simp [hq])) (by simpa using hk)
theorem sget_whole {s : Secs} (h : Whole s) (k : Int) : (sget s k).length = 64 := by
 induction s with
 | nil => simp [sget, zs]
 | cons p s ih =>
  obtain ⟨a, b⟩ := p
  simp only [sget]
  split
  · exact h (a, b) (by simp)
  · exact ih fun q hq => h q (by simp [hq])
theorem Whole.put {s : Secs} (h : Whole s) (k : Int) {v : Sec} (hv : v.length = 64) : Whole (sput s k v) := by
 induction s with
 | nil => intro p hp; simp only [sput, List.mem_singleton] at hp; subst hp; exact hv
 | cons p s ih =>
  obtain ⟨a, b⟩ := p
  intro q hq
  simp only [sput] at hq
  split at hq
  · rcases List.mem_cons.1 hq with rfl | hq
    · exact hv
    · exact h q (by simp [hq])
  · rcases List.mem_cons.1 hq with rfl | hq
    · exact h (a, b) (by simp)
    · exact ih (fun q hq => h q (by simp [hq])) q hq
theorem Whole.add {s : Secs} (h : Whole s) (k : Int) {v : Sec} (hv : v.length = 64) : Whole (s ++ [(k, v)]) := fun p hp => by
 rcases List.mem_append.1 hp with hp | hp
 · exact h p hp
 · simp only [List.mem_singleton] at hp; subst hp; exact hv
section
variable {P : Program} {n : Nat} {D : List Deferred} {L : List (Nat × Value)} {S : World → Prop} {o : Oper}
theorem PV.mapNil {t t' k e m : TypeId} {x y : Operand} (ho : o.op = .binOp .eql t x y t') (hu : P.underlying t = some (.map k e)) (hx : evL L x = some (.map (some m))) (hy : evL L y = some (.map none)) : PV P n D L S o (.bool false) :=
 PV.bin ho hx hy fun w => by
  have e : (Op.equal t (.map (some m)) (.map none)).run P w = .ok false w := run_equalIn_map_nil w 9999 t k e (some m) hu
  simp [eqGuard, binOp, e]
end
end Dsk
namespace Dsk
open Go Leg Codec Api
theorem wr_pad {k : Int} {b : List UInt8} (h : b.length ≤ 64) : wr (.int .i64 k :: u8s zs) 1 ((u8s b).take (min b.length 64)) = wcell (k, padS b) := by
 have e : (u8s b).take (min b.length 64) = u8s b := List.take_of_length_le (by rw [u8s_length]; omega)
 rw [e, wr, u8s_length]
 have e2 : (Value.int IntKind.i64 k :: u8s zs).drop (1 + b.length) = u8s (List.replicate (64 - b.length) 0) := by
  rw [show 1 + b.length = b.length + 1 by omega, List.drop_succ_cons]
  rw [u8s, u8s, zs, ← List.map_drop, List.drop_replicate]
 rw [e2]
 simp only [wcell, padS, u8s, List.map_append, List.take_succ_cons, List.take_zero, List.cons_append, List.nil_append]
theorem fold_set (vs : List Value) : ∀ (j : Nat) (pre zeros : List Value), pre.length = j → zeros.length = vs.length →
 ((vs.zipIdx j).foldl (fun (cs : Array Value) (c, i) => cs.setIfInBounds (0 + i) c) (pre ++ zeros).toArray) = (pre ++ vs).toArray := by
 induction vs with
 | nil => intro j pre zeros _ h; rw [List.eq_nil_of_length_eq_zero h]; rfl
 | cons v vs ih =>
  intro j pre zeros hp hz
  match zeros, hz with
  | z :: zeros, hz =>
   rw [List.zipIdx_cons, List.foldl_cons]
   have e : (pre ++ z :: zeros).toArray.setIfInBounds (0 + j) v = ((pre ++ [v]) ++ zeros).toArray := by
    rw [Nat.zero_add, List.setIfInBounds_toArray, List.set_append_right _ _ (by omega), hp, Nat.sub_self, List.set_cons_zero, List.append_assoc]
    rfl
   simp only [e]
   rw [ih (j + 1) (pre ++ [v]) zeros (by simp [hp]) (by simpa using hz), List.append_assoc]
   rfl
theorem fill_whole {zeros : Array Value} {vs : List Value} (h : zeros.size = vs.length) : Instr.fill (fun i => some (i * vs.length, vs.length)) zeros [(0, .agg vs.toArray)] = some vs.toArray := by
 have e := fold_set vs 0 [] zeros.toList rfl (by simpa using h)
 simp only [List.nil_append, Array.toArray_toList] at e
 simp only [Instr.fill, Value.cells, List.size_toArray, Nat.zero_mul, Nat.zero_add, ne_eq, not_true_eq_false, false_or, decide_false, Bool.false_or]
 rw [if_neg (by simp [h])]
 rw [← Array.foldl_toList, Array.toList_zipIdx]
 simp only [Nat.zero_add] at e
 rw [e]
theorem fill_at {zeros : Array Value} {vs : List Value} {size : Nat} (h : vs.length = size) (hz : zeros.size = size) : Instr.fill (fun i => some (i * size, size)) zeros [(0, .agg vs.toArray)] = some vs.toArray := by
 subst h; exact fill_whole hz
theorem wcell_one (p : Int × Sec) : ∀ u ∈ wcell p, u.oneCell' = true := by
 intro u hu
 rcases List.mem_cons.1 hu with rfl | hu
 · rfl
 · exact u8s_one _ u hu
end Dsk
namespace Leg
open Go
section
variable {P : Program} {w0 : World} {F : Hl} {n : Nat} {ops : Array Oper} {Q : QQ} {D : List Deferred} {L : List (Nat × Value)} {H : List HP} {l : List Oper}
end
end Leg
namespace Dsk
open Go Leg Codec Api
def wat (ws : Secs) (k : Nat) : Int × Sec := ws.getD k (0, zs)
theorem wat_eq {ws : Secs} {k : Nat} (hk : k < ws.length) : wat ws k = ws[k] := by simp [wat, List.getD_eq_getElem?_getD, hk]
theorem wat_len {ws : Secs} (h : Whole ws) {k : Nat} (hk : k < ws.length) : (wat ws k).2.length = 64 := by rw [wat_eq hk]; exact h _ (List.getElem_mem hk)
theorem wflat_atN {ws : Secs} (h : Whole ws) {k : Nat} (hk : k < ws.length) : ((wflat ws).drop (k * 65)).take 65 = wcell (wat ws k) := by rw [wat_eq hk]; exact wflat_get h hk
theorem wflat_at0 {ws : Secs} (h : Whole ws) {k : Nat} (hk : k < ws.length) : (wflat ws)[k * 65]? = some (.int .i64 (wat ws k).1) := by
 have e := congrArg (fun l : List Value => l[0]?) (wflat_atN h hk)
 simpa [wcell] using e
theorem wflat_at1 {ws : Secs} (h : Whole ws) {k : Nat} (hk : k < ws.length) : ((wflat ws).drop (k * 65 + 1)).take 64 = u8s (wat ws k).2 := by
 have e := congrArg (fun l : List Value => l.drop 1) (wflat_atN h hk)
 simp only [List.drop_take, List.drop_drop, wcell, List.drop_succ_cons, List.drop_zero] at e
 exact e
theorem wcell_tail {p : Int × Sec} (h : p.2.length = 64) : ((wcell p).drop 1).take 64 = u8s p.2 := by
 simp only [wcell, List.drop_succ_cons, List.drop_zero]
 exact List.take_of_length_le (by rw [u8s_length, h]; exact Nat.le_refl _)
theorem take_all {l : List Value} {n : Nat} (h : l.length = n) : (l.drop 0).take n = l := by rw [List.drop_zero, List.take_of_length_le (by omega)]
def layN (s ws : Secs) : Nat → Secs
 | 0 => s
 | k + 1 => sput (layN s ws k) (wat ws k).1 (wat ws k).2
theorem Whole.lay {s ws : Secs} (h : Whole s) (hw : Whole ws) : ∀ k, k ≤ ws.length → Whole (layN s ws k)
 | 0, _ => h
 | k + 1, hk => (Whole.lay h hw k (by omega)).put _ (wat_len hw (by omega))
def readN (s ws : Secs) (at' : Int) : Nat → Sec
 | 0 => sget s at'
 | k + 1 => if (wat ws k).1 = at' then (wat ws k).2 else readN s ws at' k
theorem readN_len {s ws : Secs} (h : Whole s) (hw : Whole ws) (at' : Int) : ∀ k, k ≤ ws.length → (readN s ws at' k).length = 64
 | 0, _ => sget_whole h _
 | k + 1, hk => by
  simp only [readN]
  split
  · exact wat_len hw (by omega)
  · exact readN_len h hw at' k (by omega)
theorem readN_hit {s ws : Secs} {at' : Int} {k : Nat} (h : (wat ws k).1 = at') : readN s ws at' (k + 1) = (wat ws k).2 := by simp [readN, h]
theorem readN_miss {s ws : Secs} {at' : Int} {k : Nat} (h : (wat ws k).1 ≠ at') : readN s ws at' (k + 1) = readN s ws at' k := by simp [readN, h]
structure DS where
 s : Secs
 ws : Secs
 ar : Bool
 lf : Int
 dn : Bool
structure DS.Ok (D : DS) : Prop where
 s : Whole D.s
 ws : Whole D.ws
 lf : 0 ≤ D.lf ∧ D.lf ≤ 9223372036854775807
def DS.new : DS := ⟨[], [], false, 0, false⟩
def DS.write (D : DS) (at' : Int) (bs : List UInt8) : Int × DS :=
 if at' < 0 ∨ 2048 ≤ at' ∨ 64 < bs.length then (5, D)
 else if D.dn = true ∨ (D.ar = true ∧ D.lf = 0) then (4, { D with dn := true })
 else (0, { D with ws := D.ws ++ [(at', padS bs)], lf := if D.ar = true then D.lf - 1 else D.lf, dn := false })
def DS.sync (D : DS) : Int × DS := if D.dn = true then (4, D) else (0, { D with s := layN D.s D.ws D.ws.length, ws := [] })
def DS.read (D : DS) (at' : Int) : Sec := readN D.s D.ws at' D.ws.length
theorem whole_nil : Whole [] := fun _ h => absurd h (by simp)
theorem DS.new_ok : DS.new.Ok := ⟨whole_nil, whole_nil, ⟨by decide, by decide⟩⟩
theorem DS.write_ok {D : DS} (h : D.Ok) (at' : Int) (bs : List UInt8) : (D.write at' bs).2.Ok := by
 unfold DS.write
 split
 · exact h
 · split
   · exact ⟨h.s, h.ws, h.lf⟩
   · rename_i h1 h2
     refine ⟨h.s, h.ws.add _ (padS_len (by omega)), ?_⟩
     have := h.lf
     show 0 ≤ (if D.ar = true then D.lf - 1 else D.lf) ∧ (if D.ar = true then D.lf - 1 else D.lf) ≤ 9223372036854775807
     split <;> rename_i h3
     · have : D.lf ≠ 0 := fun q => h2 (.inr ⟨h3, q⟩)
       exact ⟨by omega, by omega⟩
     · exact this
theorem DS.sync_ok {D : DS} (h : D.Ok) : D.sync.2.Ok := by
 unfold DS.sync
 split
 · exact h
 · exact ⟨h.s.lay h.ws _ (Nat.le_refl _), whole_nil, h.lf⟩
theorem DS.read_len {D : DS} (h : D.Ok) (at' : Int) : (D.read at').length = 64 := readN_len h.s h.ws _ _ (Nat.le_refl _)
theorem DS.write_ws {D : DS} {at' : Int} {bs : List UInt8} : (D.write at' bs).2.ws.length ≤ D.ws.length + 1 := by
 unfold DS.write
 split
 · simp
 · split
   · simp
   · simp
abbrev diskP (DT WT : Nat) (d : Nat) (D : DS) : HP := pack fun x : Nat × Value => [blkA d [.map (some x.1), x.2, .bool D.ar, .int .i64 D.lf, .bool D.dn] DT, mapP x.1 (kvS D.s), own x.2 D.ws.length (wflat D.ws) WT 65]
end Dsk
end

section
namespace Go.Proofs.YtohmkchalilodaaGreatDoor
open Go Leg Codec Api Dsk
theorem dr_down_does (d m : Nat) (wv : Value) (ar dn : Bool) (lf : Int) :
 Leg.Does Tryz.prog 49 #[(.pointer (some ⟨d, 0, none⟩))] (fun _ => True) [blkA d [(.map (some m)), wv, (.bool (ar)), (.int .i64 (lf)), (.bool (dn))] 111] (Ret (fun v H => v = .bool dn ∧ H = [blkA d [(.map (some m)), wv, (.bool (ar)), (.int .i64 (lf)), (.bool (dn))] 111])) := by
 refine Leg.Does.body (n := 7) Tryz.func49 rfl rfl rfl (fun w0 F hF => sr fun _ J1 => PS ?_)
 refine nx J1 (sr fun _ J2 => PS ?_)
 refine PS ?_
 refine FA 4 Y111 sz4 ?_
 refine LA 0 Y4 ?_
 refine PS ?_
 exact nx J2 (TC.ret (WK [0] (TE.ret1 rfl rfl ⟨rfl, rfl⟩)))
theorem dr_new_does  :
 Leg.Does Tryz.prog 21 #[] (fun _ => True) [] (Ret (fun v H => ∃ d m, v = .pointer (some ⟨d, 0, none⟩) ∧ H = [blkA d [(.map (some m)), (.slice none 0 0), (.bool false), (.int .i64 0), (.bool false)] 111, mapP m ([])])) := by
 refine Leg.Does.body (n := 4) Tryz.func21 rfl rfl rfl (fun w0 F hF => sr fun _ J1 => PS ?_)
 refine nx J1 (sr fun _ J2 => TL.makeMap (Want.plain rfl) rfl rfl rfl (fun m1 => tp (PV.build (cells := #[(.map (some m1)), (.slice none 0 0), (.bool false), (.int .i64 0), (.bool false)]) rfl rfl (by as_aux_lemma => kernel_rfl)) ?_))
 refine XB fun b3 => ?_
 refine PS ?_
 exact nx J2 (TC.ret (WK [0, 0] (TE.ret1 rfl rfl ⟨b3, m1, rfl, rfl⟩)))
theorem mixedD : Tryz.prog.follows .mixedOrders = true := by kernel_rfl
theorem dr_last_does (d m : Nat) (wv : Value) (s : Secs) (ar dn : Bool) (lf at' : Int) (b : List UInt8) (hb : b.length = 64) :
 Leg.Does Tryz.prog 72 #[(.pointer (some ⟨d, 0, none⟩)), (.int .i64 (at')), (.agg (u8s b).toArray)] (fun _ => True) [blkA d [(.map (some m)), wv, (.bool (ar)), (.int .i64 (lf)), (.bool (dn))] 111, mapP m (kvS s)] (Ret (fun _ H => H = [blkA d [(.map (some m)), wv, (.bool (ar)), (.int .i64 (lf)), (.bool (dn))] 111, mapP m (kvS (sput s at' b))])) := by
 refine Leg.Does.body (n := 21) Tryz.func72 rfl rfl rfl (fun w0 F hF => sr fun _ J1 => XB fun b5 => ?_)
 change TL _ _ _ _ _ _ _ _ _ [blkA b5 (u8s b) 145, blkA d [(.map (some m)), wv, (.bool (ar)), (.int .i64 (lf)), (.bool (dn))] 111, mapP m (kvS s)]
 refine nx J1 (TC.seq fun _ J2 => sr fun _ J3 => PS ?_)
 refine PS ?_
 refine FA 0 Y111 sz108 ?_
 refine LA 1 Y108 ?_
 refine tp (PV.mapNil rfl Y108 rfl rfl) ?_
 refine nx J3 (CN (CX J2 (D2 1 0 mixedD ?_)))
 refine PD 0 ?_
 refine PD 1 ?_
 refine FD 2 0 Y111 sz108 ?_
 refine ta 3 rfl (PV.load1 (v := (.map (some m))) rfl Y108 rfl rfl (fun _ h => h.2.1) rfl) ?_
 refine PD 4 ?_
 refine ta 5 rfl (PV.loadN (vs := u8s b) rfl Y145 rfl sz145 rfl (fun _ h => h.2.2.1) (by rw [u8s_length]; exact hb) (by rw [List.drop_zero, List.take_of_length_le (by rw [u8s_length, hb]; exact Nat.le_refl _)])) ?_
 refine AL 6 ?_
 exact TL.mapUpdate (i := 2) (H' := [blkA b5 (u8s b) 145, blkA d [(.map (some m)), wv, (.bool (ar)), (.int .i64 (lf)), (.bool (dn))] 111, mapP m (kvS (sput s at' b))]) (Want.plain rfl) rfl rfl Y108 Y3 rfl rfl rfl rfl rfl (congrArg (fun q => List.set _ 2 (mapP m q)) (kput_kvS _ _ _)) (TL.nil (E2 1 0 (DN (WK [1, 1] (TE.end0 rfl rfl)))))
theorem dr_write_does (d m : Nat) (wv : Value) (ws : Secs) (ar dn : Bool) (lf at' : Int) (x : Value) (bs : List UInt8) (hl : 0 ≤ lf ∧ lf ≤ 9223372036854775807) (hw : ws.length ≤ 1000000000) :
 Leg.Does Tryz.prog 87 #[(.pointer (some ⟨d, 0, none⟩)), (.int .i64 (at')), x] (IsW x bs) [blkA d [(.map (some m)), wv, (.bool (ar)), (.int .i64 (lf)), (.bool (dn))] 111, own wv (ws.length) (wflat ws) 147 65] (Ret (fun v H => if at' < 0 ∨ 2048 ≤ at' ∨ 64 < bs.length then v = .int .i64 5 ∧ H = [blkA d [(.map (some m)), wv, (.bool (ar)), (.int .i64 (lf)), (.bool (dn))] 111, own wv (ws.length) (wflat ws) 147 65] else if dn = true ∨ (ar = true ∧ lf = 0) then v = .int .i64 4 ∧ H = [blkA d [(.map (some m)), wv, (.bool (ar)), (.int .i64 (lf)), (.bool true)] 111, own wv (ws.length) (wflat ws) 147 65] else v = .int .i64 0 ∧ ∃ wv', H = [blkA d [(.map (some m)), wv', (.bool (ar)), (.int .i64 ((if ar = true then lf - 1 else lf))), (.bool false)] 111, own wv' ((ws ++ [(at', padS bs)]).length) (wflat (ws ++ [(at', padS bs)])) 147 65])) := by
 refine Leg.Does.body (n := 64) Tryz.func87 rfl rfl rfl (fun w0 F hF => sr fun _ J1 => PS ?_)
 refine nx J1 ?_
 clear J1
 refine TC.seq fun _ J2 => sr fun _ J3 => PS ?_
 refine PS ?_
 refine TL.dec (fun h9 => ?_) (fun h9 => ?_)
 refine PS ?_
 refine UT ?_
 refine UT ?_
 refine PS ?_
 refine PS ?_
 iterate 3 refine UT ?_
 refine PS ?_
 refine nx J3 ?_
 clear J3
 refine CY (sr fun _ J4 => PS ?_)
 refine nx J4 ?_
 clear J4
 refine TC.ret (TE.passRet ?_)
 clear J2
 refine WK [0, 0] (TE.ret1 rfl rfl ?_)
 show (if _ then _ else _)
 first
  | (rw [if_pos (by omega)]; exact ⟨rfl, rfl⟩)
  | (rw [if_neg (by omega), if_pos (by simp_all)]; exact ⟨rfl, by simp_all <;> rfl⟩)
  | (rw [if_neg (by omega), if_neg (by simp_all)]; exact ⟨rfl, v61, by simp_all <;> rfl⟩)
 iterate 3 refine PS ?_
 refine TL.dec (fun h12 => ?_) (fun h12 => ?_)
 refine PS ?_
 refine PS ?_
 iterate 3 refine UT ?_
 refine PS ?_
 refine nx J3 ?_
 clear J3
 refine CY (sr fun _ J5 => PS ?_)
 refine nx J5 ?_
 clear J5
 refine TC.ret (TE.passRet ?_)
 clear J2
 refine WK [0, 0] (TE.ret1 rfl rfl ?_)
 show (if _ then _ else _)
 first
  | (rw [if_pos (by omega)]; exact ⟨rfl, rfl⟩)
  | (rw [if_neg (by omega), if_pos (by simp_all)]; exact ⟨rfl, by simp_all <;> rfl⟩)
  | (rw [if_neg (by omega), if_neg (by simp_all)]; exact ⟨rfl, v61, by simp_all <;> rfl⟩)
 iterate 3 refine PS ?_
 refine tq (PV.lenV rfl Y47 rfl hF.len) ?_
 refine PS ?_
 refine TL.dec (fun h17 => ?_) (fun h17 => ?_)
 refine PS ?_
 refine nx J3 ?_
 clear J3
 refine CY (sr fun _ J6 => PS ?_)
 refine nx J6 ?_
 clear J6
 refine TC.ret (TE.passRet ?_)
 clear J2
 refine WK [0, 0] (TE.ret1 rfl rfl ?_)
 show (if _ then _ else _)
 first
  | (rw [if_pos (by omega)]; exact ⟨rfl, rfl⟩)
  | (rw [if_neg (by omega), if_pos (by simp_all)]; exact ⟨rfl, by simp_all <;> rfl⟩)
  | (rw [if_neg (by omega), if_neg (by simp_all)]; exact ⟨rfl, v61, by simp_all <;> rfl⟩)
 refine PS ?_
 refine nx J3 ?_
 clear J3
 refine CN (CX J2 ?_)
 clear J2
 refine TC.seq fun _ J7 => sr fun _ J8 => PS ?_
 refine PS ?_
 refine FA 2 Y111 sz4 ?_
 refine LA 0 Y4 ?_
 refine TL.decB (fun h22 => ?_) (fun h22 => ?_)
 iterate 3 refine PS ?_
 refine FA 3 Y111 sz3 ?_
 refine LA 0 Y3 ?_
 refine PS ?_
 refine TL.dec (fun h28 => ?_) (fun h28 => ?_)
 refine PS ?_
 refine nx J8 ?_
 clear J8
 refine CY (TC.region (PS ?_))
 refine PS ?_
 refine FA 4 Y111 sz4 ?_
 refine S0 0 sz4 ?_
 refine nx J7 ?_
 clear J7
 refine TC.seq fun _ J9 => sr fun _ J10 => PS ?_
 refine PS ?_
 refine FA 4 Y111 sz4 ?_
 refine LA 0 Y4 ?_
 refine nx J10 ?_
 clear J10
 refine CY (sr fun _ J11 => PS ?_)
 refine nx J11 ?_
 clear J11
 refine TC.ret (TE.passRet ?_)
 clear J9
 refine WK [0, 0] (TE.ret1 rfl rfl ?_)
 show (if _ then _ else _)
 first
  | (rw [if_pos (by omega)]; exact ⟨rfl, rfl⟩)
  | (rw [if_neg (by omega), if_pos (by simp_all)]; exact ⟨rfl, by simp_all <;> rfl⟩)
  | (rw [if_neg (by omega), if_neg (by simp_all)]; exact ⟨rfl, v61, by simp_all <;> rfl⟩)
 refine PS ?_
 refine nx J8 ?_
 clear J8
 refine CN (CX J7 ?_)
 clear J7
 refine TC.seq fun _ J12 => sr fun _ J13 => PS ?_
 refine PS ?_
 refine FA 4 Y111 sz4 ?_
 refine LA 0 Y4 ?_
 refine TL.decB (fun h36 => ?_) (fun h36 => ?_)
 refine nx J13 ?_
 clear J13
 refine CY (sr fun _ J14 => PS ?_)
 refine nx J14 ?_
 clear J14
 refine TC.ret (TE.passRet ?_)
 clear J12
 refine WK [0, 0] (TE.ret1 rfl rfl ?_)
 show (if _ then _ else _)
 first
  | (rw [if_pos (by omega)]; exact ⟨rfl, rfl⟩)
  | (rw [if_neg (by omega), if_pos (by simp_all)]; exact ⟨rfl, by simp_all <;> rfl⟩)
  | (rw [if_neg (by omega), if_neg (by simp_all)]; exact ⟨rfl, v61, by simp_all <;> rfl⟩)
 refine nx J13 ?_
 clear J13
 refine CN (CX J12 ?_)
 clear J12
 refine TC.seq fun _ J15 => sr fun _ J16 => PS ?_
 refine PS ?_
 refine FA 2 Y111 sz4 ?_
 refine LA 0 Y4 ?_
 refine TL.decB (fun h40 => ?_) (fun h40 => ?_)
 refine nx J16 ?_
 clear J16
 refine CY (TC.region (PS ?_))
 refine PS ?_
 refine FA 3 Y111 sz3 ?_
 refine LA 0 Y3 ?_
 refine tp (PV.sub rfl rfl rfl (wrap_i64 (by omega) (by omega))) ?_
 refine PS ?_
 refine FA 3 Y111 sz3 ?_
 refine S0 0 sz3 ?_
 refine nx J15 ?_
 clear J15
 refine sr fun _ J17 => PS ?_
 refine tp (PV.build (cells := ((.int .i64 (at')) :: List.replicate 64 (.int .u8 0)).toArray) rfl rfl (by as_aux_lemma => kernel_rfl)) ?_
 refine XA z147 fun b7 => ?_
 refine TL.store (vs := ((.int .i64 (at')) :: List.replicate 64 (.int .u8 0))) (i := 0) (Want.plain rfl) rfl rfl rfl rfl rfl sz147 (by simp [Value.oneCell']) rfl rfl (lbe rfl) rfl rfl (nx J17 ?_)
 clear J17
 refine sr fun _ J18 => FA 1 Y147 sz145 ?_
 refine tp (PV.sliceArr rfl Y145 sz5 rfl) ?_
 refine PS ?_
 refine TL.copy (i := 0) (m := bs.length) (news := (u8s bs)) (H' := [blkA b7 (wcell (at', padS bs)) 147, blkA d [(.map (some m)), wv, (.bool (ar)), (.int .i64 (lf - 1)), (.bool (dn))] 111, own wv (ws.length) (wflat ws) 147 65]) (Want.plain rfl) rfl rfl rfl Y47 sz5 rfl rfl rfl rfl (fun _ _ => hF.src (fun _ h => Frm.of h)) (u8s_one _) (by show 1 + min bs.length 64 ≤ 65; omega) (wr_pad (by omega)) rfl (nx J18 ?_)
 clear J18
 refine TC.seq fun _ J19 => D1 0 mixedD ?_
 refine PD 0 ?_
 refine PD 1 ?_
 refine PD 2 ?_
 refine FD 3 1 Y111 sz109 ?_
 refine ta 5 rfl (PV.loadN (vs := wcell (at', padS bs)) rfl Y147 rfl sz147 rfl (fun _ h => h.2.1) (wcell_len (padS_len (by omega))) (by rw [List.drop_zero, List.take_of_length_le (by rw [(wcell_len (padS_len (by omega)))]; exact Nat.le_refl _)])) ?_
 refine TD.all [4, 6] (by kernel_rfl) rfl (AllT.cons rfl ?_ ?_)
 refine LA 1 Y109 ?_
 refine TL.nil (E1 0 (AL 6 ?_))
 refine TL.buildSlice (cells := (wcell (at', padS bs)).toArray) (Want.plain rfl) rfl rfl rfl Y109 in147 rfl rfl rfl (fill_at (wcell_len (padS_len (by omega))) (by simp)) (fun b60 => ?_)
 change TL _ _ _ _ _ _ _ _ _ [blkA b60 (wcell (at', padS bs)) 147, blkA b7 (wcell (at', padS bs)) 147, blkA d [(.map (some m)), wv, (.bool (ar)), (.int .i64 (lf - 1)), (.bool (dn))] 111, own wv (ws.length) (wflat ws) 147 65]
 refine TL.nil (E1 1 (AL 7 ?_))
 refine TL.append (k := 3) (news := wcell (at', padS bs)) (nn' := (ws ++ [(at', padS bs)]).length) (xs' := wflat (ws ++ [(at', padS bs)])) (Want.plain rfl) rfl rfl rfl Y109 in147 rfl rfl rfl rfl rfl rfl (fun _ _ => Src.rd (wcell_len (padS_len (by omega))) (RO 0) (by rw [List.drop_zero, List.take_of_length_le (Nat.le_refl _)])) (wcell_one _) (by simp only [maxLen]; omega) (by omega) (by simp) (by simp [wflat]) (fun v61 ov61 => TL.nil (E1 1 (PD 8 ?_)))
 refine FD 9 1 Y111 sz109 ?_
 refine AL 10 ?_
 refine TL.store1 (i := 2) (Want.plain rfl) rfl rfl rfl rfl ov61 sz109 rfl rfl (lb rfl) rfl rfl (TL.nil (E1 1 (DN (TE.next J19 ?_))))
 clear J19
 refine sr fun _ J20 => PS ?_
 refine nx J20 ?_
 clear J20
 refine TC.ret (WK [2, 2] (TE.ret1 rfl rfl ?_))
 show (if _ then _ else _)
 first
  | (rw [if_pos (by omega)]; exact ⟨rfl, rfl⟩)
  | (rw [if_neg (by omega), if_pos (by simp_all)]; exact ⟨rfl, by simp_all <;> rfl⟩)
  | (rw [if_neg (by omega), if_neg (by simp_all)]; exact ⟨rfl, v61, by simp_all <;> rfl⟩)
 refine AllT.cons rfl ?_ ?_
 refine TL.buildSlice (cells := (wcell (at', padS bs)).toArray) (Want.plain rfl) rfl rfl rfl Y109 in147 rfl rfl rfl (fill_at (wcell_len (padS_len (by omega))) (by simp)) (fun b60 => ?_)
 change TL _ _ _ _ _ _ _ _ _ [blkA b60 (wcell (at', padS bs)) 147, blkA b7 (wcell (at', padS bs)) 147, blkA d [(.map (some m)), wv, (.bool (ar)), (.int .i64 (lf - 1)), (.bool (dn))] 111, own wv (ws.length) (wflat ws) 147 65]
 refine TL.nil (E1 1 (AL 4 ?_))
 refine LA 2 Y109 ?_
 refine TL.nil (E1 1 (AL 7 ?_))
 refine TL.append (k := 3) (news := wcell (at', padS bs)) (nn' := (ws ++ [(at', padS bs)]).length) (xs' := wflat (ws ++ [(at', padS bs)])) (Want.plain rfl) rfl rfl rfl Y109 in147 rfl rfl rfl rfl rfl rfl (fun _ _ => Src.rd (wcell_len (padS_len (by omega))) (RO 0) (by rw [List.drop_zero, List.take_of_length_le (Nat.le_refl _)])) (wcell_one _) (by simp only [maxLen]; omega) (by omega) (by simp) (by simp [wflat]) (fun v61 ov61 => TL.nil (E1 1 (PD 8 ?_)))
 refine FD 9 1 Y111 sz109 ?_
 refine AL 10 ?_
 refine TL.store1 (i := 2) (Want.plain rfl) rfl rfl rfl rfl ov61 sz109 rfl rfl (lb rfl) rfl rfl (TL.nil (E1 1 (DN (TE.next J19 ?_))))
 clear J19
 refine sr fun _ J21 => PS ?_
 refine nx J21 ?_
 clear J21
 refine TC.ret (WK [2, 2] (TE.ret1 rfl rfl ?_))
 show (if _ then _ else _)
 first
  | (rw [if_pos (by omega)]; exact ⟨rfl, rfl⟩)
  | (rw [if_neg (by omega), if_pos (by simp_all)]; exact ⟨rfl, by simp_all <;> rfl⟩)
  | (rw [if_neg (by omega), if_neg (by simp_all)]; exact ⟨rfl, v61, by simp_all <;> rfl⟩)
 exact AllT.nil
 refine nx J16 ?_
 clear J16
 refine CN (CX J15 ?_)
 clear J15
 refine sr fun _ J22 => PS ?_
 refine tp (PV.build (cells := ((.int .i64 (at')) :: List.replicate 64 (.int .u8 0)).toArray) rfl rfl (by as_aux_lemma => kernel_rfl)) ?_
 refine XA z147 fun b7 => ?_
 refine TL.store (vs := ((.int .i64 (at')) :: List.replicate 64 (.int .u8 0))) (i := 0) (Want.plain rfl) rfl rfl rfl rfl rfl sz147 (by simp [Value.oneCell']) rfl rfl (lbe rfl) rfl rfl (nx J22 ?_)
 clear J22
 refine sr fun _ J23 => FA 1 Y147 sz145 ?_
 refine tp (PV.sliceArr rfl Y145 sz5 rfl) ?_
 refine PS ?_
 refine TL.copy (i := 0) (m := bs.length) (news := (u8s bs)) (H' := [blkA b7 (wcell (at', padS bs)) 147, blkA d [(.map (some m)), wv, (.bool (ar)), (.int .i64 (lf)), (.bool (dn))] 111, own wv (ws.length) (wflat ws) 147 65]) (Want.plain rfl) rfl rfl rfl Y47 sz5 rfl rfl rfl rfl (fun _ _ => hF.src (fun _ h => Frm.of h)) (u8s_one _) (by show 1 + min bs.length 64 ≤ 65; omega) (wr_pad (by omega)) rfl (nx J23 ?_)
 clear J23
 refine TC.seq fun _ J24 => D1 0 mixedD ?_
 refine PD 0 ?_
 refine PD 1 ?_
 refine PD 2 ?_
 refine FD 3 1 Y111 sz109 ?_
 refine ta 5 rfl (PV.loadN (vs := wcell (at', padS bs)) rfl Y147 rfl sz147 rfl (fun _ h => h.2.1) (wcell_len (padS_len (by omega))) (by rw [List.drop_zero, List.take_of_length_le (by rw [(wcell_len (padS_len (by omega)))]; exact Nat.le_refl _)])) ?_
 refine TD.all [4, 6] (by kernel_rfl) rfl (AllT.cons rfl ?_ ?_)
 refine LA 1 Y109 ?_
 refine TL.nil (E1 0 (AL 6 ?_))
 refine TL.buildSlice (cells := (wcell (at', padS bs)).toArray) (Want.plain rfl) rfl rfl rfl Y109 in147 rfl rfl rfl (fill_at (wcell_len (padS_len (by omega))) (by simp)) (fun b60 => ?_)
 change TL _ _ _ _ _ _ _ _ _ [blkA b60 (wcell (at', padS bs)) 147, blkA b7 (wcell (at', padS bs)) 147, blkA d [(.map (some m)), wv, (.bool (ar)), (.int .i64 (lf)), (.bool (dn))] 111, own wv (ws.length) (wflat ws) 147 65]
 refine TL.nil (E1 1 (AL 7 ?_))
 refine TL.append (k := 3) (news := wcell (at', padS bs)) (nn' := (ws ++ [(at', padS bs)]).length) (xs' := wflat (ws ++ [(at', padS bs)])) (Want.plain rfl) rfl rfl rfl Y109 in147 rfl rfl rfl rfl rfl rfl (fun _ _ => Src.rd (wcell_len (padS_len (by omega))) (RO 0) (by rw [List.drop_zero, List.take_of_length_le (Nat.le_refl _)])) (wcell_one _) (by simp only [maxLen]; omega) (by omega) (by simp) (by simp [wflat]) (fun v61 ov61 => TL.nil (E1 1 (PD 8 ?_)))
 refine FD 9 1 Y111 sz109 ?_
 refine AL 10 ?_
 refine TL.store1 (i := 2) (Want.plain rfl) rfl rfl rfl rfl ov61 sz109 rfl rfl (lb rfl) rfl rfl (TL.nil (E1 1 (DN (TE.next J24 ?_))))
 clear J24
 refine sr fun _ J25 => PS ?_
 refine nx J25 ?_
 clear J25
 refine TC.ret (WK [2, 2] (TE.ret1 rfl rfl ?_))
 show (if _ then _ else _)
 first
  | (rw [if_pos (by omega)]; exact ⟨rfl, rfl⟩)
  | (rw [if_neg (by omega), if_pos (by simp_all)]; exact ⟨rfl, by simp_all <;> rfl⟩)
  | (rw [if_neg (by omega), if_neg (by simp_all)]; exact ⟨rfl, v61, by simp_all <;> rfl⟩)
 refine AllT.cons rfl ?_ ?_
 refine TL.buildSlice (cells := (wcell (at', padS bs)).toArray) (Want.plain rfl) rfl rfl rfl Y109 in147 rfl rfl rfl (fill_at (wcell_len (padS_len (by omega))) (by simp)) (fun b60 => ?_)
 change TL _ _ _ _ _ _ _ _ _ [blkA b60 (wcell (at', padS bs)) 147, blkA b7 (wcell (at', padS bs)) 147, blkA d [(.map (some m)), wv, (.bool (ar)), (.int .i64 (lf)), (.bool (dn))] 111, own wv (ws.length) (wflat ws) 147 65]
 refine TL.nil (E1 1 (AL 4 ?_))
 refine LA 2 Y109 ?_
 refine TL.nil (E1 1 (AL 7 ?_))
 refine TL.append (k := 3) (news := wcell (at', padS bs)) (nn' := (ws ++ [(at', padS bs)]).length) (xs' := wflat (ws ++ [(at', padS bs)])) (Want.plain rfl) rfl rfl rfl Y109 in147 rfl rfl rfl rfl rfl rfl (fun _ _ => Src.rd (wcell_len (padS_len (by omega))) (RO 0) (by rw [List.drop_zero, List.take_of_length_le (Nat.le_refl _)])) (wcell_one _) (by simp only [maxLen]; omega) (by omega) (by simp) (by simp [wflat]) (fun v61 ov61 => TL.nil (E1 1 (PD 8 ?_)))
 refine FD 9 1 Y111 sz109 ?_
 refine AL 10 ?_
 refine TL.store1 (i := 2) (Want.plain rfl) rfl rfl rfl rfl ov61 sz109 rfl rfl (lb rfl) rfl rfl (TL.nil (E1 1 (DN (TE.next J24 ?_))))
 clear J24
 refine sr fun _ J26 => PS ?_
 refine nx J26 ?_
 clear J26
 refine TC.ret (WK [2, 2] (TE.ret1 rfl rfl ?_))
 show (if _ then _ else _)
 first
  | (rw [if_pos (by omega)]; exact ⟨rfl, rfl⟩)
  | (rw [if_neg (by omega), if_pos (by simp_all)]; exact ⟨rfl, by simp_all <;> rfl⟩)
  | (rw [if_neg (by omega), if_neg (by simp_all)]; exact ⟨rfl, v61, by simp_all <;> rfl⟩)
 exact AllT.nil
 refine PS ?_
 iterate 5 refine UF ?_
 refine PS ?_
 refine nx J8 ?_
 clear J8
 refine CN (CX J7 ?_)
 clear J7
 refine TC.seq fun _ J27 => sr fun _ J28 => PS ?_
 refine PS ?_
 refine FA 4 Y111 sz4 ?_
 refine LA 0 Y4 ?_
 refine TL.decB (fun h36 => ?_) (fun h36 => ?_)
 refine nx J28 ?_
 clear J28
 refine CY (sr fun _ J29 => PS ?_)
 refine nx J29 ?_
 clear J29
 refine TC.ret (TE.passRet ?_)
 clear J27
 refine WK [0, 0] (TE.ret1 rfl rfl ?_)
 show (if _ then _ else _)
 first
  | (rw [if_pos (by omega)]; exact ⟨rfl, rfl⟩)
  | (rw [if_neg (by omega), if_pos (by simp_all)]; exact ⟨rfl, by simp_all <;> rfl⟩)
  | (rw [if_neg (by omega), if_neg (by simp_all)]; exact ⟨rfl, v61, by simp_all <;> rfl⟩)
 refine nx J28 ?_
 clear J28
 refine CN (CX J27 ?_)
 clear J27
 refine TC.seq fun _ J30 => sr fun _ J31 => PS ?_
 refine PS ?_
 refine FA 2 Y111 sz4 ?_
 refine LA 0 Y4 ?_
 refine TL.decB (fun h40 => ?_) (fun h40 => ?_)
 refine nx J31 ?_
 clear J31
 refine CY (TC.region (PS ?_))
 refine PS ?_
 refine FA 3 Y111 sz3 ?_
 refine LA 0 Y3 ?_
 refine tp (PV.sub rfl rfl rfl (wrap_i64 (by omega) (by omega))) ?_
 refine PS ?_
 refine FA 3 Y111 sz3 ?_
 refine S0 0 sz3 ?_
 refine nx J30 ?_
 clear J30
 refine sr fun _ J32 => PS ?_
 refine tp (PV.build (cells := ((.int .i64 (at')) :: List.replicate 64 (.int .u8 0)).toArray) rfl rfl (by as_aux_lemma => kernel_rfl)) ?_
 refine XA z147 fun b7 => ?_
 refine TL.store (vs := ((.int .i64 (at')) :: List.replicate 64 (.int .u8 0))) (i := 0) (Want.plain rfl) rfl rfl rfl rfl rfl sz147 (by simp [Value.oneCell']) rfl rfl (lbe rfl) rfl rfl (nx J32 ?_)
 clear J32
 refine sr fun _ J33 => FA 1 Y147 sz145 ?_
 refine tp (PV.sliceArr rfl Y145 sz5 rfl) ?_
 refine PS ?_
 refine TL.copy (i := 0) (m := bs.length) (news := (u8s bs)) (H' := [blkA b7 (wcell (at', padS bs)) 147, blkA d [(.map (some m)), wv, (.bool (ar)), (.int .i64 (lf - 1)), (.bool (dn))] 111, own wv (ws.length) (wflat ws) 147 65]) (Want.plain rfl) rfl rfl rfl Y47 sz5 rfl rfl rfl rfl (fun _ _ => hF.src (fun _ h => Frm.of h)) (u8s_one _) (by show 1 + min bs.length 64 ≤ 65; omega) (wr_pad (by omega)) rfl (nx J33 ?_)
 clear J33
 refine TC.seq fun _ J34 => D1 0 mixedD ?_
 refine PD 0 ?_
 refine PD 1 ?_
 refine PD 2 ?_
 refine FD 3 1 Y111 sz109 ?_
 refine ta 5 rfl (PV.loadN (vs := wcell (at', padS bs)) rfl Y147 rfl sz147 rfl (fun _ h => h.2.1) (wcell_len (padS_len (by omega))) (by rw [List.drop_zero, List.take_of_length_le (by rw [(wcell_len (padS_len (by omega)))]; exact Nat.le_refl _)])) ?_
 refine TD.all [4, 6] (by kernel_rfl) rfl (AllT.cons rfl ?_ ?_)
 refine LA 1 Y109 ?_
 refine TL.nil (E1 0 (AL 6 ?_))
 refine TL.buildSlice (cells := (wcell (at', padS bs)).toArray) (Want.plain rfl) rfl rfl rfl Y109 in147 rfl rfl rfl (fill_at (wcell_len (padS_len (by omega))) (by simp)) (fun b60 => ?_)
 change TL _ _ _ _ _ _ _ _ _ [blkA b60 (wcell (at', padS bs)) 147, blkA b7 (wcell (at', padS bs)) 147, blkA d [(.map (some m)), wv, (.bool (ar)), (.int .i64 (lf - 1)), (.bool (dn))] 111, own wv (ws.length) (wflat ws) 147 65]
 refine TL.nil (E1 1 (AL 7 ?_))
 refine TL.append (k := 3) (news := wcell (at', padS bs)) (nn' := (ws ++ [(at', padS bs)]).length) (xs' := wflat (ws ++ [(at', padS bs)])) (Want.plain rfl) rfl rfl rfl Y109 in147 rfl rfl rfl rfl rfl rfl (fun _ _ => Src.rd (wcell_len (padS_len (by omega))) (RO 0) (by rw [List.drop_zero, List.take_of_length_le (Nat.le_refl _)])) (wcell_one _) (by simp only [maxLen]; omega) (by omega) (by simp) (by simp [wflat]) (fun v61 ov61 => TL.nil (E1 1 (PD 8 ?_)))
 refine FD 9 1 Y111 sz109 ?_
 refine AL 10 ?_
 refine TL.store1 (i := 2) (Want.plain rfl) rfl rfl rfl rfl ov61 sz109 rfl rfl (lb rfl) rfl rfl (TL.nil (E1 1 (DN (TE.next J34 ?_))))
 clear J34
 refine sr fun _ J35 => PS ?_
 refine nx J35 ?_
 clear J35
 refine TC.ret (WK [2, 2] (TE.ret1 rfl rfl ?_))
 show (if _ then _ else _)
 first
  | (rw [if_pos (by omega)]; exact ⟨rfl, rfl⟩)
  | (rw [if_neg (by omega), if_pos (by simp_all)]; exact ⟨rfl, by simp_all <;> rfl⟩)
  | (rw [if_neg (by omega), if_neg (by simp_all)]; exact ⟨rfl, v61, by simp_all <;> rfl⟩)
 refine AllT.cons rfl ?_ ?_
 refine TL.buildSlice (cells := (wcell (at', padS bs)).toArray) (Want.plain rfl) rfl rfl rfl Y109 in147 rfl rfl rfl (fill_at (wcell_len (padS_len (by omega))) (by simp)) (fun b60 => ?_)
 change TL _ _ _ _ _ _ _ _ _ [blkA b60 (wcell (at', padS bs)) 147, blkA b7 (wcell (at', padS bs)) 147, blkA d [(.map (some m)), wv, (.bool (ar)), (.int .i64 (lf - 1)), (.bool (dn))] 111, own wv (ws.length) (wflat ws) 147 65]
 refine TL.nil (E1 1 (AL 4 ?_))
 refine LA 2 Y109 ?_
 refine TL.nil (E1 1 (AL 7 ?_))
 refine TL.append (k := 3) (news := wcell (at', padS bs)) (nn' := (ws ++ [(at', padS bs)]).length) (xs' := wflat (ws ++ [(at', padS bs)])) (Want.plain rfl) rfl rfl rfl Y109 in147 rfl rfl rfl rfl rfl rfl (fun _ _ => Src.rd (wcell_len (padS_len (by omega))) (RO 0) (by rw [List.drop_zero, List.take_of_length_le (Nat.le_refl _)])) (wcell_one _) (by simp only [maxLen]; omega) (by omega) (by simp) (by simp [wflat]) (fun v61 ov61 => TL.nil (E1 1 (PD 8 ?_)))
 refine FD 9 1 Y111 sz109 ?_
 refine AL 10 ?_
 refine TL.store1 (i := 2) (Want.plain rfl) rfl rfl rfl rfl ov61 sz109 rfl rfl (lb rfl) rfl rfl (TL.nil (E1 1 (DN (TE.next J34 ?_))))
 clear J34
 refine sr fun _ J36 => PS ?_
 refine nx J36 ?_
 clear J36
 refine TC.ret (WK [2, 2] (TE.ret1 rfl rfl ?_))
 show (if _ then _ else _)
 first
  | (rw [if_pos (by omega)]; exact ⟨rfl, rfl⟩)
  | (rw [if_neg (by omega), if_pos (by simp_all)]; exact ⟨rfl, by simp_all <;> rfl⟩)
  | (rw [if_neg (by omega), if_neg (by simp_all)]; exact ⟨rfl, v61, by simp_all <;> rfl⟩)
 exact AllT.nil
 refine nx J31 ?_
 clear J31
 refine CN (CX J30 ?_)
 clear J30
 refine sr fun _ J37 => PS ?_
 refine tp (PV.build (cells := ((.int .i64 (at')) :: List.replicate 64 (.int .u8 0)).toArray) rfl rfl (by as_aux_lemma => kernel_rfl)) ?_
 refine XA z147 fun b7 => ?_
 refine TL.store (vs := ((.int .i64 (at')) :: List.replicate 64 (.int .u8 0))) (i := 0) (Want.plain rfl) rfl rfl rfl rfl rfl sz147 (by simp [Value.oneCell']) rfl rfl (lbe rfl) rfl rfl (nx J37 ?_)
 clear J37
 refine sr fun _ J38 => FA 1 Y147 sz145 ?_
 refine tp (PV.sliceArr rfl Y145 sz5 rfl) ?_
 refine PS ?_
 refine TL.copy (i := 0) (m := bs.length) (news := (u8s bs)) (H' := [blkA b7 (wcell (at', padS bs)) 147, blkA d [(.map (some m)), wv, (.bool (ar)), (.int .i64 (lf)), (.bool (dn))] 111, own wv (ws.length) (wflat ws) 147 65]) (Want.plain rfl) rfl rfl rfl Y47 sz5 rfl rfl rfl rfl (fun _ _ => hF.src (fun _ h => Frm.of h)) (u8s_one _) (by show 1 + min bs.length 64 ≤ 65; omega) (wr_pad (by omega)) rfl (nx J38 ?_)
 clear J38
 refine TC.seq fun _ J39 => D1 0 mixedD ?_
 refine PD 0 ?_
 refine PD 1 ?_
 refine PD 2 ?_
 refine FD 3 1 Y111 sz109 ?_
 refine ta 5 rfl (PV.loadN (vs := wcell (at', padS bs)) rfl Y147 rfl sz147 rfl (fun _ h => h.2.1) (wcell_len (padS_len (by omega))) (by rw [List.drop_zero, List.take_of_length_le (by rw [(wcell_len (padS_len (by omega)))]; exact Nat.le_refl _)])) ?_
 refine TD.all [4, 6] (by kernel_rfl) rfl (AllT.cons rfl ?_ ?_)
 refine LA 1 Y109 ?_
 refine TL.nil (E1 0 (AL 6 ?_))
 refine TL.buildSlice (cells := (wcell (at', padS bs)).toArray) (Want.plain rfl) rfl rfl rfl Y109 in147 rfl rfl rfl (fill_at (wcell_len (padS_len (by omega))) (by simp)) (fun b60 => ?_)
 change TL _ _ _ _ _ _ _ _ _ [blkA b60 (wcell (at', padS bs)) 147, blkA b7 (wcell (at', padS bs)) 147, blkA d [(.map (some m)), wv, (.bool (ar)), (.int .i64 (lf)), (.bool (dn))] 111, own wv (ws.length) (wflat ws) 147 65]
 refine TL.nil (E1 1 (AL 7 ?_))
 refine TL.append (k := 3) (news := wcell (at', padS bs)) (nn' := (ws ++ [(at', padS bs)]).length) (xs' := wflat (ws ++ [(at', padS bs)])) (Want.plain rfl) rfl rfl rfl Y109 in147 rfl rfl rfl rfl rfl rfl (fun _ _ => Src.rd (wcell_len (padS_len (by omega))) (RO 0) (by rw [List.drop_zero, List.take_of_length_le (Nat.le_refl _)])) (wcell_one _) (by simp only [maxLen]; omega) (by omega) (by simp) (by simp [wflat]) (fun v61 ov61 => TL.nil (E1 1 (PD 8 ?_)))
 refine FD 9 1 Y111 sz109 ?_
 refine AL 10 ?_
 refine TL.store1 (i := 2) (Want.plain rfl) rfl rfl rfl rfl ov61 sz109 rfl rfl (lb rfl) rfl rfl (TL.nil (E1 1 (DN (TE.next J39 ?_))))
 clear J39
 refine sr fun _ J40 => PS ?_
 refine nx J40 ?_
 clear J40
 refine TC.ret (WK [2, 2] (TE.ret1 rfl rfl ?_))
 show (if _ then _ else _)
 first
  | (rw [if_pos (by omega)]; exact ⟨rfl, rfl⟩)
  | (rw [if_neg (by omega), if_pos (by simp_all)]; exact ⟨rfl, by simp_all <;> rfl⟩)
  | (rw [if_neg (by omega), if_neg (by simp_all)]; exact ⟨rfl, v61, by simp_all <;> rfl⟩)
 refine AllT.cons rfl ?_ ?_
 refine TL.buildSlice (cells := (wcell (at', padS bs)).toArray) (Want.plain rfl) rfl rfl rfl Y109 in147 rfl rfl rfl (fill_at (wcell_len (padS_len (by omega))) (by simp)) (fun b60 => ?_)
 change TL _ _ _ _ _ _ _ _ _ [blkA b60 (wcell (at', padS bs)) 147, blkA b7 (wcell (at', padS bs)) 147, blkA d [(.map (some m)), wv, (.bool (ar)), (.int .i64 (lf)), (.bool (dn))] 111, own wv (ws.length) (wflat ws) 147 65]
 refine TL.nil (E1 1 (AL 4 ?_))
 refine LA 2 Y109 ?_
 refine TL.nil (E1 1 (AL 7 ?_))
 refine TL.append (k := 3) (news := wcell (at', padS bs)) (nn' := (ws ++ [(at', padS bs)]).length) (xs' := wflat (ws ++ [(at', padS bs)])) (Want.plain rfl) rfl rfl rfl Y109 in147 rfl rfl rfl rfl rfl rfl (fun _ _ => Src.rd (wcell_len (padS_len (by omega))) (RO 0) (by rw [List.drop_zero, List.take_of_length_le (Nat.le_refl _)])) (wcell_one _) (by simp only [maxLen]; omega) (by omega) (by simp) (by simp [wflat]) (fun v61 ov61 => TL.nil (E1 1 (PD 8 ?_)))
 refine FD 9 1 Y111 sz109 ?_
 refine AL 10 ?_
 refine TL.store1 (i := 2) (Want.plain rfl) rfl rfl rfl rfl ov61 sz109 rfl rfl (lb rfl) rfl rfl (TL.nil (E1 1 (DN (TE.next J39 ?_))))
 clear J39
 refine sr fun _ J41 => PS ?_
 refine nx J41 ?_
 clear J41
 refine TC.ret (WK [2, 2] (TE.ret1 rfl rfl ?_))
 show (if _ then _ else _)
 first
  | (rw [if_pos (by omega)]; exact ⟨rfl, rfl⟩)
  | (rw [if_neg (by omega), if_pos (by simp_all)]; exact ⟨rfl, by simp_all <;> rfl⟩)
  | (rw [if_neg (by omega), if_neg (by simp_all)]; exact ⟨rfl, v61, by simp_all <;> rfl⟩)
 exact AllT.nil
theorem dr_syncDown_does (d m : Nat) (wv : Value) (ar : Bool) (lf : Int) :
 Leg.Does Tryz.prog 88 #[(.pointer (some ⟨d, 0, none⟩))] (fun _ => True) [blkA d [(.map (some m)), wv, (.bool (ar)), (.int .i64 (lf)), (.bool true)] 111] (Ret (fun v H => v = .int .i64 4 ∧ H = [blkA d [(.map (some m)), wv, (.bool (ar)), (.int .i64 (lf)), (.bool true)] 111])) := by
 refine Leg.Does.body (n := 28) Tryz.func88 rfl rfl rfl (fun w0 F hF => sr fun _ J1 => PS ?_)
 refine nx J1 (TC.seq fun _ J2 => sr fun _ J3 => PS ?_)
 refine PS ?_
 refine FA 4 Y111 sz4 ?_
 refine LA 0 Y4 ?_
 refine nx J3 (CY (sr fun _ J4 => PS ?_))
 exact nx J4 (TC.ret (TE.passRet (WK [0] (TE.ret1 rfl rfl ⟨rfl, rfl⟩))))
theorem dr_syncUp_does (d m : Nat) (wv : Value) (s ws : Secs) (ar : Bool) (lf : Int) (hw : Whole ws) :
 Leg.Does Tryz.prog 88 #[(.pointer (some ⟨d, 0, none⟩))] (fun _ => True) [blkA d [(.map (some m)), wv, (.bool (ar)), (.int .i64 (lf)), (.bool false)] 111, mapP m (kvS s), own wv (ws.length) (wflat ws) 147 65] (Ret (fun v H => v = .int .i64 0 ∧ H = [blkA d [(.map (some m)), (.slice none 0 0), (.bool (ar)), (.int .i64 (lf)), (.bool false)] 111, mapP m (kvS (layN s ws ws.length)), own (.slice none 0 0) 0 [] 147 65])) := by
 refine Leg.Does.body (n := 28) Tryz.func88 rfl rfl rfl (fun w0 F hF => sr fun _ J1 => TL.ownLen 2 rfl rfl (fun hwl _ => PS ?_))
 refine nx J1 (TC.seq fun _ J2 => sr fun _ J3 => PS ?_)
 refine PS ?_
 refine FA 4 Y111 sz4 ?_
 refine LA 0 Y4 ?_
 refine nx J3 (CN (CX J2 (TC.seq fun _ J4 => sr fun _ J5 => PS ?_)))
 refine PS ?_
 refine FA 1 Y111 sz109 ?_
 refine LA 0 Y109 ?_
 refine tp (PV.lenV rfl Y109 rfl hwl) ?_
 refine PS ?_
 refine nx J5 (TC.block ?_)
 refine TC.loop (α := (Nat) × (Secs)) (fun ⟨k, s'⟩ => k ≤ ws.length ∧ s' = layN s ws k) (fun ⟨k, s'⟩ => [(0, (.pointer (some ⟨d, 0, none⟩))), (2, (.int .i64 0)), (12, wv), (13, (.int .i64 (((ws.length : Nat) : Int)))), (14, (.int .i64 (((k : Nat) : Int))))]) (fun ⟨k, s'⟩ => [blkA d [(.map (some m)), wv, (.bool (ar)), (.int .i64 (lf)), (.bool false)] 111, mapP m (kvS s'), own wv (ws.length) (wflat ws) 147 65]) (fun ⟨k, s'⟩ => ws.length - k) (0, s)
  ⟨Nat.zero_le _, rfl⟩ SB
  (fun _ s => s) (fun ⟨k, s'⟩ hinv => ?_)
 obtain ⟨hk, hs'⟩ := hinv
 refine sr fun _ J6 => PS ?_
 refine TL.dec (fun h15 => ?_) (fun h15 => ?_)
 refine TL.ownAt 2 rfl rfl (by omega) (fun g cap hv hcap => nx J6 (TC.seq fun _ J7 => CY (CX J7 (TC.seq fun _ J8 => TC.block (sr fun _ J9 => tp (PV.indexSlV (r := k * 65) hv rfl Y109 sz147 rfl rfl (by omega) (by omega) (by omega)) ?_)))))
 refine tp (PV.loadNX (vs := wcell (wat ws k)) rfl Y147 rfl sz147 rfl (RdX.own 2 rfl hv rfl) (wcell_len (wat_len hw (by omega))) (wflat_atN hw (by omega))) ?_
 refine XA z147 fun b4 => ?_
 refine TL.store (vs := wcell (wat ws k)) (i := 0) (Want.plain rfl) rfl rfl rfl rfl rfl (by rw [wcell_len (wat_len hw (by omega))]; exact sz147) (wcell_one _) rfl rfl (by rw [wcell_len (wat_len hw (by omega))]; exact Nat.le_refl _) (wr_whole (Eq.trans (rfl : _ = 65) (by rw [wcell_len (wat_len hw (by omega))] : (wcell (wat ws k)).length = 65).symm)) rfl (nx J9 (TC.region (PS ?_)))
 refine FA 0 Y147 sz3 ?_
 refine LA 0 Y3 ?_
 refine FA 1 Y147 sz145 ?_
 refine tp (PV.loadN (vs := u8s (wat ws k).2) rfl Y145 rfl sz145 rfl (RO 0) (by rw [u8s_length]; exact wat_len hw (by omega)) (wcell_tail (wat_len hw (by omega)))) ?_
 refine CR nm72 (dr_last_does d m wv s' ar false lf ((wat ws k).1) (wat ws k).2 (by exact wat_len hw (by omega))) (SM [1, 1]) fun vR HR hR => ?_
 subst hR
 refine TL.nil (TE.blockEnd (TE.next J8 (TC.region (AD ?_))))
 refine PS ?_
 refine TL.nil ?_
 exact TE.round ((k + 1, sput s' (wat ws k).1 (wat ws k).2) : (Nat) × (Secs)) ⟨by omega, by rw [hs']; rfl⟩ (by show ws.length - (k + 1) < ws.length - k; omega)
  SB
  (fun _ s => sep_keep [0, 0, 1] rfl s)
 refine nx J6 (TC.seq fun _ J10 => CN (TC.exit (TE.pass (TE.pass (TE.hit (TE.next J4 (sr fun _ J11 => PS ?_)))))))
 refine PS ?_
 refine FA 1 Y111 sz109 ?_
 refine S0 0 sz109 ?_
 refine nx J11 (sr fun _ J12 => PS ?_)
 refine nx J12 (TC.ret (TE.weak (H' := [blkA d [(.map (some m)), (.slice none 0 0), (.bool (ar)), (.int .i64 (lf)), (.bool false)] 111, mapP m (kvS s'), own (.slice none 0 0) 0 [] 147 65]) (Sub.refl _) (fun _ s => sep_perm (List.Perm.trans (List.Perm.swap _ _ _) (List.Perm.cons _ (List.Perm.swap _ _ _))) (sep_ownNil 147 65 (sep_keep [0, 0] rfl s))) (TE.ret1 rfl rfl ?_)))
 obtain rfl : k = ws.length := by omega
 subst hs'
 exact ⟨rfl, rfl⟩
theorem dr_read_does (d m : Nat) (wv : Value) (s ws : Secs) (ar dn : Bool) (lf at' : Int) (hs2 : Whole s) (hw : Whole ws) (hb : ws.length ≤ 1000000000) :
 Leg.Does Tryz.prog 86 #[(.pointer (some ⟨d, 0, none⟩)), (.int .i64 (at'))] (fun _ => True) [blkA d [(.map (some m)), wv, (.bool (ar)), (.int .i64 (lf)), (.bool (dn))] 111, mapP m (kvS s), own wv (ws.length) (wflat ws) 147 65] (Ret (fun v H => v = secV (readN s ws at' ws.length) ∧ H = [blkA d [(.map (some m)), wv, (.bool (ar)), (.int .i64 (lf)), (.bool (dn))] 111, mapP m (kvS s), own wv (ws.length) (wflat ws) 147 65])) := by
 refine Leg.Does.body (n := 40) Tryz.func86 rfl rfl rfl (fun w0 F hF => sr fun _ J1 => TL.ownLen 2 rfl rfl (fun hwl _ => XA z145 fun b4 => ?_))
 refine nx J1 (TC.seq fun _ J2 => sr fun _ J3 => PS ?_)
 refine PS ?_
 refine FA 1 Y111 sz109 ?_
 refine LA 1 Y109 ?_
 refine tp (PV.lenV rfl Y109 rfl hwl) ?_
 refine tp (PV.sub rfl rfl rfl (wrap_i64 (by omega) (by omega))) ?_
 refine PS ?_
 refine nx J3 (TC.block ?_)
 refine TC.loop (α := (Int)) (fun p => -1 ≤ p ∧ p < ws.length ∧ readN s ws at' (p + 1).toNat = readN s ws at' ws.length) (fun p => [(0, (.pointer (some ⟨d, 0, none⟩))), (1, (.int .i64 (at'))), (4, (.pointer (some ⟨b4, 0, none⟩))), (5, (.int .i64 (p)))]) (fun p => [blkA b4 [(.int .u8 0), (.int .u8 0), (.int .u8 0), (.int .u8 0), (.int .u8 0), (.int .u8 0), (.int .u8 0), (.int .u8 0), (.int .u8 0), (.int .u8 0), (.int .u8 0), (.int .u8 0), (.int .u8 0), (.int .u8 0), (.int .u8 0), (.int .u8 0), (.int .u8 0), (.int .u8 0), (.int .u8 0), (.int .u8 0), (.int .u8 0), (.int .u8 0), (.int .u8 0), (.int .u8 0), (.int .u8 0), (.int .u8 0), (.int .u8 0), (.int .u8 0), (.int .u8 0), (.int .u8 0), (.int .u8 0), (.int .u8 0), (.int .u8 0), (.int .u8 0), (.int .u8 0), (.int .u8 0), (.int .u8 0), (.int .u8 0), (.int .u8 0), (.int .u8 0), (.int .u8 0), (.int .u8 0), (.int .u8 0), (.int .u8 0), (.int .u8 0), (.int .u8 0), (.int .u8 0), (.int .u8 0), (.int .u8 0), (.int .u8 0), (.int .u8 0), (.int .u8 0), (.int .u8 0), (.int .u8 0), (.int .u8 0), (.int .u8 0), (.int .u8 0), (.int .u8 0), (.int .u8 0), (.int .u8 0), (.int .u8 0), (.int .u8 0), (.int .u8 0), (.int .u8 0)] 145, blkA d [(.map (some m)), wv, (.bool (ar)), (.int .i64 (lf)), (.bool (dn))] 111, mapP m (kvS s), own wv (ws.length) (wflat ws) 147 65]) (fun p => (p + 1).toNat) (((ws.length : Nat) : Int) - 1)
  ⟨by omega, by omega, by congr 1; omega⟩ SB
  (fun _ s => s) (fun p hinv => ?_)
 obtain ⟨hp1, hp2, hp3⟩ := hinv
 refine TC.seq fun _ J4 => sr fun _ J5 => PS ?_
 refine PS ?_
 refine TL.dec (fun h13 => ?_) (fun h13 => ?_)
 refine TL.ownAt 3 rfl rfl (by omega) (fun g cap hv hcap => nx J5 (CY (CX J4 (TC.seq fun _ J6 => TC.block (sr fun _ J7 => PS ?_)))))
 refine PS ?_
 refine FA 1 Y111 sz109 ?_
 refine LA 1 Y109 ?_
 refine PS ?_
 refine tp (PV.indexSlV (r := p.toNat * 65) hv rfl Y109 sz147 rfl rfl (by omega) (by omega) (by omega)) ?_
 refine tp (PV.fieldAddr (r := p.toNat * 65) rfl Y147 rfl sz3 rfl rfl) ?_
 refine tp (PV.load1X (v := (.int .i64 ((wat ws p.toNat).1))) rfl Y3 rfl rfl (RdX.own 3 rfl hv rfl) (wflat_at0 hw (by omega))) ?_
 refine PS ?_
 refine PS ?_
 refine TL.dec (fun h25 => ?_) (fun h25 => ?_)
 refine nx J7 (CY (sr fun _ J8 => PS ?_))
 refine PS ?_
 refine FA 1 Y111 sz109 ?_
 refine LA 1 Y109 ?_
 refine PS ?_
 refine tp (PV.indexSlV (r := p.toNat * 65) hv rfl Y109 sz147 rfl rfl (by omega) (by omega) (by omega)) ?_
 refine tp (PV.fieldAddr (r := p.toNat * 65 + 1) rfl Y147 rfl sz145 rfl rfl) ?_
 refine tp (PV.loadNX (vs := u8s (wat ws p.toNat).2) rfl Y145 rfl sz145 rfl (RdX.own 3 rfl hv rfl) (by rw [u8s_length]; exact wat_len hw (by omega)) (wflat_at1 hw (by omega))) ?_
 refine TL.store (vs := u8s (wat ws p.toNat).2) (i := 0) (Want.plain rfl) rfl rfl rfl rfl rfl (by rw [u8s_length, wat_len hw (by omega)]; exact sz145) (u8s_one _) rfl rfl (by rw [u8s_length, wat_len hw (by omega)]; exact Nat.le_refl _) (wr_whole (Eq.trans (rfl : _ = 64) (by rw [u8s_length, wat_len hw (by omega)] : (u8s (wat ws p.toNat).2).length = 64).symm)) rfl (nx J8 (TC.ret (TE.blockRet (TE.passRet (TE.passRet (TE.blockRet (TE.passRet (TE.retC (H' := [blkA d [(.map (some m)), wv, (.bool (ar)), (.int .i64 (lf)), (.bool (dn))] 111, mapP m (kvS s), own wv (ws.length) (wflat ws) 147 65]) rfl rfl Y145 rfl sz145 (RO 0) (by rw [u8s_length]; exact wat_len hw (by omega)) (fun _ s => sep_keep [1, 1, 1] rfl s) ?_))))))))
 have e := readN_hit (s := s) h25
 rw [show p.toNat + 1 = (p + 1).toNat by omega, hp3] at e
 exact ⟨by rw [e]; rfl, rfl⟩
 refine nx J7 (CN (TC.skip (TE.blockEnd (TE.next J6 (TC.region (PS ?_))))))
 refine tp (PV.sub rfl rfl rfl (wrap_i64 (by omega) (by omega))) ?_
 refine PS ?_
 refine TL.nil ?_
 exact TE.round ((p - 1) : (Int)) ⟨by omega, by omega, by rw [← hp3, show (p + 1).toNat = p.toNat + 1 by omega, readN_miss h25]; congr 1; omega⟩ (by show (p - 1 + 1).toNat < (p + 1).toNat; omega)
  SB
  (fun _ s => s)
 refine nx J5 (CN (TC.exit (TE.pass (TE.pass (TE.hit (TE.next J2 (sr fun _ J9 => PS ?_)))))))
 refine PS ?_
 refine FA 0 Y111 sz108 ?_
 refine LA 1 Y108 ?_
 refine PS ?_
 refine tp (PV.lookup rfl Y108 Y3 z145 rfl rfl (RdM.own 2 rfl rfl) (kget_kvS _ _)) ?_
 refine TL.store (vs := u8s (sget s at')) (i := 0) (Want.plain rfl) rfl rfl rfl rfl rfl (by rw [u8s_length, sget_whole hs2]; exact sz145) (u8s_one _) rfl rfl (by rw [u8s_length, sget_whole hs2]; exact Nat.le_refl _) (wr_whole (Eq.trans (rfl : _ = 64) (by rw [u8s_length, sget_whole hs2] : (u8s (sget s at')).length = 64).symm)) rfl (nx J9 (TC.ret (TE.retC (H' := [blkA d [(.map (some m)), wv, (.bool (ar)), (.int .i64 (lf)), (.bool (dn))] 111, mapP m (kvS s), own wv (ws.length) (wflat ws) 147 65]) rfl rfl Y145 rfl sz145 (RO 0) (by rw [u8s_length]; exact sget_whole hs2 _) (fun _ s => sep_keep [1, 1, 1] rfl s) ?_)))
 rw [show (p + 1).toNat = 0 by omega] at hp3
 exact ⟨by rw [← hp3]; rfl, rfl⟩
theorem sg145 : Tryz.prog.eqGuardType Tryz.prog.depth 145 = false := by kernel_rfl
theorem sk145 : Tryz.prog.keyTypeAt 2 145 = true := by kernel_rfl
theorem sf145 : flatK Tryz.prog 2 145 = some (List.replicate 64 (some .u8)) := by kernel_rfl
theorem sa145 : aggT Tryz.prog 145 = true := by kernel_rfl
theorem sc145 : Tryz.prog.cellsOf 145 = 64 := by kernel_rfl
abbrev dk (d : Nat) (D : DS) : HP := diskP 111 147 d D
theorem dk_down (d : Nat) (D : DS)  : Leg.Does Tryz.prog 49 #[(.pointer (some ⟨d, 0, none⟩))] (fun _ => True) [dk d D] (Ret (fun v H => v = .bool D.dn ∧ H = [dk d (D)])) := Leg.Does.pack (B := []) fun ⟨m, wv⟩ =>
 Leg.Does.withinR (dr_down_does d m wv D.ar D.dn D.lf) (B := [mapP m (kvS D.s), own wv D.ws.length (wflat D.ws) 147 65]) (fun _ _ _ _ => trivial) (fun _ s => s) (fun v H h => by
  obtain ⟨rfl, rfl⟩ := h
  exact ⟨_, fun _ s => sep_close (H := []) (m, wv) (s), rfl, rfl⟩)
theorem dk_read (d : Nat) (D : DS) (at' : Int) (hD : D.Ok) (hb : D.ws.length ≤ 1000000000) : Leg.Does Tryz.prog 86 #[(.pointer (some ⟨d, 0, none⟩)), .int .i64 at'] (fun _ => True) [dk d D] (Ret (fun v H => v = secV (D.read at') ∧ H = [dk d (D)])) := Leg.Does.pack (B := []) fun ⟨m, wv⟩ =>
 Leg.Does.withinR (dr_read_does d m wv D.s D.ws D.ar D.dn D.lf at' hD.s hD.ws hb) (B := []) (fun _ _ _ _ => trivial) (fun _ s => s) (fun v H h => by
  obtain ⟨rfl, rfl⟩ := h
  exact ⟨_, fun _ s => sep_close (H := []) (m, wv) (s), rfl, rfl⟩)
theorem dk_write (d : Nat) (D : DS) (at' : Int) (x : Value) (bs : List UInt8) (hD : D.Ok) (hb : D.ws.length ≤ 1000000000) : Leg.Does Tryz.prog 87 #[(.pointer (some ⟨d, 0, none⟩)), .int .i64 at', x] (IsW x bs) [dk d D] (Ret (fun v H => v = .int .i64 (D.write at' bs).1 ∧ H = [dk d ((D.write at' bs).2)])) := Leg.Does.pack (B := []) fun ⟨m, wv⟩ =>
 Leg.Does.withinR (dr_write_does d m wv D.ws D.ar D.dn D.lf at' x bs hD.lf hb) (B := [mapP m (kvS D.s)]) (fun _ _ h d => h.more d) (fun _ s => sep_selR [0, 1] rfl s) (fun v H h => by
  unfold DS.write
  replace h : (if at' < 0 ∨ 2048 ≤ at' ∨ 64 < bs.length then _ else _) := h
  split at h <;> rename_i h1
  · rw [if_pos h1]
    obtain ⟨rfl, rfl⟩ := h
    exact ⟨_, fun _ s => sep_close (H := []) (m, wv) (sep_selR [0, 1] rfl s), rfl, rfl⟩
  · rw [if_neg h1]
    split at h <;> rename_i h2
    · rw [if_pos h2]
      obtain ⟨rfl, rfl⟩ := h
      exact ⟨_, fun _ s => sep_close (H := []) (m, wv) (sep_selR [0, 1] rfl s), rfl, rfl⟩
    · rw [if_neg h2]
      obtain ⟨rfl, wv', rfl⟩ := h
      exact ⟨_, fun _ s => sep_close (H := []) (m, wv') (sep_selR [0, 1] rfl s), rfl, rfl⟩)
theorem dk_sync (d : Nat) (D : DS) (hD : D.Ok) : Leg.Does Tryz.prog 88 #[(.pointer (some ⟨d, 0, none⟩))] (fun _ => True) [dk d D] (Ret (fun v H => v = .int .i64 D.sync.1 ∧ H = [dk d D.sync.2])) := by
 obtain ⟨s, ws, ar, lf, dn⟩ := D
 cases dn
 · exact Leg.Does.pack (B := []) fun ⟨m, wv⟩ => Leg.Does.withinR (dr_syncUp_does d m wv s ws ar lf hD.ws) (B := []) (fun _ _ _ _ => trivial) (fun _ s => s) (fun v H h => by
    obtain ⟨rfl, rfl⟩ := h
    exact ⟨_, fun _ s => sep_close (H := []) (m, (.slice none 0 0 : Value)) s, rfl, rfl⟩)
 · exact Leg.Does.pack (B := []) fun ⟨m, wv⟩ => Leg.Does.withinR (dr_syncDown_does d m wv ar lf) (B := [mapP m (kvS s), own wv ws.length (wflat ws) 147 65]) (fun _ _ _ _ => trivial) (fun _ s => s) (fun v H h => by
    obtain ⟨rfl, rfl⟩ := h
    exact ⟨_, fun _ s => sep_close (H := []) (m, wv) s, rfl, rfl⟩)
theorem dk_new : Leg.Does Tryz.prog 21 #[] (fun _ => True) [] (Ret (fun v H => ∃ d, v = .pointer (some ⟨d, 0, none⟩) ∧ H = [dk d DS.new])) :=
 Leg.Does.withinR dr_new_does (B := []) (fun _ _ _ _ => trivial) (fun _ s => s) (fun v H h => by
  obtain ⟨d, m, rfl, rfl⟩ := h
  exact ⟨_, fun _ s => sep_close (H := []) (m, (.slice none 0 0 : Value)) (sep_perm (List.Perm.trans (List.Perm.swap _ _ _) (List.Perm.cons _ (List.Perm.swap _ _ _))) (sep_ownNil 147 65 s)), d, rfl, rfl⟩)
end Go.Proofs.YtohmkchalilodaaGreatDoor
end

section
namespace Wal
open Go Leg Codec Api Dsk
theorem orI_add32 {x y : Int} (k : Nat) (hx : 0 ≤ x) (hx2 : x < 2 ^ k) (hy : 0 ≤ y) (h : x + y * 2 ^ k < 4294967296) : orI .u32 x (y * 2 ^ k) = x + y * 2 ^ k := by
  obtain ⟨a, rfl⟩ := Int.eq_ofNat_of_zero_le hx
  obtain ⟨b, rfl⟩ := Int.eq_ofNat_of_zero_le hy
  have e2 : ((b : Nat) : Int) * 2 ^ k = ((b * 2 ^ k : Nat) : Int) := by simp
  rw [e2] at h ⊢
  have ha : a < 2 ^ k := by have : (((2 : Nat) ^ k : Nat) : Int) = (2 : Int) ^ k := by simp
                            omega
  have hs : a + b * 2 ^ k < 4294967296 := by omega
  have h1 : (BitVec.ofInt 32 (a : Int)).toNat = a := by rw [BitVec.toNat_ofInt]; omega
  have h2 : (BitVec.ofInt 32 ((b * 2 ^ k : Nat) : Int)).toNat = b * 2 ^ k := by
    rw [BitVec.toNat_ofInt]; generalize b * 2 ^ k = q at *; omega
  have h3 : a ||| b * 2 ^ k = a + b * 2 ^ k := by
    rw [Nat.or_comm, ← Nat.shiftLeft_eq, ← Nat.shiftLeft_add_eq_or_of_lt ha, Nat.add_comm]
  show IntKind.u32.wrap (((BitVec.ofInt 32 (a : Int)) ||| (BitVec.ofInt 32 ((b * 2 ^ k : Nat) : Int))).toNat : Nat) = _
  rw [BitVec.toNat_or, h1, h2, h3]
  generalize b * 2 ^ k = q at *
  rw [wrap_u32 (by omega) (by omega)]
  omega
theorem orI_add64 {x y : Int} (k : Nat) (hx : 0 ≤ x) (hx2 : x < 2 ^ k) (hy : 0 ≤ y) (h : x + y * 2 ^ k < 9223372036854775808) : orI .i64 (y * 2 ^ k) x = x + y * 2 ^ k := by
  obtain ⟨a, rfl⟩ := Int.eq_ofNat_of_zero_le hx
  obtain ⟨b, rfl⟩ := Int.eq_ofNat_of_zero_le hy
  have e2 : ((b : Nat) : Int) * 2 ^ k = ((b * 2 ^ k : Nat) : Int) := by simp
  rw [e2] at h ⊢
  have ha : a < 2 ^ k := by have : (((2 : Nat) ^ k : Nat) : Int) = (2 : Int) ^ k := by simp
                            omega
  have h1 : (BitVec.ofInt 64 (a : Int)).toNat = a := by rw [BitVec.toNat_ofInt]; omega
  have h2 : (BitVec.ofInt 64 ((b * 2 ^ k : Nat) : Int)).toNat = b * 2 ^ k := by
    rw [BitVec.toNat_ofInt]; generalize b * 2 ^ k = q at *; omega
  have h3 : b * 2 ^ k ||| a = a + b * 2 ^ k := by
    rw [← Nat.shiftLeft_eq, ← Nat.shiftLeft_add_eq_or_of_lt ha, Nat.add_comm]
  show IntKind.i64.wrap (((BitVec.ofInt 64 ((b * 2 ^ k : Nat) : Int)) ||| (BitVec.ofInt 64 (a : Int))).toNat : Nat) = _
  rw [BitVec.toNat_or, h1, h2, h3]
  generalize b * 2 ^ k = q at *
  rw [wrap_i64 (by omega) (by omega)]
  omega
theorem u32_range (x : Int) : 0 ≤ IntKind.u32.wrap x ∧ IntKind.u32.wrap x < 4294967296 := by
 simp only [IntKind.wrap, IntKind.signed, IntKind.bits]; simp; omega
theorem xor32_range (a b : Int) : 0 ≤ xorI .u32 a b ∧ xorI .u32 a b < 4294967296 := u32_range _
def r8 (x : Int) : UInt8 := UInt8.ofNat (x % 256).toNat
theorem r8_nat (x : Int) : (((r8 x).toNat : Nat) : Int) = x % 256 := by
 have : (x % 256).toNat < 256 := by omega
 simp only [r8, UInt8.toNat_ofNat']; omega
theorem r8_wrap (x : Int) : IntKind.u8.wrap x = (((r8 x).toNat : Nat) : Int) := by
 rw [r8_nat]; simp only [IntKind.wrap, IntKind.signed, IntKind.bits]; simp
def crcBit (r : Int) : Int := if andI .u32 r 1 = 1 then xorI .u32 (r.fdiv 2) 3988292384 else r.fdiv 2
def crcBits (r : Int) : Nat → Int
 | 0 => r
 | k + 1 => crcBit (crcBits r k)
def crcByte (r : Int) (c : UInt8) : Int := crcBits (xorI .u32 r ((c.toNat : Nat) : Int)) 8
def crcRun (r : Int) (bs : List UInt8) : Int := bs.foldl crcByte r
def crcOf (bs : List UInt8) : Int := xorI .u32 4294967295 (crcRun 4294967295 bs)
theorem crcRun_take {r : Int} {bs : List UInt8} {k : Nat} (h : k < bs.length) : crcRun r (bs.take (k + 1)) = crcByte (crcRun r (bs.take k)) (bs.getD k 0) := by
 rw [crcRun, crcRun, List.take_succ_eq_append_getElem h, List.foldl_append, List.getD_eq_getElem?_getD, List.getElem?_eq_getElem h]; rfl
theorem crcRun_append (r : Int) (a b : List UInt8) : crcRun r (a ++ b) = crcRun (crcRun r a) b := by simp [crcRun]
theorem crcRun_flat {r : Int} {ps : List (List UInt8)} {k : Nat} (h : k < ps.length) : crcRun r (ps.take (k + 1)).flatten = crcRun (crcRun r (ps.take k).flatten) ps[k] := by
 rw [List.take_succ_eq_append_getElem h, List.flatten_append, crcRun_append]; simp
theorem crcOf_range (bs : List UInt8) : 0 ≤ crcOf bs ∧ crcOf bs < 4294967296 := xor32_range _ _
def le4 (r : Int) : List UInt8 := [r8 r, r8 (r.fdiv 256), r8 (r.fdiv 65536), r8 (r.fdiv 16777216)]
def le32 (a b c d : UInt8) : Int :=
 orI .u32 (orI .u32 (orI .u32 ((a.toNat : Nat) : Int) (IntKind.u32.wrap (((b.toNat : Nat) : Int) * 2 ^ 8))) (IntKind.u32.wrap (((c.toNat : Nat) : Int) * 2 ^ 16))) (IntKind.u32.wrap (((d.toNat : Nat) : Int) * 2 ^ 24))
theorem le32_eq (a b c d : UInt8) : le32 a b c d = ((a.toNat : Nat) : Int) + ((b.toNat : Nat) : Int) * 256 + ((c.toNat : Nat) : Int) * 65536 + ((d.toNat : Nat) : Int) * 16777216 := by
 have ha := a.toNat_lt
 have hb := b.toNat_lt
 have hc := c.toNat_lt
 have hd := d.toNat_lt
 unfold le32
 generalize a.toNat = a at *
 generalize b.toNat = b at *
 generalize c.toNat = c at *
 generalize d.toNat = d at *
 rw [wrap_u32 (x := (b : Int) * 2 ^ 8) (by omega) (by omega), wrap_u32 (x := (c : Int) * 2 ^ 16) (by omega) (by omega), wrap_u32 (x := (d : Int) * 2 ^ 24) (by omega) (by omega)]
 rw [orI_add32 8 (by omega) (by omega) (by omega) (by omega), orI_add32 16 (by omega) (by omega) (by omega) (by omega), orI_add32 24 (by omega) (by omega) (by omega) (by omega)]
 omega
def putP (bs : List UInt8) : List UInt8 := bs ++ le4 (crcOf bs)
def takeP (bs : List UInt8) : Option (List UInt8) :=
 if bs.length < 4 then none
 else if crcOf (bs.take (bs.length - 4)) = le32 ((bs.drop (bs.length - 4)).getD 0 0) ((bs.drop (bs.length - 4)).getD 1 0) ((bs.drop (bs.length - 4)).getD 2 0) ((bs.drop (bs.length - 4)).getD 3 0) then some (bs.take (bs.length - 4)) else none
theorem putP_len (bs : List UInt8) : (putP bs).length = bs.length + 4 := by simp [putP, le4]
theorem le32_le4 {r : Int} (h : 0 ≤ r ∧ r < 4294967296) : le32 (r8 r) (r8 (r.fdiv 256)) (r8 (r.fdiv 65536)) (r8 (r.fdiv 16777216)) = r := by
 rw [le32_eq, r8_nat, r8_nat, r8_nat, r8_nat, Int.fdiv_eq_ediv_of_nonneg _ (by decide), Int.fdiv_eq_ediv_of_nonneg _ (by decide), Int.fdiv_eq_ediv_of_nonneg _ (by decide)]
 omega
theorem takeP_putP (bs : List UInt8) : takeP (putP bs) = some bs := by
 have hl := putP_len bs
 have e1 : (putP bs).take (bs.length + 4 - 4) = bs := by rw [Nat.add_sub_cancel, putP]; exact List.take_left
 have e2 : (putP bs).drop (bs.length + 4 - 4) = le4 (crcOf bs) := by rw [Nat.add_sub_cancel, putP]; exact List.drop_left
 unfold takeP
 rw [hl, if_neg (by omega), e1, e2]
 exact if_pos (le32_le4 (crcOf_range bs)).symm
theorem takeP_len {bs t : List UInt8} (h : takeP bs = some t) : t.length + 4 = bs.length := by
 unfold takeP at h
 split at h
 · cases h
 · split at h
   · injection h with h; subst h; rw [List.length_take]; omega
   · cases h
def piecesN (n : Nat) : Nat := if n = 0 then 1 else (n - 1) / 52 + 1
theorem piecesN_pos (n : Nat) : 0 < piecesN n := by unfold piecesN; split <;> omega
theorem piecesN_le {n : Nat} (h : n ≤ 3000) : piecesN n ≤ 58 := by unfold piecesN; split <;> omega
theorem piecesN_cover (n : Nat) : n ≤ piecesN n * 52 := by unfold piecesN; split <;> omega
def be4 (n : Int) : List UInt8 := [r8 (n.fdiv 16777216), r8 (n.fdiv 65536), r8 (n.fdiv 256), r8 n]
def beI (bs : List UInt8) : Int := bs.foldl (fun h c => orI .i64 (IntKind.i64.wrap (h * 2 ^ 8)) ((c.toNat : Nat) : Int)) 0
theorem beI_take {bs : List UInt8} {k : Nat} (h : k < bs.length) : beI (bs.take (k + 1)) = orI .i64 (IntKind.i64.wrap (beI (bs.take k) * 2 ^ 8)) (((bs.getD k 0).toNat : Nat) : Int) := by
 rw [beI, beI, List.take_succ_eq_append_getElem h, List.foldl_append, List.getD_eq_getElem?_getD, List.getElem?_eq_getElem h]; rfl
theorem be_step {h : Int} (c : UInt8) (h0 : 0 ≤ h) (h1 : h < 4294967296) : orI .i64 (IntKind.i64.wrap (h * 2 ^ 8)) ((c.toNat : Nat) : Int) = h * 256 + ((c.toNat : Nat) : Int) := by
 have hc := c.toNat_lt
 generalize c.toNat = c at *
 rw [wrap_i64 (by omega) (by omega), orI_add64 8 (by omega) (by omega) (by omega) (by omega)]
 omega
theorem beI_four (a b c d : UInt8) : beI [a, b, c, d] = ((a.toNat : Nat) : Int) * 16777216 + ((b.toNat : Nat) : Int) * 65536 + ((c.toNat : Nat) : Int) * 256 + ((d.toNat : Nat) : Int) := by
 have ha := a.toNat_lt
 have hb := b.toNat_lt
 have hc := c.toNat_lt
 have hd := d.toNat_lt
 simp only [beI, List.foldl_cons, List.foldl_nil]
 rw [be_step a (by omega) (by omega), be_step b (by omega) (by omega), be_step c (by omega) (by omega), be_step d (by omega) (by omega)]
 omega
theorem beI_be4 {n : Int} (h0 : 0 ≤ n) (h1 : n < 4294967296) : beI (be4 n) = n := by
 rw [be4, beI_four, r8_nat, r8_nat, r8_nat, r8_nat, Int.fdiv_eq_ediv_of_nonneg _ (by decide), Int.fdiv_eq_ediv_of_nonneg _ (by decide), Int.fdiv_eq_ediv_of_nonneg _ (by decide)]
 omega
def partP (b : List UInt8) (i : Nat) : List UInt8 := (b.drop (i * 52)).take 52
theorem partP_len (b : List UInt8) (i : Nat) : (partP b i).length ≤ 52 := by rw [partP, List.length_take]; omega
theorem part_le {n k : Nat} (h : k < piecesN n) : k * 52 ≤ n := by unfold piecesN at h; split at h <;> omega
theorem part_eq (b : List UInt8) (k : Nat) : ((b.take (min ((k + 1) * 52) b.length)).drop (k * 52)) = partP b k := by
 rw [partP, List.drop_take, Nat.add_mul, Nat.one_mul]
 by_cases q : k * 52 + 52 ≤ b.length
 · rw [Nat.min_eq_left q, Nat.add_sub_cancel_left]
 · rw [Nat.min_eq_right (by omega), List.take_of_length_le (by rw [List.length_drop]; omega), List.take_of_length_le (by rw [List.length_drop]; omega)]
theorem parts_all (b : List UInt8) : ∀ k, b.length ≤ k * 52 → ((List.range k).map (partP b)).flatten = b := by
 have key : ∀ k, ((List.range k).map (partP b)).flatten = b.take (k * 52) := by
  intro k
  induction k with
  | zero => simp
  | succ k ih =>
   rw [List.range_succ, List.map_append, List.flatten_append, ih, Nat.add_mul, Nat.one_mul, List.take_add]
   simp [partP]
 intro k hk
 rw [key, List.take_of_length_le hk]
def textP (number : Int) (place all : Nat) (p : List UInt8) : List UInt8 := be4 number ++ ([r8 (place : Int), r8 (all : Int), r8 (p.length : Int)] ++ (p ++ List.replicate (52 - p.length) 0))
theorem textP_len {number : Int} {place all : Nat} {p : List UInt8} (h : p.length ≤ 52) : (textP number place all p).length = 59 := by simp [textP, be4]; omega
def sectP (number : Int) (place all : Nat) (p : List UInt8) : Sec := putP (textP number place all p) ++ [1]
theorem sectP_len {number : Int} {place all : Nat} {p : List UInt8} (h : p.length ≤ 52) : (sectP number place all p).length = 64 := by simp [sectP, putP_len, textP_len h]
def sectorsP (number : Int) (b : List UInt8) : List Sec := (List.range (piecesN b.length)).map fun i => sectP number i (piecesN b.length) (partP b i)
def secsN (number : Int) (b : List UInt8) (k : Nat) : List Sec := (List.range k).map fun i => sectP number i (piecesN b.length) (partP b i)
theorem secsN_succ (number : Int) (b : List UInt8) (k : Nat) : secsN number b (k + 1) = secsN number b k ++ [sectP number k (piecesN b.length) (partP b k)] := by simp [secsN, List.range_succ]
theorem secsN_len (number : Int) (b : List UInt8) (k : Nat) : (secsN number b k).length = k := by simp [secsN]
theorem text_copy {number : Int} {place all : Nat} {p : List UInt8} (h : p.length ≤ 52) :
 wr (u8s (be4 number ++ ([r8 (place : Int), r8 (all : Int), r8 (p.length : Int)] ++ List.replicate 52 0))) 7 ((u8s p).take (min p.length 52)) = u8s (textP number place all p) := by
 have e : (u8s p).take (min p.length 52) = u8s p := List.take_of_length_le (by rw [u8s_length]; omega)
 rw [e, wr, u8s_length]
 have e2 : (u8s (be4 number ++ ([r8 (place : Int), r8 (all : Int), r8 (p.length : Int)] ++ List.replicate 52 0))).take 7 = u8s (be4 number ++ [r8 (place : Int), r8 (all : Int), r8 (p.length : Int)]) := rfl
 have e3 : (u8s (be4 number ++ ([r8 (place : Int), r8 (all : Int), r8 (p.length : Int)] ++ List.replicate 52 0))).drop (7 + p.length) = u8s (List.replicate (52 - p.length) 0) := by
  rw [← List.drop_drop]
  have : (u8s (be4 number ++ ([r8 (place : Int), r8 (all : Int), r8 (p.length : Int)] ++ List.replicate 52 0))).drop 7 = u8s (List.replicate 52 0) := rfl
  rw [this, u8s, u8s, ← List.map_drop, List.drop_replicate]
 rw [e2, e3, textP]
 simp [u8s]
theorem sectorsP_len (number : Int) (b : List UInt8) : (sectorsP number b).length = piecesN b.length := by simp [sectorsP]
def pieceP (s : Sec) (number place : Int) : Option (List UInt8 × Int) :=
 match takeP (s.take 63) with
 | none => none
 | some t => if s.getD 63 0 ≠ 1 then none
  else if beI (t.take 4) ≠ number ∨ (((t.getD 4 0).toNat : Nat) : Int) ≠ place ∨ place ≥ (((t.getD 5 0).toNat : Nat) : Int) ∨ (((t.getD 6 0).toNat : Nat) : Int) > 52 then none
  else some ((t.drop 7).take (t.getD 6 0).toNat, (((t.getD 5 0).toNat : Nat) : Int))
theorem pieceP_sect {number : Int} {place all : Nat} {p : List UInt8} (h : p.length ≤ 52) (h0 : 0 ≤ number) (h1 : number < 4294967296) (hp : place < all) (ha : all ≤ 255) : pieceP (sectP number place all p) number place = some (p, (all : Int)) := by
 have e1 : (sectP number place all p).take 63 = putP (textP number place all p) := by
  rw [sectP, List.take_append_of_le_length (by rw [putP_len, textP_len h]; omega), List.take_of_length_le (by rw [putP_len, textP_len h]; omega)]
 have e2 : (sectP number place all p).getD 63 0 = 1 := by
  rw [sectP, List.getD_eq_getElem?_getD, List.getElem?_append_right (by rw [putP_len, textP_len h]; omega), putP_len, textP_len h]; rfl
 have n1 : (((r8 (place : Int)).toNat : Nat) : Int) = place := by rw [r8_nat]; omega
 have n2 : (((r8 (all : Int)).toNat : Nat) : Int) = all := by rw [r8_nat]; omega
 have n3 : (((r8 (p.length : Int)).toNat : Nat) : Int) = p.length := by rw [r8_nat]; omega
 unfold pieceP
 rw [e1, takeP_putP]
 simp only [e2, ne_eq, not_true_eq_false, if_false]
 have t4 : (textP number place all p).take 4 = be4 number := rfl
 have g4 : (textP number place all p).getD 4 0 = r8 (place : Int) := rfl
 have g5 : (textP number place all p).getD 5 0 = r8 (all : Int) := rfl
 have g6 : (textP number place all p).getD 6 0 = r8 (p.length : Int) := rfl
 have g7 : (textP number place all p).drop 7 = p ++ List.replicate (52 - p.length) 0 := rfl
 rw [t4, beI_be4 h0 h1, g4, g5, g6, g7, n1, n2, n3]
 rw [if_neg (by omega)]
 have n3' : (r8 (p.length : Int)).toNat = p.length := by omega
 rw [n3']
 simp
theorem pieceP_end {s : Sec} {number place : Int} (h : s.getD 63 0 ≠ 1) : pieceP s number place = none := by
 unfold pieceP
 split
 · rfl
 · rw [if_pos h]
theorem pieceP_facts {s b : Sec} {number place all : Int} (hs : s.length = 64) (h : pieceP s number place = some (b, all)) : place < all ∧ all ≤ 255 ∧ b.length ≤ 52 := by
 unfold pieceP at h
 split at h
 · cases h
 · rename_i t ht
   have hl := takeP_len ht
   split at h
   · cases h
   · split at h
     · cases h
     · rename_i h2
       injection h with h
       simp only [Prod.mk.injEq] at h
       obtain ⟨rfl, rfl⟩ := h
       have := (t.getD 5 0).toNat_lt
       rw [List.length_take]
       omega
theorem pieceP_none1 {s : Sec} {number place : Int} (h : takeP (s.take 63) = none) : pieceP s number place = none := by simp only [pieceP, h]
theorem pieceP_none2 {s t : Sec} {number place : Int} (h : takeP (s.take 63) = some t) (h2 : beI (t.take 4) ≠ number ∨ (((t.getD 4 0).toNat : Nat) : Int) ≠ place ∨ place ≥ (((t.getD 5 0).toNat : Nat) : Int) ∨ (((t.getD 6 0).toNat : Nat) : Int) > 52) : pieceP s number place = none := by
 simp only [pieceP, h]
 split
 · rfl
 · first | rfl | rw [if_pos h2]
theorem pieceP_some {s t : Sec} {number place : Int} (h : takeP (s.take 63) = some t) (h1 : s.getD 63 0 = 1) (h2 : ¬ (beI (t.take 4) ≠ number ∨ (((t.getD 4 0).toNat : Nat) : Int) ≠ place ∨ place ≥ (((t.getD 5 0).toNat : Nat) : Int) ∨ (((t.getD 6 0).toNat : Nat) : Int) > 52)) :
 pieceP s number place = some ((t.drop 7).take (t.getD 6 0).toNat, (((t.getD 5 0).toNat : Nat) : Int)) := by
 simp only [pieceP, h, h1, ne_eq, not_true_eq_false, if_false]
 rw [if_neg h2]
def moreP (rd : Int → Sec) (number at' all : Int) : Nat → Option (List UInt8)
 | 0 => some []
 | k + 1 => match moreP rd number at' all k with
  | none => none
  | some b => match pieceP (rd (at' + k)) number k with
   | none => none
   | some (m, same) => if same = all then some (b ++ m) else none
def standsP (rd : Int → Sec) (number at' : Int) : Option (List UInt8 × Int) :=
 match pieceP (rd at') number 0 with
 | none => none
 | some (_, all) => (moreP rd number at' all all.toNat).map fun b => (b, all)
theorem moreP_none {rd : Int → Sec} {number at' all : Int} {k : Nat} (h : moreP rd number at' all k = none) : ∀ m, k ≤ m → moreP rd number at' all m = none := by
 intro m hm
 induction hm with
 | refl => exact h
 | step _ ih => simp only [moreP, ih]
theorem moreP_stop {rd : Int → Sec} {number at' all : Int} {k : Nat} (h : pieceP (rd (at' + k)) number k = none ∨ ∃ m same, pieceP (rd (at' + k)) number k = some (m, same) ∧ same ≠ all) : ∀ m, k < m → moreP rd number at' all m = none := by
 refine fun m hm => moreP_none (k := k + 1) ?_ m hm
 simp only [moreP]
 cases moreP rd number at' all k with
 | none => rfl
 | some b =>
  rcases h with h | ⟨x, same, h, h2⟩
  · simp only [h]
  · simp only [h, if_neg h2]
theorem moreP_go {rd : Int → Sec} {number at' all : Int} {k : Nat} {b x : List UInt8} (h : moreP rd number at' all k = some b) (h2 : pieceP (rd (at' + k)) number k = some (x, all)) : moreP rd number at' all (k + 1) = some (b ++ x) := by
 simp only [moreP, h, h2, if_true]
theorem moreP_one {rd : Int → Sec} {number at' all : Int} {b : List UInt8} (h : pieceP (rd at') number 0 = some (b, all)) : moreP rd number at' all 1 = some b := by
 have h0 : moreP rd number at' all 0 = some [] := rfl
 have := moreP_go (rd := rd) (number := number) (at' := at') (all := all) (k := 0) h0 (x := b) (by simpa using h)
 simpa using this
theorem standsP_none1 {rd : Int → Sec} {number at' : Int} (h : pieceP (rd at') number 0 = none) : standsP rd number at' = none := by simp only [standsP, h]
theorem standsP_none2 {rd : Int → Sec} {number at' all : Int} {b : List UInt8} (h : pieceP (rd at') number 0 = some (b, all)) (h2 : moreP rd number at' all all.toNat = none) : standsP rd number at' = none := by simp only [standsP, h, h2, Option.map_none]
theorem standsP_some {rd : Int → Sec} {number at' all : Int} {b c : List UInt8} (h : pieceP (rd at') number 0 = some (b, all)) (h2 : moreP rd number at' all all.toNat = some c) : standsP rd number at' = some (c, all) := by simp only [standsP, h, h2, Option.map_some]
def scanP (rd : Int → Sec) : Nat → Int → Int → List (List UInt8) × Int
 | 0, _, used => ([], used)
 | f + 1, cnt, used => match standsP rd (cnt + 1) used with
  | none => ([], used)
  | some (b, all) => let r := scanP rd f (cnt + 1) (used + all); (b :: r.1, r.2)
def wipeP : Nat → Int → DS → Int × DS
 | 0, _, D => (0, D)
 | n + 1, at', D => if D.read at' = zs then wipeP n (at' + 1) D else if (D.write at' []).1 = 0 then wipeP n (at' + 1) (D.write at' []).2 else D.write at' []
structure OpenR where
 err : Int
 recs : List (List UInt8)
 used : Int
 D : DS
def fuel0 : Nat := 2049
theorem fuel0_eq : fuel0 = 2049 := rfl
def openP (D : DS) : OpenR :=
 let r := scanP D.read fuel0 0 0
 let w := wipeP (2048 - r.2).toNat r.2 D
 if w.1 ≠ 0 then ⟨w.1, [], 0, w.2⟩ else if w.2.sync.1 ≠ 0 then ⟨w.2.sync.1, [], 0, w.2.sync.2⟩ else ⟨0, r.1, r.2, w.2.sync.2⟩
def In (s : Secs) : Prop := ∀ p ∈ s, 0 ≤ p.1 ∧ p.1 < 2048
def DS.In (D : DS) : Prop := Wal.In D.s ∧ Wal.In D.ws
end Wal
end

section
namespace Go.Proofs.YtohmkchalilodaaGreatDoor
open Go Leg Codec Api Dsk Wal
theorem of_does (x : Value) (ps : List (List UInt8)) :
 Leg.Does Tryz.prog 172 #[x] (IsBB x ps) [] (Ret (fun v H => v = .int .u32 (crcOf ps.flatten) ∧ H = [])) := by
 refine Leg.Does.body (n := 39) Tryz.func172 rfl rfl rfl (fun w0 F hF => sr fun _ J1 => PS ?_)
 refine nx J1 (sr fun _ J2 => PS ?_)
 refine nx J2 (TC.seq fun _ J3 => sr fun _ J4 => PS ?_)
 refine tp (PV.lenV rfl Y112 rfl hF.len) ?_
 refine PS ?_
 refine nx J4 (TC.block ?_)
 refine TC.loop (α := (Nat)) (fun k => k ≤ ps.length) (fun k => [(2, (.int .u32 0)), (3, (.int .u32 (crcRun 4294967295 (ps.take k).flatten))), (8, x), (9, (.int .i64 (((ps.length : Nat) : Int)))), (10, (.int .i64 (((k : Nat) : Int))))]) (fun k => []) (fun k => ps.length - k) 0
  (Nat.zero_le _) SB
  (fun _ s => s) (fun k hinv => ?_)
 obtain hk := hinv
 refine sr fun _ J5 => PS ?_
 refine TL.dec (fun h11 => ?_) (fun h11 => ?_)
 obtain ⟨b_a, off_a, cap_a, cs_a, T_a, z_a, us_a, hv_a, hc_a, hb_a, hl_a, hs_a, hE_a⟩ := IsL.at hF (j := k) (by omega)
 obtain ⟨u_a, rfl, hu_a⟩ := hE_a
 refine nx J5 (TC.seq fun _ J6 => CY (CX J6 (TC.seq fun _ J7 => TC.block (sr fun _ J8 => tp (PV.indexSlV (r := off_a + k) hv_a rfl Y112 sz47 rfl rfl (by omega) (by omega) (by omega)) ?_))))
 refine tp (PV.load1X (v := u_a) rfl Y47 rfl rfl (RdX.frm hb_a (fun _ h => Frm.of h)) (by have := stretch_get (j := 0) hs_a rfl; simpa using this)) ?_
 refine PS ?_
 refine nx J8 (sr fun _ J9 => PS ?_)
 refine tp (PV.lenV rfl Y47 rfl hu_a.len) ?_
 refine PS ?_
 refine nx J9 (TC.block ?_)
 refine TC.loop (α := (Nat)) (fun j => j ≤ ps[k].length) (fun j => [(2, (.int .u32 0)), (3, (.int .u32 (crcRun (crcRun 4294967295 (ps.take k).flatten) (ps[k].take j)))), (8, x), (9, (.int .i64 (((ps.length : Nat) : Int)))), (10, (.int .i64 (((k : Nat) : Int)))), (14, u_a), (15, (.int .i64 (((ps[k].length : Nat) : Int)))), (16, (.int .i64 (((j : Nat) : Int))))]) (fun j => []) (fun j => ps[k].length - j) 0
  (Nat.zero_le _) SB
  (fun _ s => s) (fun j hinv => ?_)
 obtain hj := hinv
 refine sr fun _ J10 => PS ?_
 refine TL.dec (fun h17 => ?_) (fun h17 => ?_)
 obtain ⟨b_b, off_b, cap_b, cs_b, T_b, z_b, hv_b, hb_b, hcs_b, hcp_b⟩ := IsW.at hu_a (j := j) (by omega)
 have hlt_b := IsW.lt hu_a
 refine nx J10 (TC.seq fun _ J11 => CY (CX J11 (TC.seq fun _ J12 => TC.block (sr fun _ J13 => tp (PV.indexSlV (r := off_b + j) hv_b rfl Y47 sz5 rfl rfl (by omega) (by omega) (by omega)) ?_))))
 refine tp (PV.load1X (v := (.int .u8 (((((ps[k]).getD j 0).toNat : Nat) : Int)))) rfl Y5 rfl rfl (RdX.frm hb_b (fun _ h => Frm.of h)) (hcs_b j (by omega))) ?_
 refine PS ?_
 refine nx J13 (sr fun _ J14 => PS ?_)
 refine PS ?_
 refine tp (PV.convI (r := ((((ps[k]).getD j 0).toNat : Nat) : Int)) rfl Y5 Y246 rfl (wrap_u32 (by omega) (by have := (ps[k].getD j 0).toNat_lt; omega))) ?_
 refine tp (PV.xor (r := xorI .u32 (crcRun (crcRun 4294967295 (ps.take k).flatten) (ps[k].take j)) (((((ps[k]).getD j 0).toNat : Nat) : Int))) rfl rfl rfl rfl) ?_
 refine PS ?_
 refine nx J14 (sr fun _ J15 => PS ?_)
 refine nx J15 (TC.block ?_)
 refine TC.loop (α := (Nat)) (fun i => i ≤ 8) (fun i => [(2, (.int .u32 0)), (3, (.int .u32 (crcBits (xorI .u32 (crcRun (crcRun 4294967295 (ps.take k).flatten) (ps[k].take j)) ((((ps[k]).getD j 0).toNat : Nat) : Int)) i))), (8, x), (9, (.int .i64 (((ps.length : Nat) : Int)))), (10, (.int .i64 (((k : Nat) : Int)))), (14, u_a), (15, (.int .i64 (((ps[k].length : Nat) : Int)))), (16, (.int .i64 (((j : Nat) : Int)))), (24, (.int .i64 (((i : Nat) : Int))))]) (fun i => []) (fun i => 8 - i) 0
  (Nat.zero_le _) SB
  (fun _ s => s) (fun i hinv => ?_)
 obtain hi := hinv
 refine sr fun _ J16 => PS ?_
 refine TL.dec (fun h25 => ?_) (fun h25 => ?_)
 refine nx J16 (TC.seq fun _ J17 => CY (CX J17 (TC.seq fun _ J18 => TC.block (sr fun _ J19 => PS ?_))))
 refine tp (PV.and (r := andI .u32 (crcBits (xorI .u32 (crcRun (crcRun 4294967295 (ps.take k).flatten) (ps[k].take j)) ((((ps[k]).getD j 0).toNat : Nat) : Int)) i) 1) rfl rfl rfl rfl) ?_
 refine PS ?_
 refine TL.dec (fun h28 => ?_) (fun h28 => ?_)
 refine nx J19 (CY (TC.region (PS ?_)))
 refine tp (PV.shr (r := (crcBits (xorI .u32 (crcRun (crcRun 4294967295 (ps.take k).flatten) (ps[k].take j)) ((((ps[k]).getD j 0).toNat : Nat) : Int)) i).fdiv 2) rfl rfl rfl (by omega) rfl) ?_
 refine tp (PV.xor (r := xorI .u32 ((crcBits (xorI .u32 (crcRun (crcRun 4294967295 (ps.take k).flatten) (ps[k].take j)) ((((ps[k]).getD j 0).toNat : Nat) : Int)) i).fdiv 2) 3988292384) rfl rfl rfl rfl) ?_
 refine PS ?_
 refine TL.nil (TE.blockEnd (TE.next J18 (TC.region (AD ?_))))
 refine PS ?_
 refine TL.nil ?_
 exact TE.round ((i + 1) : (Nat)) (by omega) (by show 8 - (i + 1) < 8 - i; omega)
  (Sub.r (Sub.cons rfl (congrArg (Value.int .u32) (by rw [crcBits, crcBit, if_pos h28])) SB))
  (fun _ s => s)
 refine nx J19 (CN (TC.region (PS ?_)))
 refine tp (PV.shr (r := (crcBits (xorI .u32 (crcRun (crcRun 4294967295 (ps.take k).flatten) (ps[k].take j)) ((((ps[k]).getD j 0).toNat : Nat) : Int)) i).fdiv 2) rfl rfl rfl (by omega) rfl) ?_
 refine PS ?_
 refine TL.nil (TE.blockEnd (TE.next J18 (TC.region (AD ?_))))
 refine PS ?_
 refine TL.nil ?_
 exact TE.round ((i + 1) : (Nat)) (by omega) (by show 8 - (i + 1) < 8 - i; omega)
  (Sub.r (Sub.cons rfl (congrArg (Value.int .u32) (by rw [crcBits, crcBit, if_neg h28])) SB))
  (fun _ s => s)
 refine nx J16 (TC.seq fun _ J20 => CN (TC.exit (TE.pass (TE.pass (TE.hit (TE.blockEnd (TE.next J12 (TC.region (AD ?_)))))))))
 refine PS ?_
 refine TL.nil ?_
 exact TE.round ((j + 1) : (Nat)) (by omega) (by show ps[k].length - (j + 1) < ps[k].length - j; omega)
  (Sub.r (Sub.cons rfl (congrArg (Value.int .u32) (by obtain rfl : i = 8 := (by omega); rw [crcRun_take (by omega)]; rfl)) SB))
  (fun _ s => s)
 refine nx J10 (TC.seq fun _ J21 => CN (TC.exit (TE.pass (TE.pass (TE.hit (TE.blockEnd (TE.next J7 (TC.region (AD ?_)))))))))
 refine PS ?_
 refine TL.nil ?_
 exact TE.round ((k + 1) : (Nat)) (by omega) (by show ps.length - (k + 1) < ps.length - k; omega)
  (Sub.r (Sub.cons rfl (congrArg (Value.int .u32) (by rw [show j = ps[k].length by omega, List.take_length, crcRun_flat (by omega)])) SB))
  (fun _ s => s)
 refine nx J5 (TC.seq fun _ J22 => CN (TC.exit (TE.pass (TE.pass (TE.hit (TE.next J3 (sr fun _ J23 => PS ?_)))))))
 refine tp (PV.com (r := xorI .u32 4294967295 (crcRun 4294967295 (ps.take k).flatten)) rfl rfl rfl) ?_
 refine PS ?_
 refine nx J23 (TC.ret (WK [] (TE.ret1 rfl rfl ?_)))
 obtain rfl : k = ps.length := by omega
 rw [List.take_length]
 exact ⟨rfl, rfl⟩
theorem sumPut_does (x : Value) (bs : List UInt8) (hb : bs.length ≤ 1000000000) :
 Leg.Does Tryz.prog 179 #[x] (IsW x bs) [] (Ret (fun v H => H = [ownB v (putP bs) 5])) := by
 refine Leg.Does.body (n := 29) Tryz.func179 rfl rfl rfl (fun w0 F hF => sr fun _ J1 => PS ?_)
 refine nx J1 (sr fun _ J2 => PS ?_)
 refine TL.buildSlice (cells := #[x]) (Want.plain rfl) rfl rfl rfl Y112 in47 rfl rfl rfl (fill_one hF.one (by simp)) (fun b6 => CF nm172 (of_does (.slice (some ⟨b6, 0, none⟩) (1) (1)) [bs]) (fun _ s => s) (isBB_one hF 0 rfl rfl) ?_)
 rw [show [bs].flatten = bs by simp]
 refine PS ?_
 refine nx J2 (sr fun _ J3 => PS ?_)
 refine tp (PV.lenV rfl Y47 rfl hF.len) ?_
 refine AD ?_
 refine TL.makeB (0) (bs.length + 4) (Want.plain rfl) rfl rfl rfl Y47 in5 rfl rfl rfl (by omega) (by omega) (by omega) (fun b11 => TL.mono (H' := [ownB (.slice (some ⟨b11, 0, none⟩) 0 (bs.length + 4)) ([]) 5, blkA b6 [x] 47]) (fun _ s => sep_own 0 rfl rfl (by omega) (by simp only [maxLen]; omega) (by simp [u8s]) rfl s) (PS ?_))
 refine nx J3 (sr fun _ J4 => PS ?_)
 refine PS ?_
 refine TL.append (k := 0) (news := u8s (bs)) (nn' := (bs : List UInt8).length) (xs' := u8s (bs)) (Want.plain rfl) rfl rfl rfl Y47 in5 rfl rfl rfl rfl rfl rfl (fun _ _ => hF.src (fun _ h => Frm.of h)) (u8s_one _) (by simp only [maxLen, List.length_nil]; omega) (by simp only [List.length_nil]; omega) (by simp) (List.nil_append _) (fun v14 ov14 => PS ?_)
 refine nx J4 (sr fun _ J5 => PS ?_)
 refine PS ?_
 refine tp (PV.convI (r := (((r8 (crcOf bs)).toNat : Nat) : Int)) rfl Y246 Y5 rfl (r8_wrap _)) ?_
 refine PS ?_
 refine tp (PV.shr (r := (crcOf bs).fdiv 256) rfl rfl rfl (by omega) rfl) ?_
 refine tp (PV.convI (r := (((r8 ((crcOf bs).fdiv 256)).toNat : Nat) : Int)) rfl Y246 Y5 rfl (r8_wrap _)) ?_
 refine PS ?_
 refine tp (PV.shr (r := (crcOf bs).fdiv 65536) rfl rfl rfl (by omega) rfl) ?_
 refine tp (PV.convI (r := (((r8 ((crcOf bs).fdiv 65536)).toNat : Nat) : Int)) rfl Y246 Y5 rfl (r8_wrap _)) ?_
 refine PS ?_
 refine tp (PV.shr (r := (crcOf bs).fdiv 16777216) rfl rfl rfl (by omega) rfl) ?_
 refine tp (PV.convI (r := (((r8 ((crcOf bs).fdiv 16777216)).toNat : Nat) : Int)) rfl Y246 Y5 rfl (r8_wrap _)) ?_
 refine TL.buildSlice (cells := #[(.int .u8 ((((r8 (crcOf bs)).toNat : Nat) : Int))), (.int .u8 ((((r8 ((crcOf bs).fdiv 256)).toNat : Nat) : Int))), (.int .u8 ((((r8 ((crcOf bs).fdiv 65536)).toNat : Nat) : Int))), (.int .u8 ((((r8 ((crcOf bs).fdiv 16777216)).toNat : Nat) : Int)))]) (Want.plain rfl) rfl rfl rfl Y47 in5 rfl rfl rfl (by as_aux_lemma => kernel_rfl) (fun b27 => TL.append (k := 1) (news := u8s ([(r8 (crcOf bs)), (r8 ((crcOf bs).fdiv 256)), (r8 ((crcOf bs).fdiv 65536)), (r8 ((crcOf bs).fdiv 16777216))])) (nn' := (bs ++ [(r8 (crcOf bs)), (r8 ((crcOf bs).fdiv 256)), (r8 ((crcOf bs).fdiv 65536)), (r8 ((crcOf bs).fdiv 16777216))] : List UInt8).length) (xs' := u8s (bs ++ [(r8 (crcOf bs)), (r8 ((crcOf bs).fdiv 256)), (r8 ((crcOf bs).fdiv 65536)), (r8 ((crcOf bs).fdiv 16777216))])) (Want.plain rfl) rfl rfl rfl Y47 in5 rfl rfl rfl rfl rfl rfl (fun _ _ => Src.rd rfl (RO 0) rfl) (u8s_one [(r8 (crcOf bs)), (r8 ((crcOf bs).fdiv 256)), (r8 ((crcOf bs).fdiv 65536)), (r8 ((crcOf bs).fdiv 16777216))]) (by simp only [maxLen]; omega) (by omega) (by simp) (u8s_append _ _).symm (fun v28 ov28 => PS ?_))
 exact nx J5 (TC.ret (WK [1] (TE.ret1 rfl rfl rfl)))
theorem take_form (a : Option Addr) (c : Nat) (bs : List UInt8) (hc : bs.length ≤ c) (hb : bs.length ≤ 1000000000) :
 Leg.Does Tryz.prog 149 #[(.slice a bs.length c)] (IsW (.slice a bs.length c) bs) [] (Ret (fun v H => (takeP bs = none ∧ v = .tuple #[.slice none 0 0, .bool false] ∧ H = []) ∨ ∃ t u, takeP bs = some t ∧ v = .tuple #[u, .bool true] ∧ H = [ownB u t 5])) := by
 refine Leg.Does.body (n := 50) Tryz.func149 rfl rfl rfl (fun w0 F hF => sr fun _ J1 => PS ?_)
 refine PS ?_
 refine nx J1 (TC.seq fun _ J2 => sr fun _ J3 => PS ?_)
 refine tp (PV.lenV rfl Y47 rfl ⟨_, _, rfl⟩) ?_
 refine PS ?_
 refine TL.dec (fun h9 => ?_) (fun h9 => ?_)
 refine nx J3 (CY (sr fun _ J4 => PS ?_))
 refine PS ?_
 refine nx J4 (TC.ret (TE.passRet (WK [] (TE.ret2 rfl rfl rfl ?_))))
 exact .inl ⟨by rw [takeP, if_pos (by omega)], rfl, rfl⟩
 have hT : IsW (cutLH (.slice a bs.length c) 0 (bs.length - 4)) (bs.take (bs.length - 4)) F := by have := hF.cut (lo := 0) (hi := bs.length - 4) (by omega) (by omega); simpa using this
 have hU : IsW (cutLH (.slice a bs.length c) (bs.length - 4) bs.length) (bs.drop (bs.length - 4)) F := by have := hF.cut (lo := bs.length - 4) (hi := bs.length) (by omega) (by omega); rwa [List.take_length] at this
 have hq : (bs.drop (bs.length - 4)).length = 4 := by rw [List.length_drop]; omega
 obtain ⟨b_b, off_b, cap_b, cs_b, T_b, z_b, hv_b, hb_b, hcs_b, hcp_b⟩ := IsW.at hU (j := 0) (by omega)
 have hlt_b := IsW.lt hU
 refine nx J3 (CN (CX J2 (TC.seq fun _ J5 => D0 mixedD ?_)))
 refine PD 0 ?_
 refine PD 1 ?_
 refine ta 2 rfl (PV.lenV rfl Y47 rfl ⟨_, _, rfl⟩) ?_
 refine ta 3 rfl (PV.sub (r := (((bs.length - 4 : Nat) : Nat) : Int)) rfl rfl rfl (by rw [show (((bs.length : Nat) : Int) - 4) = ((bs.length - 4 : Nat) : Int) by omega]; exact wrap_i64 (by omega) (by omega))) ?_
 refine ta 4 rfl (PV.sliceH (hi := bs.length - 4) rfl Y47 sz5 rfl rfl rfl (by omega)) ?_
 refine PD 5 ?_
 refine PD 6 ?_
 refine ta 7 rfl (PV.lenV rfl Y47 rfl ⟨_, _, rfl⟩) ?_
 refine ta 8 rfl (PV.sub (r := (((bs.length - 4 : Nat) : Nat) : Int)) rfl rfl rfl (by rw [show (((bs.length : Nat) : Int) - 4) = ((bs.length - 4 : Nat) : Int) by omega]; exact wrap_i64 (by omega) (by omega))) ?_
 refine ta 9 rfl (PV.sliceL (lo := bs.length - 4) rfl Y47 sz5 rfl rfl rfl (by omega)) ?_
 refine PD 10 ?_
 refine PD 11 ?_
 refine DN (TE.next J5 (TC.seq fun _ J6 => D0 mixedD ?_))
 refine PD 0 ?_
 refine ta 1 rfl (PV.indexSlV (r := off_b) hv_b rfl Y47 sz5 rfl rfl (by omega) (by omega) (by omega)) ?_
 refine ta 2 rfl (PV.load1X (v := (.int .u8 ((((((bs.drop (bs.length - 4))).getD 0 0).toNat : Nat) : Int)))) rfl Y5 rfl rfl (RdX.frm hb_b (fun _ h => h.1)) (hcs_b 0 (by omega))) ?_
 refine ta 3 rfl (PV.convI (r := (((((bs.drop (bs.length - 4))).getD 0 0).toNat : Nat) : Int)) rfl Y5 Y246 rfl (wrap_u32 (by omega) (by have := UInt8.toNat_lt (n := (bs.drop (bs.length - 4)).getD 0 0); omega))) ?_
 refine PD 4 ?_
 refine ta 5 rfl (PV.indexSlV (r := off_b + 1) hv_b rfl Y47 sz5 rfl rfl (by omega) (by omega) (by omega)) ?_
 refine ta 6 rfl (PV.load1X (v := (.int .u8 ((((((bs.drop (bs.length - 4))).getD 1 0).toNat : Nat) : Int)))) rfl Y5 rfl rfl (RdX.frm hb_b (fun _ h => h.1)) (hcs_b 1 (by omega))) ?_
 refine ta 7 rfl (PV.convI (r := (((((bs.drop (bs.length - 4))).getD 1 0).toNat : Nat) : Int)) rfl Y5 Y246 rfl (wrap_u32 (by omega) (by have := UInt8.toNat_lt (n := (bs.drop (bs.length - 4)).getD 1 0); omega))) ?_
 refine ta 8 rfl (PV.shl (r := IntKind.u32.wrap ((((((bs.drop (bs.length - 4))).getD 1 0).toNat : Nat) : Int) * 2 ^ 8)) rfl rfl rfl (by omega) rfl) ?_
 refine ta 9 rfl (PV.or (r := orI .u32 (((((bs.drop (bs.length - 4))).getD 0 0).toNat : Nat) : Int) (IntKind.u32.wrap ((((((bs.drop (bs.length - 4))).getD 1 0).toNat : Nat) : Int) * 2 ^ 8))) rfl rfl rfl rfl) ?_
 refine PD 10 ?_
 refine ta 11 rfl (PV.indexSlV (r := off_b + 2) hv_b rfl Y47 sz5 rfl rfl (by omega) (by omega) (by omega)) ?_
 refine ta 12 rfl (PV.load1X (v := (.int .u8 ((((((bs.drop (bs.length - 4))).getD 2 0).toNat : Nat) : Int)))) rfl Y5 rfl rfl (RdX.frm hb_b (fun _ h => h.1)) (hcs_b 2 (by omega))) ?_
 refine ta 13 rfl (PV.convI (r := (((((bs.drop (bs.length - 4))).getD 2 0).toNat : Nat) : Int)) rfl Y5 Y246 rfl (wrap_u32 (by omega) (by have := UInt8.toNat_lt (n := (bs.drop (bs.length - 4)).getD 2 0); omega))) ?_
 refine ta 14 rfl (PV.shl (r := IntKind.u32.wrap ((((((bs.drop (bs.length - 4))).getD 2 0).toNat : Nat) : Int) * 2 ^ 16)) rfl rfl rfl (by omega) rfl) ?_
 refine ta 15 rfl (PV.or (r := orI .u32 (orI .u32 (((((bs.drop (bs.length - 4))).getD 0 0).toNat : Nat) : Int) (IntKind.u32.wrap ((((((bs.drop (bs.length - 4))).getD 1 0).toNat : Nat) : Int) * 2 ^ 8))) (IntKind.u32.wrap ((((((bs.drop (bs.length - 4))).getD 2 0).toNat : Nat) : Int) * 2 ^ 16))) rfl rfl rfl rfl) ?_
 refine PD 16 ?_
 refine ta 17 rfl (PV.indexSlV (r := off_b + 3) hv_b rfl Y47 sz5 rfl rfl (by omega) (by omega) (by omega)) ?_
 refine ta 18 rfl (PV.load1X (v := (.int .u8 ((((((bs.drop (bs.length - 4))).getD 3 0).toNat : Nat) : Int)))) rfl Y5 rfl rfl (RdX.frm hb_b (fun _ h => h.1)) (hcs_b 3 (by omega))) ?_
 refine ta 19 rfl (PV.convI (r := (((((bs.drop (bs.length - 4))).getD 3 0).toNat : Nat) : Int)) rfl Y5 Y246 rfl (wrap_u32 (by omega) (by have := UInt8.toNat_lt (n := (bs.drop (bs.length - 4)).getD 3 0); omega))) ?_
 refine ta 20 rfl (PV.shl (r := IntKind.u32.wrap ((((((bs.drop (bs.length - 4))).getD 3 0).toNat : Nat) : Int) * 2 ^ 24)) rfl rfl rfl (by omega) rfl) ?_
 refine ta 21 rfl (PV.or (r := le32 ((bs.drop (bs.length - 4)).getD 0 0) ((bs.drop (bs.length - 4)).getD 1 0) ((bs.drop (bs.length - 4)).getD 2 0) ((bs.drop (bs.length - 4)).getD 3 0)) rfl rfl rfl rfl) ?_
 refine PD 22 ?_
 refine DN (TE.next J6 (TC.seq fun _ J7 => sr fun _ J8 => PS ?_))
 refine TL.buildSlice (cells := #[(cutLH (.slice a bs.length c) 0 (bs.length - 4))]) (Want.plain rfl) rfl rfl rfl Y112 in47 rfl rfl rfl (fill_one hT.one (by simp)) (fun b43 => CF nm172 (of_does (.slice (some ⟨b43, 0, none⟩) (1) (1)) [(bs.take (bs.length - 4))]) (fun _ s => s) (isBB_one hT 0 rfl rfl) ?_)
 rw [show [(bs.take (bs.length - 4))].flatten = (bs.take (bs.length - 4)) by simp]
 refine PS ?_
 refine PS ?_
 refine TL.dec (fun h46 => ?_) (fun h46 => ?_)
 refine nx J8 (CY (sr fun _ J9 => PS ?_))
 refine PS ?_
 refine nx J9 (TC.ret (TE.passRet (WK [] (TE.ret2 rfl rfl rfl ?_))))
 exact .inl ⟨by rw [takeP, if_neg (by omega), if_neg h46], rfl, rfl⟩
 refine nx J8 (CN (CX J7 (sr fun _ J10 => TL.buildSlice0 (Want.plain rfl) rfl rfl rfl Y47 sz5 (fun v47 => PS ?_))))
 refine TL.append (k := 0) (news := u8s ((bs.take (bs.length - 4)))) (nn' := ((bs.take (bs.length - 4)) : List UInt8).length) (xs' := u8s ((bs.take (bs.length - 4)))) (Want.plain rfl) rfl rfl rfl Y47 in5 rfl rfl rfl rfl rfl rfl (fun _ _ => hT.src (fun _ h => Frm.of h)) (u8s_one _) (by simp only [maxLen, List.length_nil, List.length_take]; omega) (by simp only [List.length_nil, List.length_take]; omega) (by simp) (List.nil_append _) (fun v49 ov49 => PS ?_)
 refine PS ?_
 refine nx J10 (TC.ret (WK [0] (TE.ret2 rfl rfl rfl ?_)))
 exact .inr ⟨_, _, by rw [takeP, if_neg (by omega), if_pos (by simpa using h46)], rfl, rfl⟩
theorem take_does (x : Value) (bs : List UInt8) (hb : bs.length ≤ 1000000000) : Leg.Does Tryz.prog 149 #[x] (IsW x bs) [] (Ret (fun v H => (takeP bs = none ∧ v = .tuple #[.slice none 0 0, .bool false] ∧ H = []) ∨ ∃ t u, takeP bs = some t ∧ v = .tuple #[u, .bool true] ∧ H = [ownB u t 5])) := fun w G h m => by
 obtain ⟨a, c, rfl, hc, _⟩ := h.form
 exact take_form a c bs hc hb w G h m
theorem pieces_does (n : Nat) (hn : n ≤ 1000000000000) :
 Leg.Does Tryz.prog 163 #[(.int .i64 (((n : Nat) : Int)))] (fun _ => True) [] (Ret (fun v H => v = .int .i64 ((piecesN n : Nat) : Int) ∧ H = [])) := by
 refine Leg.Does.body (n := 9) Tryz.func163 rfl rfl rfl (fun w0 F hF => sr fun _ J1 => PS ?_)
 refine nx J1 (TC.seq fun _ J2 => sr fun _ J3 => PS ?_)
 refine PS ?_
 refine TL.dec (fun h4 => ?_) (fun h4 => ?_)
 refine nx J3 (CY (sr fun _ J4 => PS ?_))
 refine nx J4 (TC.ret (TE.passRet (WK [] (TE.ret1 rfl rfl ?_))))
 obtain rfl : n = 0 := by omega
 exact ⟨rfl, rfl⟩
 refine nx J3 (CN (CX J2 (sr fun _ J5 => PS ?_)))
 refine tp (PV.sub rfl rfl rfl (wrap_i64 (by omega) (by omega))) ?_
 refine tp (PV.quo (r := (((n - 1) / 52 : Nat) : Int)) rfl rfl rfl (by omega) (by rw [show (((n : Nat) : Int) - 1) = ((n - 1 : Nat) : Int) by omega]; exact quoNat (n - 1) 52 (by omega))) ?_
 refine AD ?_
 refine PS ?_
 refine nx J5 (TC.ret (WK [] (TE.ret1 rfl rfl ?_)))
 rw [piecesN, if_neg (by omega)]
 exact ⟨by simp, rfl⟩
theorem secsN_sect {number : Int} {bs : List UInt8} {k : Nat} : secsN number bs (k + 1) = secsN number bs k ++ [putP (textP number k (piecesN bs.length) (partP bs k)) ++ [1]] := secsN_succ number bs k
theorem sectors_form (a : Option Addr) (c number : Nat) (bs : List UInt8) (hc : bs.length ≤ c) (hb : bs.length ≤ 3000) :
 Leg.Does Tryz.prog 165 #[(.int .i64 (((number : Nat) : Int))), (.slice a bs.length c)] (IsW (.slice a bs.length c) bs) [] (Ret (fun v H => H = [recsP 47 5 v (sectorsP ((number : Nat) : Int) bs)])) := by
 refine Leg.Does.body (n := 68) Tryz.func165 rfl rfl rfl (fun w0 F hF => sr fun _ J1 => PS ?_)
 refine nx J1 (sr fun _ J2 => PS ?_)
 refine tp (PV.lenV rfl Y47 rfl ⟨_, _, rfl⟩) ?_
 refine CE nm163 (pieces_does bs.length (by omega)) (fun _ s => s) ?_
 refine PS ?_
 refine nx J2 (sr fun _ J3 => PS ?_)
 refine nx J3 (TC.seq fun _ J4 => sr fun _ J5 => PS ?_)
 refine PS ?_
 refine nx J5 (TC.block ?_)
 refine TC.loop (α := (Nat) × (Value)) (fun ⟨k, vr⟩ => k ≤ piecesN bs.length ∧ vr.oneCell' = true) (fun ⟨k, vr⟩ => [(0, (.int .i64 (((number : Nat) : Int)))), (1, (.slice a bs.length c)), (4, (.slice none 0 0)), (5, (.int .i64 (((piecesN bs.length : Nat) : Int)))), (6, vr), (14, (.int .i64 (((piecesN bs.length : Nat) : Int)))), (15, (.int .i64 (((k : Nat) : Int))))]) (fun ⟨k, vr⟩ => [recsP 47 5 vr (secsN ((number : Nat) : Int) bs k)]) (fun ⟨k, vr⟩ => piecesN bs.length - k) (0, (.slice none 0 0))
  ⟨Nat.zero_le _, rfl⟩ SB
  (fun _ s => sep_recsNil 47 5 s) (fun ⟨k, vr⟩ hinv => ?_)
 obtain ⟨hk, hvr⟩ := hinv
 refine sr fun _ J6 => PS ?_
 refine TL.dec (fun h16 => ?_) (fun h16 => ?_)
 have hkn := part_le (n := bs.length) (k := k) (by omega)
 have hpe := part_eq bs k
 have hP : IsW (cutLH (.slice a bs.length c) (k * 52) (min ((k + 1) * 52) bs.length)) (partP bs k) F := by rw [← hpe]; exact hF.cut (by omega) (by omega)
 have hpl := partP_len bs k
 have hpk := piecesN_le hb
 have hP2 := hP.len
 refine nx J6 (TC.seq fun _ J7 => CY (CX J7 (TC.seq fun _ J8 => TC.block (sr fun _ J9 => PS ?_))))
 refine PS ?_
 refine nx J9 (sr fun _ J10 => PS ?_)
 refine PS ?_
 refine tp (PV.mul (r := ((k * 52 : Nat) : Int)) rfl rfl rfl (by rw [show ((k : Nat) : Int) * 52 = ((k * 52 : Nat) : Int) by omega]; exact wrap_i64 (by omega) (by omega))) ?_
 refine PS ?_
 refine AD ?_
 refine tp (PV.mul (r := (((k + 1) * 52 : Nat) : Int)) rfl rfl rfl (by rw [show (((k : Nat) : Int) + 1) * 52 = (((k + 1) * 52 : Nat) : Int) by omega]; exact wrap_i64 (by omega) (by omega))) ?_
 refine PS ?_
 refine tp (PV.lenV rfl Y47 rfl ⟨_, _, rfl⟩) ?_
 refine tp (PV.minI rfl rfl rfl) ?_
 refine tp (PV.sliceLH (lo := k * 52) (hi := min ((k + 1) * 52) bs.length) rfl Y47 sz5 rfl rfl rfl rfl (by omega) (by omega) (by omega)) ?_
 refine PS ?_
 refine nx J10 (sr fun _ J11 => TL.makeB (59) (59) (Want.plain rfl) rfl rfl rfl Y47 in5 rfl rfl rfl rfl (by omega) (by omega) (fun b28 => PS ?_))
 refine nx J11 (TC.seq fun _ J12 => sr fun _ J13 => PS ?_)
 refine nx J13 (TC.block (TC.unroll 5 (sr fun _ J14 => PS ?_)))
 refine nx J14 (TC.seq fun _ J15 => CY (CX J15 (TC.seq fun _ J16 => TC.block (sr fun _ J17 => PS ?_))))
 refine PS ?_
 refine nx J17 (TC.region ?_)
 iterate 4 refine PS ?_
 refine tp (PV.sub (r := 3) rfl rfl rfl (by decide)) ?_
 refine tp (PV.mul (r := 24) rfl rfl rfl (by decide)) ?_
 refine tp (PV.shr (r := ((number : Nat) : Int).fdiv 16777216) rfl rfl rfl (by omega) rfl) ?_
 refine tp (PV.convI (r := (((r8 (((number : Nat) : Int).fdiv 16777216)).toNat : Nat) : Int)) rfl Y3 Y5 rfl (r8_wrap _)) ?_
 refine tp (PV.indexSl (r := 0) rfl Y47 sz5 rfl rfl (by first | omega | decide) (by first | omega | decide) rfl) ?_
 refine S0 0 sz5 ?_
 refine TL.nil (TE.blockEnd (TE.next J16 (TC.region (tp (PV.add (r := 1) rfl rfl rfl (by decide)) ?_))))
 refine PS ?_
 refine TL.nil (TE.again (sr fun _ J18 => PS ?_))
 refine nx J18 (TC.seq fun _ J19 => CY (CX J19 (TC.seq fun _ J20 => TC.block (sr fun _ J21 => PS ?_))))
 refine PS ?_
 refine nx J21 (TC.region ?_)
 iterate 4 refine PS ?_
 refine tp (PV.sub (r := 2) rfl rfl rfl (by decide)) ?_
 refine tp (PV.mul (r := 16) rfl rfl rfl (by decide)) ?_
 refine tp (PV.shr (r := ((number : Nat) : Int).fdiv 65536) rfl rfl rfl (by omega) rfl) ?_
 refine tp (PV.convI (r := (((r8 (((number : Nat) : Int).fdiv 65536)).toNat : Nat) : Int)) rfl Y3 Y5 rfl (r8_wrap _)) ?_
 refine tp (PV.indexSl (r := 1) rfl Y47 sz5 rfl rfl (by first | omega | decide) (by first | omega | decide) rfl) ?_
 refine S0 0 sz5 ?_
 refine TL.nil (TE.blockEnd (TE.next J20 (TC.region (tp (PV.add (r := 2) rfl rfl rfl (by decide)) ?_))))
 refine PS ?_
 refine TL.nil (TE.again (sr fun _ J22 => PS ?_))
 refine nx J22 (TC.seq fun _ J23 => CY (CX J23 (TC.seq fun _ J24 => TC.block (sr fun _ J25 => PS ?_))))
 refine PS ?_
 refine nx J25 (TC.region ?_)
 iterate 4 refine PS ?_
 refine tp (PV.sub (r := 1) rfl rfl rfl (by decide)) ?_
 refine tp (PV.mul (r := 8) rfl rfl rfl (by decide)) ?_
 refine tp (PV.shr (r := ((number : Nat) : Int).fdiv 256) rfl rfl rfl (by omega) rfl) ?_
 refine tp (PV.convI (r := (((r8 (((number : Nat) : Int).fdiv 256)).toNat : Nat) : Int)) rfl Y3 Y5 rfl (r8_wrap _)) ?_
 refine tp (PV.indexSl (r := 2) rfl Y47 sz5 rfl rfl (by first | omega | decide) (by first | omega | decide) rfl) ?_
 refine S0 0 sz5 ?_
 refine TL.nil (TE.blockEnd (TE.next J24 (TC.region (tp (PV.add (r := 3) rfl rfl rfl (by decide)) ?_))))
 refine PS ?_
 refine TL.nil (TE.again (sr fun _ J26 => PS ?_))
 refine nx J26 (TC.seq fun _ J27 => CY (CX J27 (TC.seq fun _ J28 => TC.block (sr fun _ J29 => PS ?_))))
 refine PS ?_
 refine nx J29 (TC.region ?_)
 iterate 4 refine PS ?_
 refine tp (PV.sub (r := 0) rfl rfl rfl (by decide)) ?_
 refine tp (PV.mul (r := 0) rfl rfl rfl (by decide)) ?_
 refine tp (PV.shr (r := ((number : Nat) : Int)) rfl rfl rfl (by omega) (Int.fdiv_one _)) ?_
 refine tp (PV.convI (r := (((r8 (((number : Nat) : Int))).toNat : Nat) : Int)) rfl Y3 Y5 rfl (r8_wrap _)) ?_
 refine tp (PV.indexSl (r := 3) rfl Y47 sz5 rfl rfl (by first | omega | decide) (by first | omega | decide) rfl) ?_
 refine S0 0 sz5 ?_
 refine TL.nil (TE.blockEnd (TE.next J28 (TC.region (tp (PV.add (r := 4) rfl rfl rfl (by decide)) ?_))))
 refine PS ?_
 refine TL.nil (TE.again (sr fun _ J30 => PS ?_))
 refine nx J30 (TC.seq fun _ J31 => CN (TC.exit (TE.pass (TE.pass (TE.hit (TE.next J12 (sr fun _ J32 => ?_)))))))
 iterate 4 refine PS ?_
 refine tp (PV.convI (r := (((r8 (((k : Nat) : Int))).toNat : Nat) : Int)) rfl Y3 Y5 rfl (r8_wrap _)) ?_
 refine PS ?_
 refine tp (PV.convI (r := (((r8 (((piecesN bs.length : Nat) : Int))).toNat : Nat) : Int)) rfl Y3 Y5 rfl (r8_wrap _)) ?_
 refine PS ?_
 refine tp (PV.lenV rfl Y47 rfl hP2) ?_
 refine tp (PV.convI (r := (((r8 ((((partP bs k).length : Nat) : Int))).toNat : Nat) : Int)) rfl Y3 Y5 rfl (r8_wrap _)) ?_
 refine tp (PV.indexSl (r := 4) rfl Y47 sz5 rfl rfl (by first | omega | decide) (by first | omega | decide) rfl) ?_
 refine S0 0 sz5 ?_
 refine tp (PV.indexSl (r := 5) rfl Y47 sz5 rfl rfl (by first | omega | decide) (by first | omega | decide) rfl) ?_
 refine S0 0 sz5 ?_
 refine tp (PV.indexSl (r := 6) rfl Y47 sz5 rfl rfl (by first | omega | decide) (by first | omega | decide) rfl) ?_
 refine S0 0 sz5 ?_
 refine nx J32 (sr fun _ J33 => PS ?_)
 refine tp (PV.sliceLo (k := 7) (v := (.slice (some ⟨b28, 7, none⟩) (52) (52))) rfl Y47 sz5 rfl rfl rfl (by decide) rfl) ?_
 refine PS ?_
 refine TL.copy (i := 0) (m := (partP bs k).length) (news := (u8s (partP bs k))) (H' := [blkA b28 (u8s (textP ((number : Nat) : Int) k (piecesN bs.length) (partP bs k))) 5, recsP 47 5 vr (secsN ((number : Nat) : Int) bs k)]) (Want.plain rfl) rfl rfl rfl Y47 sz5 rfl rfl rfl rfl (fun _ _ => hP.src (fun _ h => Frm.of h)) (u8s_one _) (by show 7 + min (partP bs k).length 52 ≤ 59; omega) (text_copy (number := ((number : Nat) : Int)) (place := k) (all := piecesN bs.length) hpl) rfl (nx J33 (TC.region (PS ?_)))
 refine PS ?_
 refine CQ nm179 (sumPut_does (.slice (some ⟨b28, 0, none⟩) (59) (59)) (textP ((number : Nat) : Int) k (piecesN bs.length) (partP bs k)) (by rw [textP_len hpl]; decide)) (fun _ s => s) (fun g d s => IsB.w (isB_blkN 0 59 (textP_len hpl) (by decide) rfl rfl g d s)) fun vR HR hR => ?_
 subst hR
 refine TL.buildSlice (cells := #[(.int .u8 1)]) (Want.plain rfl) rfl rfl rfl Y47 in5 rfl rfl rfl (by as_aux_lemma => kernel_rfl) (fun b62 => TL.append (k := 1) (news := u8s ([1])) (nn' := (putP (textP ((number : Nat) : Int) k (piecesN bs.length) (partP bs k)) ++ [1] : List UInt8).length) (xs' := u8s (putP (textP ((number : Nat) : Int) k (piecesN bs.length) (partP bs k)) ++ [1])) (Want.plain rfl) rfl rfl rfl Y47 in5 rfl rfl rfl rfl rfl rfl (fun _ _ => Src.rd rfl (RO 0) rfl) (u8s_one [1]) (by rw [putP_len, textP_len hpl]; simp only [maxLen]; omega) (by rw [putP_len, textP_len hpl]; omega) (by simp) (u8s_append _ _).symm (fun v63 ov63 => TL.buildSlice (cells := #[v63]) (Want.plain rfl) rfl rfl rfl Y112 in47 rfl rfl rfl (fill_one ov63 (by simp)) (fun b64 => ?_)))
 change TL _ _ _ _ _ _ _ _ _ [blkA b64 [v63] 47, blkA b62 [(.int .u8 1)] 5, ownB v63 (putP (textP ((number : Nat) : Int) k (piecesN bs.length) (partP bs k)) ++ [1]) 5, blkA b28 (u8s (textP ((number : Nat) : Int) k (piecesN bs.length) (partP bs k))) 5, recsP 47 5 vr (secsN ((number : Nat) : Int) bs k)]
 refine TL.mono (fun _ s => sep_selR [4] rfl s) (TL.recsOpen (fun us65 => TL.append (k := 0) (m := 1) (news := [v63]) (nn' := (secsN ((number : Nat) : Int) bs k).length + 1) (xs' := us65 ++ [v63]) (Want.plain rfl) rfl rfl rfl Y112 in47 rfl rfl rfl rfl rfl rfl (fun _ _ => Src.rd rfl (RO 2) rfl) (List.forall_mem_cons.2 ⟨ov63, fun _ h => by cases h⟩) (by rw [secsN_len]; simp only [maxLen]; omega) (by rw [secsN_len]; omega) rfl rfl (fun v65 ov65 => ?_)))
 change TL _ _ _ _ _ _ _ _ _ [own v65 ((secsN ((number : Nat) : Int) bs k).length + 1) (us65 ++ [v63]) 47 1, bunch us65 (secsN ((number : Nat) : Int) bs k) 5, blkA b64 [v63] 47, blkA b62 [(.int .u8 1)] 5, ownB v63 (putP (textP ((number : Nat) : Int) k (piecesN bs.length) (partP bs k)) ++ [1]) 5, blkA b28 (u8s (textP ((number : Nat) : Int) k (piecesN bs.length) (partP bs k))) 5]
 refine TL.mono (fun _ s => sep_sub 4 rfl rfl s) (TL.mono (H' := [own v65 ((secsN ((number : Nat) : Int) bs k).length + 1) (us65 ++ [v63]) 47 1, bunch us65 (secsN ((number : Nat) : Int) bs k) 5, subB v63 (putP (textP ((number : Nat) : Int) k (piecesN bs.length) (partP bs k)) ++ [1]) 5, blkA b64 [v63] 47, blkA b62 [(.int .u8 1)] 5, blkA b28 (u8s (textP ((number : Nat) : Int) k (piecesN bs.length) (partP bs k))) 5]) (fun _ s => sep_selR [0, 0, 2] rfl s) (TL.mono (fun _ s => sep_recsAdd s) ?_))
 rw [← secsN_sect]
 refine PS ?_
 refine TL.nil (TE.blockEnd (TE.next J8 (TC.region (AD ?_))))
 refine PS ?_
 refine TL.nil ?_
 exact TE.round ((k + 1, v65) : (Nat) × (Value)) ⟨by omega, ov65⟩ (by show piecesN bs.length - (k + 1) < piecesN bs.length - k; omega)
  SB
  (fun _ s => sep_keep [0] rfl s)
 refine nx J6 (TC.seq fun _ J34 => CN (TC.exit (TE.pass (TE.pass (TE.hit (TE.next J4 (sr fun _ J35 => PS ?_)))))))
 refine PS ?_
 refine nx J35 (TC.ret (WK [0] (TE.ret1 rfl rfl ?_)))
 obtain rfl : k = piecesN bs.length := by omega
 exact rfl
theorem sectors_does (x : Value) (number : Nat) (bs : List UInt8) (hb : bs.length ≤ 3000) : Leg.Does Tryz.prog 165 #[.int .i64 ((number : Nat) : Int), x] (IsW x bs) [] (Ret (fun v H => H = [recsP 47 5 v (sectorsP ((number : Nat) : Int) bs)])) := fun w G h m => by
 obtain ⟨a, c, rfl, hc, _⟩ := h.form
 exact sectors_form a c number bs hc hb w G h m
theorem piece_does (s : Sec) (number place : Int) (hs : s.length = 64) :
 Leg.Does Tryz.prog 132 #[(.agg (u8s s).toArray), (.int .i64 (number)), (.int .i64 (place))] (fun _ => True) [] (Ret (fun v H => (pieceP s number place = none ∧ v = .tuple #[.slice none 0 0, .int .i64 0, .bool false] ∧ H = []) ∨ ∃ b all u, pieceP s number place = some (b, all) ∧ v = .tuple #[u, .int .i64 all, .bool true] ∧ H = [subB u b 5])) := by
 refine Leg.Does.body (n := 74) Tryz.func132 rfl rfl rfl (fun w0 F hF => sr fun _ J1 => XB fun b3 => ?_)
 change TL _ _ _ _ _ _ _ _ _ [blkA b3 (u8s s) 145]
 iterate 3 refine PS ?_
 refine nx J1 (sr fun _ J2 => tp (PV.sliceArrHi (k := 63) rfl Y145 sz5 rfl rfl (by omega) (by omega) rfl) ?_)
 refine CQ nm149 (take_does (.slice (some ⟨b3, 0, none⟩) (63) (64)) (s.take 63) (by rw [List.length_take]; omega)) (fun _ s => s) (fun g d s' => IsB.w (isB_piece 0 63 (by omega) (by omega) (by decide) (by rw [List.take_of_length_le (by rw [u8s_length]; omega)]) hs.symm rfl rfl g d s')) fun vR HR hR => ?_
 rcases hR with ⟨ht, rfl, rfl⟩ | ⟨t, u, ht, rfl, rfl⟩
 refine PS ?_
 refine tp (PV.extract (vs := [(.slice none 0 0), (.bool false)]) rfl rfl rfl) ?_
 refine tp (PV.extract (vs := [(.slice none 0 0), (.bool false)]) rfl rfl rfl) ?_
 refine PS ?_
 refine PS ?_
 refine nx J2 (TC.seq fun _ J3 => sr fun _ J4 => PS ?_)
 refine tp (PV.not (r := true) rfl rfl rfl) ?_
 refine PS ?_
 iterate 3 refine UT ?_
 refine PS ?_
 refine nx J4 (CY (sr fun _ J5 => ?_))
 iterate 3 refine PS ?_
 exact nx J5 (TC.ret (TE.passRet (WK [] (TE.ret3 rfl rfl rfl rfl (.inl ⟨pieceP_none1 ht, rfl, rfl⟩)))))
 have htl := takeP_len ht
 rw [List.length_take] at htl
 have ht59 : t.length = 59 := by omega
 refine TL.ownAt 0 rfl rfl (by omega) (fun g cap hv hcap => PS ?_)
 refine tp (PV.extract (vs := [u, (.bool true)]) rfl rfl rfl) ?_
 refine tp (PV.extract (vs := [u, (.bool true)]) rfl rfl rfl) ?_
 refine PS ?_
 refine PS ?_
 refine nx J2 (TC.seq fun _ J6 => sr fun _ J7 => PS ?_)
 refine tp (PV.not (r := false) rfl rfl rfl) ?_
 refine PS ?_
 refine tq (PV.indexArr (r := 63) rfl Y145 sz5 rfl rfl (lz rfl) (lz rfl) rfl) ?_
 refine tq (PV.load1 (v := (.int .u8 ((((s.getD 63 0).toNat : Nat) : Int)))) rfl Y5 rfl rfl (RO 1) (u8s_at (by omega))) ?_
 refine PS ?_
 refine TL.dec (fun h26 => ?_) (fun h26 => ?_)
 refine PS ?_
 refine nx J7 (CY (sr fun _ J8 => ?_))
 iterate 3 refine PS ?_
 refine nx J8 (TC.ret (TE.passRet (WK [] (TE.ret3 rfl rfl rfl rfl ?_))))
 exact .inl ⟨pieceP_end (fun h => h26 (by rw [h]; rfl)), rfl, rfl⟩
 refine PS ?_
 refine nx J7 (CN (CX J6 (sr fun _ J9 => PS ?_)))
 refine nx J9 (TC.seq fun _ J10 => sr fun _ J11 => PS ?_)
 refine tp (PV.to (PV.sliceH (a := some ⟨g, 0, none⟩) (len := t.length) (cap := cap) (hi := 4) rfl Y47 sz5 (by rw [← hv]; rfl) rfl rfl (by omega)) (cutLH_0 (by omega))) ?_
 refine tp (PV.lenSl rfl Y47 rfl) ?_
 refine PS ?_
 refine nx J11 (TC.block ?_)
 refine TC.loop (α := (Nat)) (fun k => k ≤ 4) (fun k => [(1, (.int .i64 (number))), (2, (.int .i64 (place))), (6, (.slice none 0 0)), (7, (.int .i64 0)), (8, (.bool false)), (9, u), (11, (.int .i64 (beI (t.take k)))), (29, (.slice (some ⟨g, 0, none⟩) (4) (cap))), (30, (.int .i64 4)), (31, (.int .i64 (((k : Nat) : Int))))]) (fun k => [ownB u (t) 5, blkA b3 (u8s s) 145]) (fun k => 4 - k) 0
  (Nat.zero_le _) SB
  (fun _ s => s) (fun k hinv => ?_)
 obtain hk := hinv
 refine sr fun _ J12 => PS ?_
 refine TL.dec (fun h32 => ?_) (fun h32 => ?_)
 refine nx J12 (TC.seq fun _ J13 => CY (CX J13 (TC.seq fun _ J14 => TC.block (sr fun _ J15 => tp (PV.indexSl (r := k) rfl Y47 sz5 rfl rfl (by first | omega | decide) (by first | omega | decide) (by omega)) ?_))))
 refine tp (PV.load1X (v := (.int .u8 ((((t.getD k 0).toNat : Nat) : Int)))) rfl Y5 rfl rfl (RdX.own 0 rfl hv rfl) (u8s_at (by omega))) ?_
 refine PS ?_
 refine nx J15 (TC.region (PS ?_))
 refine tp (PV.shl (r := IntKind.i64.wrap ((beI (t.take k)) * 2 ^ 8)) rfl rfl rfl (by omega) rfl) ?_
 refine PS ?_
 refine tp (PV.convI (r := (((t.getD k 0).toNat : Nat) : Int)) rfl Y5 Y3 rfl (wrap_i64 (by omega) (by have := UInt8.toNat_lt (n := t.getD k 0); omega))) ?_
 refine tp (PV.or (r := orI .i64 (IntKind.i64.wrap ((beI (t.take k)) * 2 ^ 8)) (((t.getD k 0).toNat : Nat) : Int)) rfl rfl rfl rfl) ?_
 refine PS ?_
 refine TL.nil (TE.blockEnd (TE.next J14 (TC.region (AD ?_))))
 refine PS ?_
 refine TL.nil ?_
 exact TE.round ((k + 1) : (Nat)) (by omega) (by show 4 - (k + 1) < 4 - k; omega)
  (Sub.r (Sub.r (Sub.r (Sub.r (Sub.r (Sub.r (Sub.cons rfl (congrArg (Value.int .i64) (beI_take (by omega)).symm) SB)))))))
  (fun _ s => s)
 refine nx J12 (TC.seq fun _ J16 => CN (TC.exit (TE.pass (TE.pass (TE.hit (TE.next J10 (TC.seq fun _ J17 => TC.draw (fun w => Frm F w ∧ Hx g (u8s (t)) w ∧ True) mixedD rfl (fun _ s => ⟨Frm.of s, RdX.own 0 rfl hv rfl _ s, trivial⟩) (PD 0 ?_))))))))
 refine ta 1 rfl (PV.indexSlV (r := 5) hv rfl Y47 sz5 rfl rfl (by omega) (by omega) rfl) ?_
 refine ta 2 rfl (PV.load1X (v := (.int .u8 ((((t.getD 5 0).toNat : Nat) : Int)))) rfl Y5 rfl rfl (fun _ h => h.2.1) (u8s_at (by omega))) ?_
 refine ta 3 rfl (PV.convI (r := (((t.getD 5 0).toNat : Nat) : Int)) rfl Y5 Y3 rfl (wrap_i64 (by omega) (by have := UInt8.toNat_lt (n := t.getD 5 0); omega))) ?_
 refine PD 4 ?_
 refine ta 5 rfl (PV.indexSlV (r := 6) hv rfl Y47 sz5 rfl rfl (by omega) (by omega) rfl) ?_
 refine ta 6 rfl (PV.load1X (v := (.int .u8 ((((t.getD 6 0).toNat : Nat) : Int)))) rfl Y5 rfl rfl (fun _ h => h.2.1) (u8s_at (by omega))) ?_
 refine ta 7 rfl (PV.convI (r := (((t.getD 6 0).toNat : Nat) : Int)) rfl Y5 Y3 rfl (wrap_i64 (by omega) (by have := UInt8.toNat_lt (n := t.getD 6 0); omega))) ?_
 refine PD 8 ?_
 refine PD 9 ?_
 refine DN (TE.next J17 (TC.seq fun _ J18 => sr fun _ J19 => ?_))
 iterate 3 refine PS ?_
 refine TL.dec (fun h51 => ?_) (fun h51 => ?_)
 refine PS ?_
 iterate 6 refine UT ?_
 refine PS ?_
 refine PS ?_
 iterate 3 refine UT ?_
 refine PS ?_
 refine PS ?_
 refine UT ?_
 refine UT ?_
 refine PS ?_
 refine nx J19 (CY (sr fun _ J20 => ?_))
 iterate 3 refine PS ?_
 refine nx J20 (TC.ret (TE.passRet (WK [] (TE.ret3 rfl rfl rfl rfl ?_))))
 exact .inl ⟨pieceP_none2 ht (.inl (by have : k = 4 := (by omega); subst this; exact h51)), rfl, rfl⟩
 refine PS ?_
 refine PS ?_
 refine tq (PV.indexSlV (r := 4) hv rfl Y47 sz5 rfl rfl (by omega) (by omega) rfl) ?_
 refine tq (PV.load1X (v := (.int .u8 ((((t.getD 4 0).toNat : Nat) : Int)))) rfl Y5 rfl rfl (RdX.own 0 rfl hv rfl) (u8s_at (by omega))) ?_
 refine tq (PV.convI (r := (((t.getD 4 0).toNat : Nat) : Int)) rfl Y5 Y3 rfl (wrap_i64 (by omega) (by have := UInt8.toNat_lt (n := t.getD 4 0); omega))) ?_
 refine PS ?_
 refine PS ?_
 refine TL.dec (fun h58 => ?_) (fun h58 => ?_)
 refine PS ?_
 refine PS ?_
 iterate 3 refine UT ?_
 refine PS ?_
 refine PS ?_
 refine UT ?_
 refine UT ?_
 refine PS ?_
 refine nx J19 (CY (sr fun _ J21 => ?_))
 iterate 3 refine PS ?_
 exact nx J21 (TC.ret (TE.passRet (WK [] (TE.ret3 rfl rfl rfl rfl (.inl ⟨pieceP_none2 ht (.inr (.inl h58)), rfl, rfl⟩)))))
 iterate 5 refine PS ?_
 refine TL.dec (fun h63 => ?_) (fun h63 => ?_)
 refine PS ?_
 refine PS ?_
 refine UT ?_
 refine UT ?_
 refine PS ?_
 refine nx J19 (CY (sr fun _ J22 => ?_))
 iterate 3 refine PS ?_
 exact nx J22 (TC.ret (TE.passRet (WK [] (TE.ret3 rfl rfl rfl rfl (.inl ⟨pieceP_none2 ht (.inr (.inr (.inl h63))), rfl, rfl⟩)))))
 iterate 4 refine PS ?_
 refine TL.dec (fun h67 => ?_) (fun h67 => ?_)
 refine PS ?_
 refine nx J19 (CY (sr fun _ J23 => ?_))
 iterate 3 refine PS ?_
 exact nx J23 (TC.ret (TE.passRet (WK [] (TE.ret3 rfl rfl rfl rfl (.inl ⟨pieceP_none2 ht (.inr (.inr (.inr h67))), rfl, rfl⟩)))))
 refine PS ?_
 refine nx J19 (CN (CX J18 (sr fun _ J24 => PS ?_)))
 refine PS ?_
 refine tp (PV.add (r := ((7 + (t.getD 6 0).toNat : Nat) : Int)) rfl rfl rfl (by rw [show (7 : Int) + (((t.getD 6 0).toNat : Nat) : Int) = ((7 + (t.getD 6 0).toNat : Nat) : Int) by omega]; have := UInt8.toNat_lt (n := t.getD 6 0); exact wrap_i64 (by omega) (by omega))) ?_
 refine tp (PV.to (PV.sliceLH (a := some ⟨g, 0, none⟩) (len := t.length) (cap := cap) (lo := 7) (hi := 7 + (t.getD 6 0).toNat) rfl Y47 sz5 (by rw [← hv]; rfl) rfl rfl rfl rfl (by omega) (by omega)) (congrArg (fun q => cutLH q 7 (7 + (t.getD 6 0).toNat)) hv.symm)) ?_
 iterate 4 refine PS ?_
 refine nx J24 (TC.ret (TE.weak (H' := [subB (cutLH u 7 (7 + (t.getD 6 0).toNat)) ((t.drop 7).take (t.getD 6 0).toNat) 5]) (Sub.refl _) (fun _ s' => sep_keep [0] rfl (sep_ownCut 0 rfl rfl hv (by omega) (by omega) (by omega) (by rw [List.drop_take, Nat.add_sub_cancel_left]) s')) (TE.ret3 rfl rfl rfl rfl ?_)))
 obtain rfl : k = 4 := by omega
 have h1 : s.getD 63 0 = 1 := UInt8.toNat_inj.1 (by have h1' : (1 : UInt8).toNat = 1 := rfl; omega)
 exact .inr ⟨_, _, _, pieceP_some ht h1 (by omega), rfl, rfl⟩
end Go.Proofs.YtohmkchalilodaaGreatDoor
end

section
namespace Go.Proofs.YtohmkchalilodaaGreatDoor
open Go Leg Codec Api Dsk Wal
theorem nm161 : Named Tryz.prog 161 := ⟨Tryz.f161, Tryz.func161, by kernel_rfl, by kernel_rfl⟩
theorem nm131 : Named Tryz.prog 131 := ⟨Tryz.f131, Tryz.func131, by kernel_rfl, by kernel_rfl⟩
theorem nm84 : Named Tryz.prog 84 := ⟨Tryz.f84, Tryz.func84, by kernel_rfl, by kernel_rfl⟩
theorem nm125 : Named Tryz.prog 125 := ⟨Tryz.f125, Tryz.func125, by kernel_rfl, by kernel_rfl⟩
theorem nm160 : Named Tryz.prog 160 := ⟨Tryz.f160, Tryz.func160, by kernel_rfl, by kernel_rfl⟩
theorem nm177 : Named Tryz.prog 177 := ⟨Tryz.f177, Tryz.func177, by kernel_rfl, by kernel_rfl⟩
theorem nm182 : Named Tryz.prog 182 := ⟨Tryz.f182, Tryz.func182, by kernel_rfl, by kernel_rfl⟩
theorem copyCheck0_does (t c : Nat) (v : Value) :
 Leg.Does Tryz.prog 161 #[(.pointer (some ⟨t, 1, none⟩))] (fun _ => True) [blkA t [(.pointer (some ⟨c, 0, none⟩)), (.pointer none), v] 163] (Ret (fun _ H => H = [blkA t [(.pointer (some ⟨c, 0, none⟩)), (.pointer (some ⟨t, 1, none⟩)), v] 163])) := by
 refine Leg.Does.body (n := 20) Tryz.func161 rfl rfl rfl (fun w0 F hF => sr fun _ J1 => PS ?_)
 refine PS ?_
 refine FA 1 Y161 sz159 ?_
 refine LA 0 Y159 ?_
 refine tp (PV.nilPtrNil rfl Y159 rfl rfl) ?_
 refine nx J1 (CY (TC.region (PS ?_)))
 refine PS ?_
 refine tp (PV.toUnsafe rfl Y159 Tryz.underlying252 sz161 rfl (RO 0) (lb rfl)) ?_
 refine tp (PV.noEscape rfl Tryz.func178 rfl rfl rfl rfl rfl) ?_
 refine tp (PV.ofUnsafe rfl Tryz.underlying252 Y159 sz161 rfl (RO 0) (by kernel_rfl)) ?_
 refine PS ?_
 refine FA 1 Y161 sz159 ?_
 refine S0 0 sz159 ?_
 exact TL.nil (WK [0] (TE.end0 rfl rfl))
theorem copyCheck1_does (t c : Nat) (v : Value) :
 Leg.Does Tryz.prog 161 #[(.pointer (some ⟨t, 1, none⟩))] (fun _ => True) [blkA t [(.pointer (some ⟨c, 0, none⟩)), (.pointer (some ⟨t, 1, none⟩)), v] 163] (Ret (fun _ H => H = [blkA t [(.pointer (some ⟨c, 0, none⟩)), (.pointer (some ⟨t, 1, none⟩)), v] 163])) := by
 refine Leg.Does.body (n := 20) Tryz.func161 rfl rfl rfl (fun w0 F hF => sr fun _ J1 => PS ?_)
 refine PS ?_
 refine FA 1 Y161 sz159 ?_
 refine LA 0 Y159 ?_
 refine tp (PV.ptrNil rfl Y159 rfl rfl) ?_
 refine nx J1 (CN (sr fun _ J2 => PS ?_))
 refine PS ?_
 refine FA 1 Y161 sz159 ?_
 refine LA 0 Y159 ?_
 refine PS ?_
 refine tp (PV.ptrNeqSame rfl Y159 sz161 rfl rfl) ?_
 exact nx J2 (CN (TC.skip (WK [0] (TE.end0 rfl rfl))))
theorem write0_does (t c : Nat) (v : Value) (bs ys : List UInt8) (hv : v.oneCell' = true) (hb : bs.length + ys.length ≤ 1000000) :
 Leg.Does Tryz.prog 131 #[(.pointer (some ⟨t, 1, none⟩)), (strV (ys))] (fun _ => True) [blkA t [(.pointer (some ⟨c, 0, none⟩)), (.pointer none), v] 163, ownB v (bs) 5] (Ret (fun _ H => ∃ v', v'.oneCell' = true ∧ H = [blkA t [(.pointer (some ⟨c, 0, none⟩)), (.pointer (some ⟨t, 1, none⟩)), v'] 163, ownB v' (bs ++ ys) 5])) := by
 refine Leg.Does.body (n := 19) Tryz.func131 rfl rfl rfl (fun w0 F hF => sr fun _ J1 => PS ?_)
 refine PS ?_
 refine nx J1 (sr fun _ J2 => PS ?_)
 refine CZ nm161 (copyCheck0_does t c v) (fun _ s => s) fun vR => ?_
 refine nx J2 (sr fun _ J3 => ?_)
 iterate 3 refine PS ?_
 refine FA 2 Y161 sz47 ?_
 refine LA 0 Y47 ?_
 refine PS ?_
 refine TL.appendT (k := 1) (bs := bs) (ys := ys) (Want.plain rfl) rfl rfl rfl Y47 Y9 in5 rfl rfl rfl rfl (by simp only [maxLen]; omega) (by omega) (fun v14 ov14 => PS ?_)
 refine FA 2 Y161 sz47 ?_
 refine TL.store1 (i := 0) (Want.plain rfl) rfl rfl rfl rfl ov14 sz47 rfl rfl (lb rfl) rfl rfl (nx J3 (sr fun _ J4 => PS ?_))
 refine tp (PV.strLen rfl Y9 rfl) ?_
 refine PS ?_
 refine PS ?_
 exact nx J4 (TC.ret (WK [0, 0] (TE.ret2 rfl rfl rfl ⟨_, ov14, rfl⟩)))
theorem write1_does (t c : Nat) (v : Value) (bs ys : List UInt8) (hv : v.oneCell' = true) (hb : bs.length + ys.length ≤ 1000000) :
 Leg.Does Tryz.prog 131 #[(.pointer (some ⟨t, 1, none⟩)), (strV (ys))] (fun _ => True) [blkA t [(.pointer (some ⟨c, 0, none⟩)), (.pointer (some ⟨t, 1, none⟩)), v] 163, ownB v (bs) 5] (Ret (fun _ H => ∃ v', v'.oneCell' = true ∧ H = [blkA t [(.pointer (some ⟨c, 0, none⟩)), (.pointer (some ⟨t, 1, none⟩)), v'] 163, ownB v' (bs ++ ys) 5])) := by
 refine Leg.Does.body (n := 19) Tryz.func131 rfl rfl rfl (fun w0 F hF => sr fun _ J1 => PS ?_)
 refine PS ?_
 refine nx J1 (sr fun _ J2 => PS ?_)
 refine CZ nm161 (copyCheck1_does t c v) (fun _ s => s) fun vR => ?_
 refine nx J2 (sr fun _ J3 => ?_)
 iterate 3 refine PS ?_
 refine FA 2 Y161 sz47 ?_
 refine LA 0 Y47 ?_
 refine PS ?_
 refine TL.appendT (k := 1) (bs := bs) (ys := ys) (Want.plain rfl) rfl rfl rfl Y47 Y9 in5 rfl rfl rfl rfl (by simp only [maxLen]; omega) (by omega) (fun v14 ov14 => PS ?_)
 refine FA 2 Y161 sz47 ?_
 refine TL.store1 (i := 0) (Want.plain rfl) rfl rfl rfl rfl ov14 sz47 rfl rfl (lb rfl) rfl rfl (nx J3 (sr fun _ J4 => PS ?_))
 refine tp (PV.strLen rfl Y9 rfl) ?_
 refine PS ?_
 refine PS ?_
 exact nx J4 (TC.ret (WK [0, 0] (TE.ret2 rfl rfl rfl ⟨_, ov14, rfl⟩)))
theorem string0_does (t c g cap : Nat) (bs : List UInt8) (hpos : 0 < bs.length) (hb : bs.length ≤ 1000000) (hcap : 0 < cap) :
 Leg.Does Tryz.prog 84 #[(.pointer (some ⟨t, 1, none⟩))] (fun _ => True) [blkA t [(.pointer (some ⟨c, 0, none⟩)), (.pointer (some ⟨t, 1, none⟩)), (.slice (some ⟨g, 0, none⟩) (bs.length) (cap))] 163, ownB (.slice (some ⟨g, 0, none⟩) (bs.length) (cap)) (bs) 5] (Ret (fun r' H => r' = strV bs ∧ H = [blkA t [(.pointer (some ⟨c, 0, none⟩)), (.pointer (some ⟨t, 1, none⟩)), (.slice (some ⟨g, 0, none⟩) (bs.length) (cap))] 163])) := by
 refine Leg.Does.body (n := 14) Tryz.func84 rfl rfl rfl (fun w0 F hF => sr fun _ J1 => PS ?_)
 refine nx J1 (TC.seq fun _ J2 => D1 0 mixedD ?_)
 refine PD 0 ?_
 refine PD 1 ?_
 refine FD 2 2 Y161 sz47 ?_
 refine ta 3 rfl (PV.load1 (v := (.slice (some ⟨g, 0, none⟩) (bs.length) (cap))) rfl Y47 rfl rfl (fun _ h => h.2.1) rfl) ?_
 refine ta 4 rfl (PV.sliceData rfl rfl hcap) ?_
 refine PD 5 ?_
 refine PD 6 ?_
 refine FD 7 2 Y161 sz47 ?_
 refine ta 8 rfl (PV.load1 (v := (.slice (some ⟨g, 0, none⟩) (bs.length) (cap))) rfl Y47 rfl rfl (fun _ h => h.2.1) rfl) ?_
 refine ta 9 rfl (PV.lenSl rfl Y47 rfl) ?_
 refine AL 10 ?_
 refine TL.unsafeStr (k := 1) (bs := bs) (Want.plain rfl) rfl rfl rfl Tryz.underlying213 (by kernel_rfl) rfl rfl rfl rfl hpos (by omega) (TL.nil (E1 0 (PD 11 ?_)))
 exact DN (TE.next J2 (TC.ret (WK [0] (TE.ret1 rfl rfl ⟨rfl, rfl⟩))))
theorem string_does (t c : Nat) (v : Value) (bs : List UInt8) (hpos : 0 < bs.length) (hb : bs.length ≤ 1000000) : Leg.Does Tryz.prog 84 #[.pointer (some ⟨t, 1, none⟩)] (fun _ => True) [blkA t [(.pointer (some ⟨c, 0, none⟩)), (.pointer (some ⟨t, 1, none⟩)), v] 163, ownB v bs 5] (Ret (fun r' H => r' = strV bs ∧ H = [blkA t [(.pointer (some ⟨c, 0, none⟩)), (.pointer (some ⟨t, 1, none⟩)), v] 163])) :=
 Leg.Does.ex (A' := fun x : { x : Nat × Nat // 0 < x.2 ∧ v = .slice (some ⟨x.1, 0, none⟩) bs.length x.2 } => [blkA t [(.pointer (some ⟨c, 0, none⟩)), (.pointer (some ⟨t, 1, none⟩)), v] 163, ownB v bs 5]) (fun h s => by
  obtain ⟨h1, h2, _, _, a, _⟩ := sep_get 1 (lb rfl) s
  obtain ⟨_, ⟨_, h0, _⟩ | ⟨g, cap, cur, hv, _, hle, _⟩⟩ := a
  · omega
  · exact ⟨⟨(g, cap), by show 0 < cap; omega, hv⟩, s⟩) fun ⟨x, hx, hv⟩ => by
  subst hv
  exact string0_does t c x.1 x.2 bs hpos hb hx
def digB (n : Nat) : List UInt8 := [UInt8.ofNat (48 + n)]
theorem dig_at {n : Nat} (hn : ((n : Nat) : Int) < 10) : (([48, 49, 50, 51, 52, 53, 54, 55, 56, 57, 97, 98, 99, 100, 101, 102, 103, 104, 105, 106, 107, 108, 109, 110, 111, 112, 113, 114, 115, 116, 117, 118, 119, 120, 121, 122] : List UInt8).take (n + 1)).drop n = digB n := by
 match n, hn with
 | 0, _ | 1, _ | 2, _ | 3, _ | 4, _ | 5, _ | 6, _ | 7, _ | 8, _ | 9, _ => rfl
 | k + 10, h => omega
theorem itos_does (n : Nat) (hn : ((n : Nat) : Int) < 10) :
 Leg.Does Tryz.prog 182 #[(.int .i64 (((n : Nat) : Int)))] (fun _ => True) [] (Ret (fun r' H => r' = strV (digB n) ∧ H = [])) := by
 refine Leg.Does.body (n := 15) Tryz.func182 rfl rfl rfl (fun w0 F hF => sr fun _ J1 => PS ?_)
 refine nx J1 (TC.seq fun _ J2 => sr fun _ J3 => PS ?_)
 refine PS ?_
 refine TL.dec (fun h4 => ?_) (fun h4 => ?_)
 refine nx J3 (CY (sr fun _ J4 => PS ?_))
 refine PS ?_
 refine AD ?_
 refine tp (PV.to (PV.strSlice (bs := [48, 49, 50, 51, 52, 53, 54, 55, 56, 57, 97, 98, 99, 100, 101, 102, 103, 104, 105, 106, 107, 108, 109, 110, 111, 112, 113, 114, 115, 116, 117, 118, 119, 120, 121, 122]) (lo := n) (hi := n + 1) rfl Y9 rfl rfl rfl rfl (by omega) (by omega) (by simp; omega)) (congrArg (fun l : List UInt8 => strV l) (dig_at hn))) ?_
 refine PS ?_
 exact nx J4 (TC.ret (TE.passRet (WK [] (TE.ret1 rfl rfl ⟨rfl, rfl⟩))))
 · exact absurd hn h4
theorem formatInt_does (n : Nat) (hn : ((n : Nat) : Int) < 10) :
 Leg.Does Tryz.prog 177 #[(.int .i64 (((n : Nat) : Int))), (.int .i64 10)] (fun _ => True) [] (Ret (fun r' H => r' = strV (digB n) ∧ H = [])) := by
 refine Leg.Does.body (n := 54) Tryz.func177 rfl rfl rfl (fun w0 F hF => sr fun _ J1 => PS ?_)
 refine nx J1 (TC.seq fun _ J2 => sr fun _ J3 => PS ?_)
 refine PS ?_
 refine nx J3 (CY (TC.seq fun _ J4 => sr fun _ J5 => PS ?_))
 refine PS ?_
 refine TL.dec (fun h13 => ?_) (fun h13 => ?_)
 iterate 3 refine PS ?_
 refine TL.dec (fun h16 => ?_) (fun h16 => ?_)
 refine PS ?_
 refine nx J5 (CY (sr fun _ J6 => PS ?_))
 refine CE nm182 (itos_does n hn) (fun _ s => s) ?_
 refine PS ?_
 exact nx J6 (TC.ret (TE.passRet (TE.passRet (WK [] (TE.ret1 rfl rfl ⟨rfl, rfl⟩)))))
 · exact absurd (show ((n : Nat) : Int) < 100 by omega) h16
 · exact absurd (Int.natCast_nonneg n) h13
theorem itoa0_does (n : Nat) (hn : ((n : Nat) : Int) < 10) :
 Leg.Does Tryz.prog 160 #[(.int .i64 (((n : Nat) : Int)))] (fun _ => True) [] (Ret (fun r' H => r' = strV (digB n) ∧ H = [])) := by
 refine Leg.Does.body (n := 5) Tryz.func160 rfl rfl rfl (fun w0 F hF => sr fun _ J1 => PS ?_)
 refine nx J1 (sr fun _ J2 => PS ?_)
 refine CE nm177 (formatInt_does n hn) (fun _ s => s) ?_
 refine PS ?_
 exact nx J2 (TC.ret (WK [] (TE.ret1 rfl rfl ⟨rfl, rfl⟩)))
theorem itoa_does (n : Nat) (hn : ((n : Nat) : Int) < 10) :
 Leg.Does Tryz.prog 125 #[(.int .i64 (((n : Nat) : Int)))] (fun _ => True) [] (Ret (fun r' H => r' = strV (digB n) ∧ H = [])) := by
 refine Leg.Does.body (n := 5) Tryz.func125 rfl rfl rfl (fun w0 F hF => sr fun _ J1 => PS ?_)
 refine nx J1 (sr fun _ J2 => PS ?_)
 refine CE nm160 (itoa0_does n hn) (fun _ s => s) ?_
 refine PS ?_
 exact nx J2 (TC.ret (WK [] (TE.ret1 rfl rfl ⟨rfl, rfl⟩)))
end Go.Proofs.YtohmkchalilodaaGreatDoor
end

section
namespace Leg
open Go Codec Api
theorem fold_mid (vs : List Value) : ∀ (o j : Nat) (pre zeros post : List Value), pre.length = o + j → zeros.length = vs.length →
 ((vs.zipIdx j).foldl (fun (cs : Array Value) (c, i) => cs.setIfInBounds (o + i) c) (pre ++ (zeros ++ post)).toArray) = (pre ++ (vs ++ post)).toArray := by
 induction vs with
 | nil => intro o j pre zeros post _ h; rw [List.eq_nil_of_length_eq_zero h]; rfl
 | cons v vs ih =>
  intro o j pre zeros post hp hz
  match zeros, hz with
  | z :: zeros, hz =>
   rw [List.zipIdx_cons, List.foldl_cons]
   have e : (pre ++ (z :: zeros ++ post)).toArray.setIfInBounds (o + j) v = ((pre ++ [v]) ++ (zeros ++ post)).toArray := by
    rw [List.setIfInBounds_toArray, List.set_append_right _ _ (by omega), hp, Nat.sub_self, List.cons_append, List.set_cons_zero, List.append_assoc]
    rfl
   simp only [e]
   rw [ih o (j + 1) (pre ++ [v]) zeros post (by simp; omega) (by simpa using hz), List.append_assoc]
   rfl
def offs : List (List Value) → Nat → List (Nat × Nat)
 | [], _ => []
 | s :: ss, o => (o, s.length) :: offs ss (o + s.length)
def putSegs (segs : List (List Value)) : List (Nat × List Value) → Option (List (List Value))
 | [] => some segs
 | (i, v) :: ps => match segs[i]? with
  | some s => if v.length = s.length then putSegs (segs.set i v) ps else none
  | none => none
theorem offs_set : ∀ (segs : List (List Value)) (o i : Nat) (s v : List Value), segs[i]? = some s → v.length = s.length → offs (segs.set i v) o = offs segs o
 | [], _, _, _, _, h, _ => by simp at h
 | s :: ss, o, 0, t, v, h, hl => by
  simp only [List.getElem?_cons_zero, Option.some.injEq] at h
  subst h
  simp [offs, hl]
 | s :: ss, o, i + 1, t, v, h, hl => by
  simp only [List.getElem?_cons_succ] at h
  simp [offs, offs_set ss _ i t v h hl]
theorem segs_split : ∀ (segs : List (List Value)) (o i : Nat) (s : List Value), segs[i]? = some s → ∃ A B, segs.flatten = A ++ (s ++ B) ∧ (offs segs o)[i]? = some (o + A.length, s.length) ∧ ∀ v, (segs.set i v).flatten = A ++ (v ++ B)
 | [], _, _, _, h => by simp at h
 | s :: ss, o, 0, t, h => by
  simp only [List.getElem?_cons_zero, Option.some.injEq] at h
  subst h
  exact ⟨[], ss.flatten, by simp, by simp [offs], fun v => by simp⟩
 | s :: ss, o, i + 1, t, h => by
  simp only [List.getElem?_cons_succ] at h
  obtain ⟨A, B, h1, h2, h3⟩ := segs_split ss (o + s.length) i t h
  refine ⟨s ++ A, B, by simp [h1], ?_, fun v => by simp [h3 v]⟩
  simp only [offs, List.getElem?_cons_succ, h2, List.length_append, Nat.add_assoc]
theorem fill_segs : ∀ (parts : List (Nat × List Value)) (vals : List (Nat × Value)) (segs res : List (List Value)) (place : Nat → Option (Nat × Nat)), (∀ i, i < segs.length → place i = (offs segs 0)[i]?) → vals.map (fun p => (p.1, p.2.cells)) = parts.map (fun p => (p.1, p.2.toArray)) → putSegs segs parts = some res →
 Instr.fill place segs.flatten.toArray vals = some res.flatten.toArray
 | [], [], segs, res, place, _, _, h => by
  simp only [putSegs, Option.some.injEq] at h
  subst h; rfl
 | [], _ :: _, _, _, _, _, h, _ => by simp at h
 | _ :: _, [], _, _, _, _, h, _ => by simp at h
 | (i, v) :: ps, (i', u) :: us, segs, res, place, hp, hv, h => by
  simp only [List.map_cons, List.cons.injEq, Prod.mk.injEq] at hv
  obtain ⟨⟨rfl, hu⟩, hv⟩ := hv
  simp only [putSegs] at h
  split at h
  · rename_i s hs
    split at h
    · rename_i hl
      have hi : i' < segs.length := (List.getElem?_eq_some_iff.1 hs).1
      obtain ⟨A, B, h1, h2, h3⟩ := segs_split segs 0 i' s hs
      simp only [Nat.zero_add] at h2
      have e := fold_mid v A.length 0 A s B (by simp) (by omega)
      have ih := fill_segs ps us (segs.set i' v) res place (fun j hj => by rw [offs_set segs 0 i' s v hs hl]; exact hp j (by simpa using hj)) hv h
      rw [h3] at ih
      simp only [Instr.fill, hp i' hi, h2, hu, List.size_toArray, h1]
      rw [if_neg (by simp [hl])]
      rw [← ih, ← e]
      congr 1
      rw [← Array.foldl_toList, Array.toList_zipIdx]
    · cases h
  · cases h
theorem built_segs {P : Program} {t : TypeId} {fs : Array Field} {segs res : List (List Value)} {parts : List (Nat × List Value)} {vals : List (Nat × Value)} (ht : P.underlying t = some (.struct fs)) (hz : (P.info? t).map (·.zero) = some (some (.agg segs.flatten.toArray)))
 (hp : fs.toList.mapM (fun f => (P.info? f.type).map fun i => (f.offset, i.size)) = some (offs segs 0)) (hv : vals.map (fun p => (p.1, p.2.cells)) = parts.map (fun p => (p.1, p.2.toArray))) (h : putSegs segs parts = some res) : P.built t vals = some res.flatten.toArray := by
 obtain ⟨i, hi, hz'⟩ := Option.map_eq_some_iff.1 hz
 unfold Program.built
 simp only [hi, ht, hz', hp]
 exact fill_segs parts vals segs res _ (fun j _ => by simp) hv h
section
variable {P : Program} {n : Nat} {D : List Deferred} {L : List (Nat × Value)} {S : World → Prop} {o : Oper}
theorem PV.buildSegs {t : TypeId} {ps : Array (Nat × Operand)} {fs : Array Field} {segs res : List (List Value)} {parts : List (Nat × List Value)} {vals : List (Nat × Value)} {cs : List Value} (ho : o.op = .build t ps) (hx : evp L ps.toList = some vals) (ht : P.underlying t = some (.struct fs))
 (hz : (P.info? t).map (·.zero) = some (some (.agg segs.flatten.toArray))) (hp : fs.toList.mapM (fun f => (P.info? f.type).map fun i => (f.offset, i.size)) = some (offs segs 0)) (hv : vals.map (fun p => (p.1, p.2.cells)) = parts.map (fun p => (p.1, p.2.toArray))) (h : putSegs segs parts = some res) (hc : res.flatten = cs) : PV P n D L S o (.agg cs.toArray) := by
 subst hc
 exact PV.build ho hx (built_segs ht hz hp hv h)
end
end Leg
end

section
namespace Leg
open Go Codec Api
inductive SL : List (List Value) → List Nat → Prop
 | nil : SL [] []
 | cons {s : List Value} {n : Nat} {L : List (List Value)} {ns : List Nat} (h : s.length = n) (r : SL L ns) : SL (s :: L) (n :: ns)
theorem SL.split {L : List (List Value)} {ns : List Nat} (h : SL L ns) (i : Nat) {n : Nat} (hn : ns[i]? = some n) : ∃ s A B, L[i]? = some s ∧ s.length = n ∧ L.flatten = A ++ (s ++ B) ∧ A.length = (ns.take i).sum ∧ ∀ v, (L.set i v).flatten = A ++ (v ++ B) := by
 induction h generalizing i with
 | nil => simp at hn
 | @cons s m L ns hs r ih =>
  cases i with
  | zero =>
   simp only [List.getElem?_cons_zero, Option.some.injEq] at hn
   exact ⟨s, [], L.flatten, rfl, by omega, by simp, rfl, fun v => by simp⟩
  | succ i =>
   obtain ⟨t, A, B, h1, h2, h3, h4, h5⟩ := ih i (by simpa using hn)
   exact ⟨t, s ++ A, B, by simpa using h1, h2, by simp [h3], by simp [h4, hs], fun v => by simp [h5 v]⟩
theorem SL.len {L : List (List Value)} {ns : List Nat} (h : SL L ns) : L.flatten.length = ns.sum := by
 induction h with
 | nil => rfl
 | cons hs r ih => simp [ih, hs]
theorem SL.sub {L : List (List Value)} {ns : List Nat} (h : SL L ns) (i : Nat) {s : List Value} {n off : Nat} (j m : Nat) (hn : ns[i]? = some n) (hs : L[i]? = some s) (ho : (ns.take i).sum = off) (hj : j + m ≤ n) : (L.flatten.drop (off + j)).take m = (s.drop j).take m := by
 obtain ⟨t, A, B, h1, h2, h3, h4, _⟩ := h.split i hn
 obtain rfl : t = s := by rw [h1] at hs; exact Option.some.inj hs
 rw [h3, ← ho, ← h4, ← List.drop_drop, List.drop_left, List.drop_append_of_le_length (by omega), List.take_append_of_le_length (by simp; omega)]
theorem SL.at {L : List (List Value)} {ns : List Nat} (h : SL L ns) (i : Nat) {s : List Value} {n off : Nat} (j : Nat) (hn : ns[i]? = some n) (hs : L[i]? = some s) (ho : (ns.take i).sum = off) (hj : j < n) : L.flatten[off + j]? = s[j]? := by
 obtain ⟨t, A, B, h1, h2, h3, h4, _⟩ := h.split i hn
 obtain rfl : t = s := by rw [h1] at hs; exact Option.some.inj hs
 rw [h3, ← ho, ← h4, List.getElem?_append_right (by omega), Nat.add_sub_cancel_left, List.getElem?_append_left (by omega)]
theorem SL.putIn {L : List (List Value)} {ns : List Nat} (h : SL L ns) (i : Nat) {s s' : List Value} {n off : Nat} (j : Nat) (vs : List Value) (hn : ns[i]? = some n) (hs : L[i]? = some s) (ho : (ns.take i).sum = off) (hj : j + vs.length ≤ n) (hw : wr s j vs = s') : wr L.flatten (off + j) vs = (L.set i s').flatten := by
 obtain ⟨t, A, B, h1, h2, h3, h4, h5⟩ := h.split i hn
 obtain rfl : t = s := by rw [h1] at hs; exact Option.some.inj hs
 rw [h5, h3, ← ho, ← h4, wr_append_right (by omega), Nat.add_sub_cancel_left, wr_append_left (by omega), hw]
theorem SL.set {L : List (List Value)} {ns : List Nat} (h : SL L ns) (i : Nat) {s : List Value} {n off : Nat} (j : Nat) (v : Value) (hn : ns[i]? = some n) (hs : L[i]? = some s) (ho : (ns.take i).sum = off) (hj : j < n) : L.flatten.set (off + j) v = (L.set i (s.set j v)).flatten := by
 obtain ⟨t, A, B, h1, h2, h3, h4, h5⟩ := h.split i hn
 obtain rfl : t = s := by rw [h1] at hs; exact Option.some.inj hs
 rw [h5, h3, ← ho, ← h4, List.set_append_right _ _ (by omega), Nat.add_sub_cancel_left, List.set_append_left _ _ (by omega)]
theorem SL.around {L : List (List Value)} {ns : List Nat} (h : SL L ns) (i : Nat) {s : List Value} {n off : Nat} (hn : ns[i]? = some n) (hs : L[i]? = some s) (ho : (ns.take i).sum = off) : ∃ A B, L.flatten = A ++ (s ++ B) ∧ A.length = off ∧ ∀ v, (L.set i v).flatten = A ++ (v ++ B) := by
 obtain ⟨t, A, B, h1, h2, h3, h4, h5⟩ := h.split i hn
 obtain rfl : t = s := by rw [h1] at hs; exact Option.some.inj hs
 exact ⟨A, B, h3, by omega, h5⟩
section
variable {P : Program} {w0 : World} {F : Hl} {n : Nat} {ops : Array Oper} {Q : QQ} {D : List Deferred} {L : List (Nat × Value)} {H : List HP} {S : World → Prop}
end
end Leg
end

section
namespace Api
open Go Leg
theorem whole {cs : List Value} {n : Nat} (h : cs.length = n) : (cs.drop 0).take n = cs := by rw [List.drop_zero, List.take_of_length_le (by omega)]
theorem wwhole {cs vs : List Value} (h : cs.length = vs.length) : wr cs 0 vs = vs := wr_whole h
theorem vi_at {n : Nat} (v : Vector Int n) {i : Nat} (h : i < n) : (ints v.toList)[i]? = some (.int .i64 v[i]) := by simp [ints, h]
theorem vi_st {n : Nat} (v : Vector Int n) {i : Nat} (h : i < n) (x : Int) : (ints v.toList).set i (.int .i64 x) = ints (v.set i x h).toList := by rw [tl_set]; simp [ints, List.map_set]
theorem vs_eq {α : Type} (f : α → List Int) (l : List α) : ints (l.flatMap f) = (l.map fun x => ints (f x)).flatten := by
 induction l with
 | nil => rfl
 | cons x l ih => rw [List.flatMap_cons, ints_append, ih]; rfl
theorem vs_sl {α : Type} {m : Nat} {f : α → List Int} (hf : ∀ x, (f x).length = m) : ∀ l : List α, SL (l.map fun x => ints (f x)) (List.replicate l.length m)
 | [] => .nil
 | x :: l => .cons (by rw [ints_length, hf]) (vs_sl hf l)
theorem sum_rep (m : Nat) : ∀ (n i : Nat), i ≤ n → ((List.replicate n m).take i).sum = i * m := fun n i h => by
 rw [List.take_replicate, Nat.min_eq_left h, List.sum_replicate_nat]
theorem vs_sub {α : Type} {n m : Nat} {f : α → List Int} (hf : ∀ x, (f x).length = m) (v : Vector α n) {i k o : Nat} (j : Nat) (hi : i < n) (ho : o = i * m + j) (h : j + k ≤ m) {r : List Value} (hr : ((ints (f v[i])).drop j).take k = r) :
 ((ints (v.toList.flatMap f)).drop o).take k = r := by
 subst ho
 rw [← hr, vs_eq]
 have hl := (vs_sl hf v.toList)
 exact hl.sub i j k (by simp [hi]) (by simp [hi]) (by simp only [Vector.length_toList]; exact sum_rep m n i (by omega)) h
theorem vs_pt {α : Type} {n m : Nat} {f : α → List Int} (hf : ∀ x, (f x).length = m) (v : Vector α n) {i o : Nat} (j : Nat) (hi : i < n) (ho : o = i * m + j) (h : j < m) {r : Option Value} (hr : (ints (f v[i]))[j]? = r) :
 (ints (v.toList.flatMap f))[o]? = r := by
 subst ho
 rw [← hr, vs_eq]
 have hl := (vs_sl hf v.toList)
 exact hl.at i j (by simp [hi]) (by simp [hi]) (by simp only [Vector.length_toList]; exact sum_rep m n i (by omega)) h
theorem map_set_get {α : Type} {n : Nat} (v : Vector α n) {i : Nat} (hi : i < n) (g : α → List Value) (y : α) : (v.toList.map g).set i (g y) = (v.set i y hi).toList.map g := by rw [tl_set, List.map_set]
theorem vs_wr {α : Type} {n m : Nat} {f : α → List Int} (hf : ∀ x, (f x).length = m) (v : Vector α n) {i o : Nat} (j : Nat) {vs : List Value} {u' : α} (hi : i < n) (ho : o = i * m + j) (h : j + vs.length ≤ m) (hw : wr (ints (f v[i])) j vs = ints (f u')) :
 wr (ints (v.toList.flatMap f)) o vs = ints ((v.set i u' hi).toList.flatMap f) := by
 subst ho
 rw [vs_eq, vs_eq, ← map_set_get v hi (fun x => ints (f x)) u']
 have hl := (vs_sl hf v.toList)
 exact hl.putIn i j vs (by simp [hi]) (by simp [hi]) (by simp only [Vector.length_toList]; exact sum_rep m n i (by omega)) h hw
theorem vs_st {α : Type} {n m : Nat} {f : α → List Int} (hf : ∀ x, (f x).length = m) (v : Vector α n) {i o : Nat} (j : Nat) {x : Value} {u' : α} (hi : i < n) (ho : o = i * m + j) (h : j < m) (hw : (ints (f v[i])).set j x = ints (f u')) :
 (ints (v.toList.flatMap f)).set o x = ints ((v.set i u' hi).toList.flatMap f) := by
 subst ho
 rw [vs_eq, vs_eq, ← map_set_get v hi (fun x => ints (f x)) u', ← hw]
 have hl := (vs_sl hf v.toList)
 exact hl.set i j x (by simp [hi]) (by simp [hi]) (by simp only [Vector.length_toList]; exact sum_rep m n i (by omega)) h
theorem vi5_len (v : Vector Int 5) : (ints v.toList).length = 5 := by simp [ints]
theorem vs4_len (v : Vector CellT 4) : (ints (flats v.toList)).length = 28 := by simp [ints_length, flats_length]
theorem putSegs_nil {segs : List (List Value)} : putSegs segs [] = some segs := rfl
theorem putSegs_step {segs : List (List Value)} {i : Nat} {v s : List Value} {ps : List (Nat × List Value)} {res : List (List Value)} (hs : segs[i]? = some s) (hl : v.length = s.length) (h : putSegs (segs.set i v) ps = some res) : putSegs segs ((i, v) :: ps) = some res := by
 simp only [putSegs, hs, if_pos hl, h]
theorem vl_len (v : Vector CellT 4) : (flats v.toList).length = 28 := by simp [flats_length]
theorem CellT.sl (m : CellT) : SL [[Value.int .i64 m.inn], [Value.int .i64 m.out], ints m.given.toList] [1, 1, 5] := (.cons rfl (.cons rfl (.cons (by simp [ints]) .nil)))
theorem CellT.eq (m : CellT) : ints m.flat = [[Value.int .i64 m.inn], [Value.int .i64 m.out], ints m.given.toList].flatten := by simp [CellT.flat, ints]
theorem CellT.at_inn (m : CellT) {o : Nat} (ho : o = 0) : (ints m.flat)[o]? = some (Value.int .i64 m.inn) := by subst ho; rw [CellT.eq]; exact (CellT.sl m).at 0 0 rfl rfl rfl (by decide)
theorem CellT.set_inn (m : CellT) {o : Nat} (ho : o = 0) (x : Int) : (ints m.flat).set o (Value.int .i64 x) = ints ({ m with inn := x } : CellT).flat := by subst ho; rw [CellT.eq, CellT.eq]; exact (CellT.sl m).set 0 0 _ rfl rfl rfl (by decide)
theorem CellT.at_out (m : CellT) {o : Nat} (ho : o = 1) : (ints m.flat)[o]? = some (Value.int .i64 m.out) := by subst ho; rw [CellT.eq]; exact (CellT.sl m).at 1 0 rfl rfl rfl (by decide)
theorem CellT.set_out (m : CellT) {o : Nat} (ho : o = 1) (x : Int) : (ints m.flat).set o (Value.int .i64 x) = ints ({ m with out := x } : CellT).flat := by subst ho; rw [CellT.eq, CellT.eq]; exact (CellT.sl m).set 1 0 _ rfl rfl rfl (by decide)
theorem CellT.pt_given (m : CellT) {o : Nat} (j : Nat) (ho : o = 2 + j) (h : j < 5) {r : Option Value} (hr : (ints m.given.toList)[j]? = r) : (ints m.flat)[o]? = r := by subst ho; rw [← hr, CellT.eq]; exact (CellT.sl m).at 2 j rfl rfl rfl h
theorem CellT.sub_given (m : CellT) {o k : Nat} (j : Nat) (ho : o = 2 + j) (h : j + k ≤ 5) {r : List Value} (hr : ((ints m.given.toList).drop j).take k = r) : ((ints m.flat).drop o).take k = r := by subst ho; rw [← hr, CellT.eq]; exact (CellT.sl m).sub 2 j k rfl rfl rfl h
theorem CellT.st_given (m : CellT) {o : Nat} (j : Nat) {v : Value} {u' : Vector Int 5} (ho : o = 2 + j) (h : j < 5) (hw : (ints m.given.toList).set j v = ints u'.toList) : (ints m.flat).set o v = ints ({ m with given := u' } : CellT).flat := by subst ho; rw [CellT.eq, CellT.eq]; exact ((CellT.sl m).set 2 j v rfl rfl rfl h).trans (by rw [hw]; rfl)
theorem RowT.sl (m : RowT) : SL [[Value.int .i64 m.version], ints (flats m.cells.toList), ints m.heir.toList, ints (m.left.toList.flatMap fun v => flats v.toList)] [1, 28, 5, 140] := (.cons rfl (.cons (by simp [ints_length, flats_length]) (.cons (by simp [ints]) (.cons (by rw [ints_length, flat5_length]; simp) .nil))))
theorem RowT.eq (m : RowT) : ints m.flat = [[Value.int .i64 m.version], ints (flats m.cells.toList), ints m.heir.toList, ints (m.left.toList.flatMap fun v => flats v.toList)].flatten := by simp [RowT.flat, ints]
theorem RowT.at_version (m : RowT) {o : Nat} (ho : o = 0) : (ints m.flat)[o]? = some (Value.int .i64 m.version) := by subst ho; rw [RowT.eq]; exact (RowT.sl m).at 0 0 rfl rfl rfl (by decide)
theorem RowT.set_version (m : RowT) {o : Nat} (ho : o = 0) (x : Int) : (ints m.flat).set o (Value.int .i64 x) = ints ({ m with version := x } : RowT).flat := by subst ho; rw [RowT.eq, RowT.eq]; exact (RowT.sl m).set 0 0 _ rfl rfl rfl (by decide)
theorem RowT.pt_cells (m : RowT) {o : Nat} (j : Nat) (ho : o = 1 + j) (h : j < 28) {r : Option Value} (hr : (ints (flats m.cells.toList))[j]? = r) : (ints m.flat)[o]? = r := by subst ho; rw [← hr, RowT.eq]; exact (RowT.sl m).at 1 j rfl rfl rfl h
theorem RowT.sub_cells (m : RowT) {o k : Nat} (j : Nat) (ho : o = 1 + j) (h : j + k ≤ 28) {r : List Value} (hr : ((ints (flats m.cells.toList)).drop j).take k = r) : ((ints m.flat).drop o).take k = r := by subst ho; rw [← hr, RowT.eq]; exact (RowT.sl m).sub 1 j k rfl rfl rfl h
theorem RowT.st_cells (m : RowT) {o : Nat} (j : Nat) {v : Value} {u' : Vector CellT 4} (ho : o = 1 + j) (h : j < 28) (hw : (ints (flats m.cells.toList)).set j v = ints (flats u'.toList)) : (ints m.flat).set o v = ints ({ m with cells := u' } : RowT).flat := by subst ho; rw [RowT.eq, RowT.eq]; exact ((RowT.sl m).set 1 j v rfl rfl rfl h).trans (by rw [hw]; rfl)
theorem RowT.pt_heir (m : RowT) {o : Nat} (j : Nat) (ho : o = 29 + j) (h : j < 5) {r : Option Value} (hr : (ints m.heir.toList)[j]? = r) : (ints m.flat)[o]? = r := by subst ho; rw [← hr, RowT.eq]; exact (RowT.sl m).at 2 j rfl rfl rfl h
theorem RowT.sub_heir (m : RowT) {o k : Nat} (j : Nat) (ho : o = 29 + j) (h : j + k ≤ 5) {r : List Value} (hr : ((ints m.heir.toList).drop j).take k = r) : ((ints m.flat).drop o).take k = r := by subst ho; rw [← hr, RowT.eq]; exact (RowT.sl m).sub 2 j k rfl rfl rfl h
theorem RowT.sub_left (m : RowT) {o k : Nat} (j : Nat) (ho : o = 34 + j) (h : j + k ≤ 140) {r : List Value} (hr : ((ints (m.left.toList.flatMap fun v => flats v.toList)).drop j).take k = r) : ((ints m.flat).drop o).take k = r := by subst ho; rw [← hr, RowT.eq]; exact (RowT.sl m).sub 3 j k rfl rfl rfl h
theorem ViewT.sl (m : ViewT) : SL [[Value.int .i64 m.epoch], [Value.int .i64 m.members], ints m.heirs.toList] [1, 1, 5] := (.cons rfl (.cons rfl (.cons (by simp [ints]) .nil)))
theorem ViewT.eq (m : ViewT) : ints m.flat = [[Value.int .i64 m.epoch], [Value.int .i64 m.members], ints m.heirs.toList].flatten := by simp [ViewT.flat, ints]
theorem ViewT.len (m : ViewT) : (ints m.flat).length = 7 := by rw [ViewT.eq, (ViewT.sl m).len]; rfl
theorem ViewT.at_epoch (m : ViewT) {o : Nat} (ho : o = 0) : (ints m.flat)[o]? = some (Value.int .i64 m.epoch) := by subst ho; rw [ViewT.eq]; exact (ViewT.sl m).at 0 0 rfl rfl rfl (by decide)
theorem ViewT.at_members (m : ViewT) {o : Nat} (ho : o = 1) : (ints m.flat)[o]? = some (Value.int .i64 m.members) := by subst ho; rw [ViewT.eq]; exact (ViewT.sl m).at 1 0 rfl rfl rfl (by decide)
theorem ViewT.pt_heirs (m : ViewT) {o : Nat} (j : Nat) (ho : o = 2 + j) (h : j < 5) {r : Option Value} (hr : (ints m.heirs.toList)[j]? = r) : (ints m.flat)[o]? = r := by subst ho; rw [← hr, ViewT.eq]; exact (ViewT.sl m).at 2 j rfl rfl rfl h
theorem ViewT.sub_heirs (m : ViewT) {o k : Nat} (j : Nat) (ho : o = 2 + j) (h : j + k ≤ 5) {r : List Value} (hr : ((ints m.heirs.toList).drop j).take k = r) : ((ints m.flat).drop o).take k = r := by subst ho; rw [← hr, ViewT.eq]; exact (ViewT.sl m).sub 2 j k rfl rfl rfl h
theorem ChangeT.sl (m : ChangeT) : SL [[Value.int .i64 m.kind], [Value.int .i64 m.who], [Value.int .i64 m.heir]] [1, 1, 1] := (.cons rfl (.cons rfl (.cons rfl .nil)))
theorem ChangeT.eq (m : ChangeT) : ints m.flat = [[Value.int .i64 m.kind], [Value.int .i64 m.who], [Value.int .i64 m.heir]].flatten := by simp [ChangeT.flat, ints]
theorem ChangeT.len (m : ChangeT) : (ints m.flat).length = 3 := by rw [ChangeT.eq, (ChangeT.sl m).len]; rfl
theorem ChangeT.at_kind (m : ChangeT) {o : Nat} (ho : o = 0) : (ints m.flat)[o]? = some (Value.int .i64 m.kind) := by subst ho; rw [ChangeT.eq]; exact (ChangeT.sl m).at 0 0 rfl rfl rfl (by decide)
theorem ChangeT.at_who (m : ChangeT) {o : Nat} (ho : o = 1) : (ints m.flat)[o]? = some (Value.int .i64 m.who) := by subst ho; rw [ChangeT.eq]; exact (ChangeT.sl m).at 1 0 rfl rfl rfl (by decide)
theorem ChangeT.at_heir (m : ChangeT) {o : Nat} (ho : o = 2) : (ints m.flat)[o]? = some (Value.int .i64 m.heir) := by subst ho; rw [ChangeT.eq]; exact (ChangeT.sl m).at 2 0 rfl rfl rfl (by decide)
theorem BallotT.sl (m : BallotT) : SL [[Value.int .i64 m.round], [Value.int .i64 m.who]] [1, 1] := (.cons rfl (.cons rfl .nil))
theorem BallotT.eq (m : BallotT) : ints m.flat = [[Value.int .i64 m.round], [Value.int .i64 m.who]].flatten := by simp [BallotT.flat, ints]
theorem BallotT.len (m : BallotT) : (ints m.flat).length = 2 := by rw [BallotT.eq, (BallotT.sl m).len]; rfl
theorem MsgT.sl (m : MsgT) : SL [[Value.int .i64 m.kind], [Value.int .i64 m.whose], ints m.row.flat, [Value.int .i64 m.version], [Value.int .i64 m.epoch], ints m.ballot.flat, ints m.had.flat, ints m.change.flat, ints m.view.flat] [1, 1, 174, 1, 1, 2, 2, 3, 7] := (.cons rfl (.cons rfl (.cons (RowT.len _) (.cons rfl (.cons rfl (.cons (BallotT.len _) (.cons (BallotT.len _) (.cons (ChangeT.len _) (.cons (ViewT.len _) .nil)))))))))
theorem MsgT.eq (m : MsgT) : ints m.flat = [[Value.int .i64 m.kind], [Value.int .i64 m.whose], ints m.row.flat, [Value.int .i64 m.version], [Value.int .i64 m.epoch], ints m.ballot.flat, ints m.had.flat, ints m.change.flat, ints m.view.flat].flatten := by simp [MsgT.flat, ints]
theorem MsgT.len (m : MsgT) : (ints m.flat).length = 192 := by rw [MsgT.eq, (MsgT.sl m).len]; rfl
theorem MsgT.at_kind (m : MsgT) {o : Nat} (ho : o = 0) : (ints m.flat)[o]? = some (Value.int .i64 m.kind) := by subst ho; rw [MsgT.eq]; exact (MsgT.sl m).at 0 0 rfl rfl rfl (by decide)
theorem MsgT.at_whose (m : MsgT) {o : Nat} (ho : o = 1) : (ints m.flat)[o]? = some (Value.int .i64 m.whose) := by subst ho; rw [MsgT.eq]; exact (MsgT.sl m).at 1 0 rfl rfl rfl (by decide)
theorem MsgT.set_whose (m : MsgT) {o : Nat} (ho : o = 1) (x : Int) : (ints m.flat).set o (Value.int .i64 x) = ints ({ m with whose := x } : MsgT).flat := by subst ho; rw [MsgT.eq, MsgT.eq]; exact (MsgT.sl m).set 1 0 _ rfl rfl rfl (by decide)
theorem MsgT.sub_row (m : MsgT) {o k : Nat} (j : Nat) (ho : o = 2 + j) (h : j + k ≤ 174) {r : List Value} (hr : ((ints m.row.flat).drop j).take k = r) : ((ints m.flat).drop o).take k = r := by subst ho; rw [← hr, MsgT.eq]; exact (MsgT.sl m).sub 2 j k rfl rfl rfl h
theorem MsgT.wr_row_ (m : MsgT) {o : Nat} (j : Nat) {vs : List Value} {u' : RowT} (ho : o = 2 + j) (h : j + vs.length ≤ 174) (hw : wr (ints m.row.flat) j vs = ints u'.flat) : wr (ints m.flat) o vs = ints ({ m with row := u' } : MsgT).flat := by subst ho; rw [MsgT.eq, MsgT.eq]; exact (MsgT.sl m).putIn 2 j vs rfl rfl rfl h hw
theorem MsgT.at_version (m : MsgT) {o : Nat} (ho : o = 176) : (ints m.flat)[o]? = some (Value.int .i64 m.version) := by subst ho; rw [MsgT.eq]; exact (MsgT.sl m).at 3 0 rfl rfl rfl (by decide)
theorem MsgT.set_version (m : MsgT) {o : Nat} (ho : o = 176) (x : Int) : (ints m.flat).set o (Value.int .i64 x) = ints ({ m with version := x } : MsgT).flat := by subst ho; rw [MsgT.eq, MsgT.eq]; exact (MsgT.sl m).set 3 0 _ rfl rfl rfl (by decide)
theorem MsgT.at_epoch (m : MsgT) {o : Nat} (ho : o = 177) : (ints m.flat)[o]? = some (Value.int .i64 m.epoch) := by subst ho; rw [MsgT.eq]; exact (MsgT.sl m).at 4 0 rfl rfl rfl (by decide)
theorem MsgT.set_epoch (m : MsgT) {o : Nat} (ho : o = 177) (x : Int) : (ints m.flat).set o (Value.int .i64 x) = ints ({ m with epoch := x } : MsgT).flat := by subst ho; rw [MsgT.eq, MsgT.eq]; exact (MsgT.sl m).set 4 0 _ rfl rfl rfl (by decide)
theorem MsgT.sub_ballot (m : MsgT) {o k : Nat} (j : Nat) (ho : o = 178 + j) (h : j + k ≤ 2) {r : List Value} (hr : ((ints m.ballot.flat).drop j).take k = r) : ((ints m.flat).drop o).take k = r := by subst ho; rw [← hr, MsgT.eq]; exact (MsgT.sl m).sub 5 j k rfl rfl rfl h
theorem MsgT.wr_ballot_ (m : MsgT) {o : Nat} (j : Nat) {vs : List Value} {u' : BallotT} (ho : o = 178 + j) (h : j + vs.length ≤ 2) (hw : wr (ints m.ballot.flat) j vs = ints u'.flat) : wr (ints m.flat) o vs = ints ({ m with ballot := u' } : MsgT).flat := by subst ho; rw [MsgT.eq, MsgT.eq]; exact (MsgT.sl m).putIn 5 j vs rfl rfl rfl h hw
theorem MsgT.sub_had (m : MsgT) {o k : Nat} (j : Nat) (ho : o = 180 + j) (h : j + k ≤ 2) {r : List Value} (hr : ((ints m.had.flat).drop j).take k = r) : ((ints m.flat).drop o).take k = r := by subst ho; rw [← hr, MsgT.eq]; exact (MsgT.sl m).sub 6 j k rfl rfl rfl h
theorem MsgT.wr_had_ (m : MsgT) {o : Nat} (j : Nat) {vs : List Value} {u' : BallotT} (ho : o = 180 + j) (h : j + vs.length ≤ 2) (hw : wr (ints m.had.flat) j vs = ints u'.flat) : wr (ints m.flat) o vs = ints ({ m with had := u' } : MsgT).flat := by subst ho; rw [MsgT.eq, MsgT.eq]; exact (MsgT.sl m).putIn 6 j vs rfl rfl rfl h hw
theorem MsgT.sub_change (m : MsgT) {o k : Nat} (j : Nat) (ho : o = 182 + j) (h : j + k ≤ 3) {r : List Value} (hr : ((ints m.change.flat).drop j).take k = r) : ((ints m.flat).drop o).take k = r := by subst ho; rw [← hr, MsgT.eq]; exact (MsgT.sl m).sub 7 j k rfl rfl rfl h
theorem MsgT.wr_change_ (m : MsgT) {o : Nat} (j : Nat) {vs : List Value} {u' : ChangeT} (ho : o = 182 + j) (h : j + vs.length ≤ 3) (hw : wr (ints m.change.flat) j vs = ints u'.flat) : wr (ints m.flat) o vs = ints ({ m with change := u' } : MsgT).flat := by subst ho; rw [MsgT.eq, MsgT.eq]; exact (MsgT.sl m).putIn 7 j vs rfl rfl rfl h hw
theorem MsgT.sub_view (m : MsgT) {o k : Nat} (j : Nat) (ho : o = 185 + j) (h : j + k ≤ 7) {r : List Value} (hr : ((ints m.view.flat).drop j).take k = r) : ((ints m.flat).drop o).take k = r := by subst ho; rw [← hr, MsgT.eq]; exact (MsgT.sl m).sub 8 j k rfl rfl rfl h
theorem MsgT.wr_view_ (m : MsgT) {o : Nat} (j : Nat) {vs : List Value} {u' : ViewT} (ho : o = 185 + j) (h : j + vs.length ≤ 7) (hw : wr (ints m.view.flat) j vs = ints u'.flat) : wr (ints m.flat) o vs = ints ({ m with view := u' } : MsgT).flat := by subst ho; rw [MsgT.eq, MsgT.eq]; exact (MsgT.sl m).putIn 8 j vs rfl rfl rfl h hw
theorem RecT.sl (m : RecT) : SL [[Value.int .i64 m.kind], [Value.int .i64 m.whose], ints m.row.flat, [Value.int .i64 m.epoch], ints m.ballot.flat, ints m.change.flat, ints m.view.flat] [1, 1, 174, 1, 2, 3, 7] := (.cons rfl (.cons rfl (.cons (RowT.len _) (.cons rfl (.cons (BallotT.len _) (.cons (ChangeT.len _) (.cons (ViewT.len _) .nil)))))))
theorem RecT.eq (m : RecT) : ints m.flat = [[Value.int .i64 m.kind], [Value.int .i64 m.whose], ints m.row.flat, [Value.int .i64 m.epoch], ints m.ballot.flat, ints m.change.flat, ints m.view.flat].flatten := by simp [RecT.flat, ints]
theorem RecT.len (m : RecT) : (ints m.flat).length = 189 := by rw [RecT.eq, (RecT.sl m).len]; rfl
theorem RecT.at_kind (m : RecT) {o : Nat} (ho : o = 0) : (ints m.flat)[o]? = some (Value.int .i64 m.kind) := by subst ho; rw [RecT.eq]; exact (RecT.sl m).at 0 0 rfl rfl rfl (by decide)
theorem RecT.at_whose (m : RecT) {o : Nat} (ho : o = 1) : (ints m.flat)[o]? = some (Value.int .i64 m.whose) := by subst ho; rw [RecT.eq]; exact (RecT.sl m).at 1 0 rfl rfl rfl (by decide)
theorem RecT.sub_row (m : RecT) {o k : Nat} (j : Nat) (ho : o = 2 + j) (h : j + k ≤ 174) {r : List Value} (hr : ((ints m.row.flat).drop j).take k = r) : ((ints m.flat).drop o).take k = r := by subst ho; rw [← hr, RecT.eq]; exact (RecT.sl m).sub 2 j k rfl rfl rfl h
theorem RecT.at_epoch (m : RecT) {o : Nat} (ho : o = 176) : (ints m.flat)[o]? = some (Value.int .i64 m.epoch) := by subst ho; rw [RecT.eq]; exact (RecT.sl m).at 3 0 rfl rfl rfl (by decide)
theorem RecT.sub_ballot (m : RecT) {o k : Nat} (j : Nat) (ho : o = 177 + j) (h : j + k ≤ 2) {r : List Value} (hr : ((ints m.ballot.flat).drop j).take k = r) : ((ints m.flat).drop o).take k = r := by subst ho; rw [← hr, RecT.eq]; exact (RecT.sl m).sub 4 j k rfl rfl rfl h
theorem RecT.sub_change (m : RecT) {o k : Nat} (j : Nat) (ho : o = 179 + j) (h : j + k ≤ 3) {r : List Value} (hr : ((ints m.change.flat).drop j).take k = r) : ((ints m.flat).drop o).take k = r := by subst ho; rw [← hr, RecT.eq]; exact (RecT.sl m).sub 5 j k rfl rfl rfl h
theorem RecT.sub_view (m : RecT) {o k : Nat} (j : Nat) (ho : o = 182 + j) (h : j + k ≤ 7) {r : List Value} (hr : ((ints m.view.flat).drop j).take k = r) : ((ints m.flat).drop o).take k = r := by subst ho; rw [← hr, RecT.eq]; exact (RecT.sl m).sub 6 j k rfl rfl rfl h
theorem OpT.sl (m : OpT) : SL [[Value.int .i64 m.kind], [Value.int .i64 m.at'], [Value.int .i64 m.to'], [Value.int .i64 m.key], [Value.int .i64 m.n], ints m.change.flat, [Value.int .i64 m.mask], [Value.int .i64 m.torn], [Value.int .i64 m.cut]] [1, 1, 1, 1, 1, 3, 1, 1, 1] := (.cons rfl (.cons rfl (.cons rfl (.cons rfl (.cons rfl (.cons (ChangeT.len _) (.cons rfl (.cons rfl (.cons rfl .nil)))))))))
theorem OpT.eq (m : OpT) : ints m.flat = [[Value.int .i64 m.kind], [Value.int .i64 m.at'], [Value.int .i64 m.to'], [Value.int .i64 m.key], [Value.int .i64 m.n], ints m.change.flat, [Value.int .i64 m.mask], [Value.int .i64 m.torn], [Value.int .i64 m.cut]].flatten := by simp [OpT.flat, ints]
theorem OpT.len (m : OpT) : (ints m.flat).length = 11 := by rw [OpT.eq, (OpT.sl m).len]; rfl
theorem OpT.at_kind (m : OpT) {o : Nat} (ho : o = 0) : (ints m.flat)[o]? = some (Value.int .i64 m.kind) := by subst ho; rw [OpT.eq]; exact (OpT.sl m).at 0 0 rfl rfl rfl (by decide)
theorem OpT.at_at' (m : OpT) {o : Nat} (ho : o = 1) : (ints m.flat)[o]? = some (Value.int .i64 m.at') := by subst ho; rw [OpT.eq]; exact (OpT.sl m).at 1 0 rfl rfl rfl (by decide)
theorem OpT.at_to' (m : OpT) {o : Nat} (ho : o = 2) : (ints m.flat)[o]? = some (Value.int .i64 m.to') := by subst ho; rw [OpT.eq]; exact (OpT.sl m).at 2 0 rfl rfl rfl (by decide)
theorem OpT.at_key (m : OpT) {o : Nat} (ho : o = 3) : (ints m.flat)[o]? = some (Value.int .i64 m.key) := by subst ho; rw [OpT.eq]; exact (OpT.sl m).at 3 0 rfl rfl rfl (by decide)
theorem OpT.at_n (m : OpT) {o : Nat} (ho : o = 4) : (ints m.flat)[o]? = some (Value.int .i64 m.n) := by subst ho; rw [OpT.eq]; exact (OpT.sl m).at 4 0 rfl rfl rfl (by decide)
theorem OpT.pt_change (m : OpT) {o : Nat} (j : Nat) (ho : o = 5 + j) (h : j < 3) {r : Option Value} (hr : (ints m.change.flat)[j]? = r) : (ints m.flat)[o]? = r := by subst ho; rw [← hr, OpT.eq]; exact (OpT.sl m).at 5 j rfl rfl rfl h
theorem OpT.wr_change_ (m : OpT) {o : Nat} (j : Nat) {vs : List Value} {u' : ChangeT} (ho : o = 5 + j) (h : j + vs.length ≤ 3) (hw : wr (ints m.change.flat) j vs = ints u'.flat) : wr (ints m.flat) o vs = ints ({ m with change := u' } : OpT).flat := by subst ho; rw [OpT.eq, OpT.eq]; exact (OpT.sl m).putIn 5 j vs rfl rfl rfl h hw
theorem OpT.at_mask (m : OpT) {o : Nat} (ho : o = 8) : (ints m.flat)[o]? = some (Value.int .i64 m.mask) := by subst ho; rw [OpT.eq]; exact (OpT.sl m).at 6 0 rfl rfl rfl (by decide)
theorem OpT.set_mask (m : OpT) {o : Nat} (ho : o = 8) (x : Int) : (ints m.flat).set o (Value.int .i64 x) = ints ({ m with mask := x } : OpT).flat := by subst ho; rw [OpT.eq, OpT.eq]; exact (OpT.sl m).set 6 0 _ rfl rfl rfl (by decide)
theorem OpT.at_torn (m : OpT) {o : Nat} (ho : o = 9) : (ints m.flat)[o]? = some (Value.int .i64 m.torn) := by subst ho; rw [OpT.eq]; exact (OpT.sl m).at 7 0 rfl rfl rfl (by decide)
theorem OpT.set_torn (m : OpT) {o : Nat} (ho : o = 9) (x : Int) : (ints m.flat).set o (Value.int .i64 x) = ints ({ m with torn := x } : OpT).flat := by subst ho; rw [OpT.eq, OpT.eq]; exact (OpT.sl m).set 7 0 _ rfl rfl rfl (by decide)
theorem OpT.set_cut (m : OpT) {o : Nat} (ho : o = 10) (x : Int) : (ints m.flat).set o (Value.int .i64 x) = ints ({ m with cut := x } : OpT).flat := by subst ho; rw [OpT.eq, OpT.eq]; exact (OpT.sl m).set 8 0 _ rfl rfl rfl (by decide)
theorem ReplyT.sl (m : ReplyT) : SL [[Value.int .i64 m.op], [Value.int .i64 m.err], [Value.int .i64 m.value]] [1, 1, 1] := (.cons rfl (.cons rfl (.cons rfl .nil)))
theorem ReplyT.eq (m : ReplyT) : ints m.flat = [[Value.int .i64 m.op], [Value.int .i64 m.err], [Value.int .i64 m.value]].flatten := by simp [ReplyT.flat, ints]
theorem ReplyT.len (m : ReplyT) : (ints m.flat).length = 3 := by rw [ReplyT.eq, (ReplyT.sl m).len]; rfl
end Api
end

section
namespace Codec
open Go Leg Api
theorem u8_ofNat_toNat (c : UInt8) : UInt8.ofNat c.toNat = c := by simp
theorem parse_enc : ∀ (bs : List UInt8) (k acc m : Nat) (r : List UInt8), k ≤ 9 → parse k acc bs = some (m, r) → ∃ p, m = acc + p * 2 ^ (7 * k) ∧ bs = encU p ++ r ∧ (0 < k → 0 < p) ∧ p < 2 ^ (7 * (9 - k))
 | [], k, acc, m, r, _, h => by simp [parse] at h
 | c :: cs, k, acc, m, r, hk, h => by
  have hc : c.toNat < 256 := c.toNat_lt
  simp only [parse] at h
  split at h
  · cases h
  · rename_i h9
    split at h
    · rename_i h128
      obtain ⟨p, h1, h2, h3, h4⟩ := parse_enc cs (k + 1) _ m r (by omega) h
      have hp := h3 (by omega)
      refine ⟨c.toNat % 128 + 128 * p, ?_, ?_, fun _ => by omega, ?_⟩
      · rw [h1, show 7 * (k + 1) = 7 * k + 7 by omega, Nat.pow_add, Nat.add_mul, Nat.add_assoc]
        congr 2
        rw [Nat.mul_comm 128 p, Nat.mul_assoc, Nat.mul_comm 128]
      · rw [encU_hi (by omega), show (c.toNat % 128 + 128 * p) % 128 + 128 = c.toNat by omega, show (c.toNat % 128 + 128 * p) / 128 = p by omega, u8_ofNat_toNat, h2]; rfl
      · rw [show 7 * (9 - k) = 7 * (9 - (k + 1)) + 7 by omega, Nat.pow_add]; omega
    · rename_i h128
      split at h
      · cases h
      · rename_i h0
        simp only [Option.some.injEq, Prod.mk.injEq] at h
        obtain ⟨rfl, rfl⟩ := h
        refine ⟨c.toNat, by rw [show c.toNat % 128 = c.toNat by omega], by rw [encU_lo (by omega), u8_ofNat_toNat]; rfl, fun _ => by omega, ?_⟩
        have : 2 ^ 7 ≤ 2 ^ (7 * (9 - k)) := Nat.pow_le_pow_right (by decide) (by omega)
        omega
theorem enc_parse : ∀ (j p k acc : Nat) (r : List UInt8), k + j = 8 → p < 2 ^ (7 * (j + 1)) → (0 < k → 0 < p) → parse k acc (encU p ++ r) = some (acc + p * 2 ^ (7 * k), r)
 | j, p, k, acc, r, hj, hp, h0 => by
  by_cases h : p < 128
  · rw [encU_lo h]
    simp only [List.cons_append, List.nil_append, parse]
    have e : (UInt8.ofNat p).toNat = p := by simp; omega
    rw [e, if_neg (by omega), if_neg (by omega), if_neg (by omega), show p % 128 = p by omega]
  · rw [encU_hi h]
    simp only [List.cons_append, parse]
    have e : (UInt8.ofNat (p % 128 + 128)).toNat = p % 128 + 128 := by simp; omega
    rw [e, if_neg (by omega), if_pos (by omega)]
    match j, hj, hp with
    | 0, _, hp => simp at hp; omega
    | j + 1, hj, hp =>
     have hp' : p / 128 < 2 ^ (7 * (j + 1)) := by
      rw [show 7 * (j + 1 + 1) = 7 * (j + 1) + 7 by omega, Nat.pow_add] at hp; omega
     rw [enc_parse j (p / 128) (k + 1) _ r (by omega) hp' (fun _ => by omega)]
     congr 2
     rw [show 7 * (k + 1) = 7 * k + 7 by omega, Nat.pow_add, show (p % 128 + 128) % 128 = p % 128 by omega]
     have e2 : p = p % 128 + 128 * (p / 128) := by omega
     conv => rhs; rw [e2, Nat.add_mul]
     rw [Nat.add_assoc]
     congr 2
     rw [Nat.mul_comm 128, Nat.mul_assoc, Nat.mul_comm 128]
theorem numP_spec {bs r : List UInt8} {n : Int} (h : numP bs = some (n, r)) : 0 ≤ n ∧ n < 9223372036854775808 ∧ bs = encN n ++ r := by
 simp only [numP] at h
 split at h
 · cases h
 · rename_i m r' hm
   simp only [Option.some.injEq, Prod.mk.injEq] at h
   obtain ⟨rfl, rfl⟩ := h
   obtain ⟨p, h1, h2, _, h4⟩ := parse_enc bs 0 0 m r' (by omega) hm
   simp at h1
   subst h1
   refine ⟨by omega, by simp at h4; omega, ?_⟩
   rw [h2, encN]
   congr 2
   simp at h4
   omega
theorem numP_encN {n : Int} (h0 : 0 ≤ n) (h1 : n < 9223372036854775808) (r : List UInt8) : numP (encN n ++ r) = some (n, r) := by
 have hp := enc_parse 8 (n % 18446744073709551616).toNat 0 0 r rfl (by simp; omega) (by omega)
 simp at hp
 simp only [numP, encN]
 rw [hp]
 simp
 omega
end Codec
end

/-
  The calls of DiskRuns: what comes in, how a disk goes on.
-/
import Derived.Test.YtocdameafihnaaaLaw6P
import Derived.Test.YtocdameafihnaaaLegQ
import Derived.Test.YtocdameafihnaaaLegR
namespace Dsk
open Go Go.ChangeShapes Leg Codec Api
structure CallT where
  kind : Int
  at' : Int
  n : Int
  mask : Int
  data : List UInt8
def EC (us : List Value) (c : CallT) (F : Hl) : Prop := ∃ u, us = [.int .i64 c.kind, .int .i64 c.at', .int .i64 c.n, .int .i64 c.mask, u] ∧ IsW u c.data F ∧ c.n ≤ 9223372036854775807
section
variable {P : Program} {W : World} {H : Type} {enc : TypeId × Value → H} {B0 : Nat} {spare : Nat → Bool} {held : Bool}
theorem call_in {t ti ts e : TypeId} {fuel : Nat} {cs : List Value} {x : DataW H × List MemPlace} {f0 f1 f2 f3 f4 : Field} (ht : P.underlying t = some (.struct #[f0, f1, f2, f3, f4]))
    (hc : P.cellsOf t = 5 ∧ P.cellsOf ti = 1 ∧ P.cellsOf ts = 1 ∧ P.cellsOf e = 1) (ho : (f0.offset, f1.offset, f2.offset, f3.offset, f4.offset) = (0, 1, 2, 3, 4) ∧ (f0.type, f1.type, f2.type, f3.type, f4.type) = (ti, ti, ti, ti, ts))
    (hi : P.underlying ti = some (.int .i64)) (hs : P.underlying ts = some (.slice e)) (he : P.underlying e = some (.int .u8)) (h : DataW.trod enc P W B0 spare held fuel t cs = some x) : ∃ c, EC cs c (hp W) := by
  obtain ⟨xs, m, _, _, hl, hxl, hxi⟩ := DataW.trod_struct ht h
  obtain ⟨c1, c2, c3, c4⟩ := hc
  simp only [Prod.mk.injEq] at ho
  obtain ⟨⟨o0, o1, o2, o3, o4⟩, t0, t1, t2, t3, t4⟩ := ho
  rw [c1] at hl
  match cs, hl with
  | [v0, v1, v2, v3, v4], _ =>
    have g : ∀ (i : Nat) (f : Field), #[f0, f1, f2, f3, f4][i]? = some f → ∃ y, DataW.trod enc P W B0 spare held m f.type (([v0, v1, v2, v3, v4].drop f.offset).take (P.cellsOf f.type)) = some y := fun i f hf => by
      have h1 := hxi i f hf
      have hlt := (Array.getElem?_eq_some_iff.1 hf).1
      rw [List.getElem?_eq_getElem (by omega)] at h1
      exact ⟨_, h1⟩
    obtain ⟨y0, e0⟩ := g 0 f0 rfl
    obtain ⟨y1, e1⟩ := g 1 f1 rfl
    obtain ⟨y2, e2⟩ := g 2 f2 rfl
    obtain ⟨y3, e3⟩ := g 3 f3 rfl
    obtain ⟨y4, e4⟩ := g 4 f4 rfl
    rw [o0, t0, c2] at e0
    rw [o1, t1, c2] at e1
    rw [o2, t2, c2] at e2
    rw [o3, t3, c2] at e3
    rw [o4, t4, c3] at e4
    obtain ⟨n0, q0, _, w0⟩ := DataW.trod_int hi e0
    obtain ⟨n1, q1, _, w1⟩ := DataW.trod_int hi e1
    obtain ⟨n2, q2, _, w2⟩ := DataW.trod_int hi e2
    obtain ⟨n3, q3, _, w3⟩ := DataW.trod_int hi e3
    obtain ⟨bs, u, q4, hu⟩ := bytesT_in hs he c4 e4
    simp at q0 q1 q2 q3 q4
    refine ⟨⟨n0, n1, n2, n3, bs⟩, u, by simp [q0, q1, q2, q3, q4], hu, ?_⟩
    have m2 : IntKind.i64.max = 9223372036854775807 := by decide
    simp only [Lit.wf, m2, Bool.and_eq_true, decide_eq_true_eq] at w2
    exact w2.2
end
theorem EC.more (us : List Value) (x : CallT) (F g : Hl) (h : EC us x F) (d : Dj g F) : EC us x (jn g F) := let ⟨u, e, i, j⟩ := h; ⟨u, e, i.more d, j⟩
/-- What is left till a disk goes down; below 0: it does not. -/
def leftD (D : DS) : Int := if D.ar = true then D.lf else -1
def DS.downed (D : DS) : DS := { D with dn := true }
def DS.synced (D : DS) : DS := { D with s := layN D.s D.ws D.ws.length, ws := [] }
def DS.put (D : DS) (at' : Int) (bs : List UInt8) : DS := { D with ws := D.ws ++ [(at', padS bs)], lf := if D.ar = true then D.lf - 1 else D.lf, dn := false }
section
variable {D : DS} (hD : D.Ok) {at' : Int} {bs : List UInt8}
theorem write_arg (h : at' < 0 ∨ 2048 ≤ at' ∨ 64 < bs.length) : D.write at' bs = (5, D) := by rw [DS.write, if_pos h]
theorem write_down (h : ¬ (at' < 0 ∨ 2048 ≤ at' ∨ 64 < bs.length)) (h2 : D.dn = true ∨ leftD D = 0) : D.write at' bs = (4, D.downed) := by
  rw [DS.write, if_neg h, if_pos (h2.imp id fun h => ?_)]
  · rfl
  · unfold leftD at h
    split at h
    · exact ⟨by assumption, h⟩
    · omega
theorem write_put (h : ¬ (at' < 0 ∨ 2048 ≤ at' ∨ 64 < bs.length)) (h2 : D.dn = false) (h3 : leftD D ≠ 0) : D.write at' bs = (0, D.put at' bs) := by
  rw [DS.write, if_neg h, if_neg]
  · rfl
  · rintro (h | ⟨h, h4⟩)
    · rw [h2] at h; cases h
    · exact h3 (by rw [leftD, if_pos h, h4])
theorem sync_down (h : D.dn = true) : D.sync = (4, D) := by rw [DS.sync, if_pos h]
theorem sync_up (h : D.dn = false) : D.sync = (0, D.synced) := by rw [DS.sync, if_neg (by simp [h])]; rfl
include hD
theorem downed_ok : D.downed.Ok := ⟨hD.s, hD.ws, hD.lf⟩
theorem synced_ok : D.synced.Ok := ⟨hD.s.lay hD.ws _ (Nat.le_refl _), whole_nil, hD.lf⟩
theorem put_ok (h : ¬ (at' < 0 ∨ 2048 ≤ at' ∨ 64 < bs.length)) (h2 : D.dn = false) (h3 : leftD D ≠ 0) : (D.put at' bs).Ok := by
  have := DS.write_ok hD at' bs
  rwa [write_put h h2 h3] at this
omit hD in
theorem left_put : leftD (D.put at' bs) = if D.ar = true then D.lf - 1 else -1 := by
  simp only [leftD, DS.put]; split <;> rfl
omit hD in
theorem left_pos (h : leftD D > 0) : leftD D - 1 = leftD (D.put at' bs) := by
  rw [left_put]; unfold leftD at *
  split at h
  · rename_i h1; rw [if_pos h1, if_pos h1]
  · omega
theorem left_neg (h : ¬ leftD D > 0) (h2 : leftD D ≠ 0) : leftD D = leftD (D.put at' bs) := by
  rw [left_put]; unfold leftD at *
  have := hD.lf
  split at h
  · rename_i h1; rw [if_pos h1] at h2; omega
  · rename_i h1; rw [if_neg h1, if_neg h1]
omit hD in
theorem left_neg' (hD : D.Ok) (h : ¬ leftD D > 0) (h2 : ¬ leftD D = 0) : leftD D = leftD (D.put at' bs) := left_neg hD h h2
end
theorem zs_len : zs.length = 64 := rfl
theorem left_le {D : DS} (hD : D.Ok) : leftD D ≤ 9223372036854775807 := by
  unfold leftD; have := hD.lf; split <;> omega
theorem put_wcell {at' : Int} {b : List UInt8} (h : b.length = 64) : putSegs [[.int .i64 0], u8s zs] [(0, [.int .i64 at']), (1, u8s b)] = some [[.int .i64 at'], u8s b] := by
  have e : (u8s b).length = (u8s zs).length := by rw [u8s_length, u8s_length, h]; rfl
  simp only [putSegs, List.getElem?_cons_zero, List.getElem?_cons_succ, List.length_cons, List.length_nil, if_true, List.set_cons_zero, List.set_cons_succ]
  rw [if_pos e]
theorem torn_copy2 {old new : Sec} {c : Nat} (hc : c ≤ 64) (h1 : old.length = 64) (h2 : new.length = 64) : wr (u8s old) 0 ((u8s new).take (min 64 c)) = u8s (tornS old new c) := by
  rw [show min 64 c = c by omega, wr, List.take_zero, List.nil_append, List.length_take, u8s_length, Nat.zero_add, show min c new.length = c by omega]
  simp [u8s, tornS, List.map_take, List.map_drop]
theorem tmod5 (q : Int) (h : -5 < q) (h2 : q < 5) : (q + 5).tmod 5 = (q + 5) % 5 := Int.tmod_eq_emod_of_nonneg (by omega)
theorem tmod5_lt (k : Int) : ∃ q, k.tmod 5 = q ∧ -5 < q ∧ q < 5 := ⟨_, rfl, by have := Int.lt_tmod_of_pos k (b := 5) (by decide); omega, Int.tmod_lt_of_pos k (by decide)⟩
end Dsk

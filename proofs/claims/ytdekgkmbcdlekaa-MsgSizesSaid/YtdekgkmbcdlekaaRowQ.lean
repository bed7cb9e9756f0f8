/-
  Views stay such that may be, whatever changes are made: in plain words.
-/
import Derived.Test.YtdekgkmbcdlekaaMsgR
namespace Api
open Go Leg Codec

theorem leaveH_rng {c : ChangeT} {i : Nat} {h : Int} (hh : 0 ≤ h ∧ h ≤ 5) (hc : 0 ≤ c.heir ∧ c.heir < 5) : 0 ≤ leaveH c i h ∧ leaveH c i h ≤ 5 := by
  unfold leaveH; split <;> omega
theorem leaveV_get (v : ViewT) (c : ChangeT) (i : Nat) (h : i < 5) : (leaveV v c)[i] = leaveH c i v.heirs[i] := by simp [leaveV]
theorem Rng.zeros {v : ViewT} (h : v.heirs = #v[0, 0, 0, 0, 0]) : Rng v := fun i hi => by
  have : v.heirs[i] = 0 := by
    rw [show v.heirs[i] = (#v[0, 0, 0, 0, 0] : Vector Int 5)[i] from by rw [h]]
    match i, hi with | 0, _ | 1, _ | 2, _ | 3, _ | 4, _ => rfl
  omega
theorem Rng.zero : Rng ViewT.zero := Rng.zeros rfl
theorem Rng.next {v : ViewT} (h : Rng v) (c : ChangeT) : Rng (nextV v c).1 := by
  unfold nextV
  split
  · exact Rng.zero
  rename_i h1
  have hm : 0 ≤ c.heir ∧ c.heir < 5 := by
    simp only [Bool.or_eq_true, Bool.not_eq_true', not_or, Bool.not_eq_false] at h1
    exact of_decide_eq_true h1.2
  split
  · split
    · exact Rng.zero
    · exact h
  · split
    · split
      · exact Rng.zero
      · exact fun i hi => by show 0 ≤ (leaveV v c)[i] ∧ (leaveV v c)[i] ≤ 5; rw [leaveV_get v c i hi]; exact leaveH_rng (h i hi) hm
    · exact Rng.zero
theorem Rng.first : Rng firstV := Rng.zeros rfl
def stepV (v : ViewT) (c : ChangeT) : ViewT := if (nextV v c).2 = 0 then (nextV v c).1 else v
theorem Rng.step {v : ViewT} (h : Rng v) (c : ChangeT) : Rng (stepV v c) := by unfold stepV; split; exact h.next c; exact h
theorem or_bits : ∀ (m : Fin 32) (w u : Fin 5), bitB (orI .i64 ((m.val : Nat) : Int) (2 ^ w.val)) ((u.val : Nat) : Int) = (bitB ((m.val : Nat) : Int) ((u.val : Nat) : Int) || decide (u = w)) ∧ 0 ≤ orI .i64 ((m.val : Nat) : Int) (2 ^ w.val) ∧ orI .i64 ((m.val : Nat) : Int) (2 ^ w.val) < 32 := by decide +kernel
theorem andNot_bits : ∀ (m : Fin 32) (w u : Fin 5), bitB (andNotI .i64 ((m.val : Nat) : Int) (2 ^ w.val)) ((u.val : Nat) : Int) = (bitB ((m.val : Nat) : Int) ((u.val : Nat) : Int) && decide (u ≠ w)) ∧ 0 ≤ andNotI .i64 ((m.val : Nat) : Int) (2 ^ w.val) ∧ andNotI .i64 ((m.val : Nat) : Int) (2 ^ w.val) < 32 := by decide +kernel
structure GoodV (v : ViewT) : Prop where
  epoch : 1 ≤ v.epoch
  mem : 1 ≤ v.members ∧ v.members < 32
  ok : ∀ (i : Nat) (h : i < 5), okH v v.heirs[i] i = true
  rng : Rng v
theorem GoodV.right {v : ViewT} (h : GoodV v) : rightV v = true := by
  unfold rightV
  rw [Bool.and_eq_true, decide_eq_true_iff, decide_eq_true_iff]
  exact ⟨⟨h.epoch, h.mem⟩, h.ok⟩
theorem GoodV.of {v : ViewT} (h : rightV v = true) (hr : Rng v) : GoodV v := by
  unfold rightV at h
  rw [Bool.and_eq_true, decide_eq_true_iff, decide_eq_true_iff] at h
  exact ⟨h.1.1, h.1.2, h.2, hr⟩
theorem memb_or {v v' : ViewT} {w u : Int} (hm : 0 ≤ v.members ∧ v.members < 32) (hw : 0 ≤ w ∧ w < 5) (e : v'.members = orI .i64 v.members (2 ^ w.toNat)) : memb v' u = (memb v u || (machB u && decide (u = w))) ∧ 0 ≤ v'.members ∧ v'.members < 32 := by
  obtain ⟨m, hm', e1⟩ : ∃ m : Nat, m < 32 ∧ v.members = (m : Int) := ⟨v.members.toNat, by omega, by omega⟩
  have hb := or_bits ⟨m, hm'⟩ ⟨w.toNat, by omega⟩
  simp only at hb
  rw [← e1, ← e] at hb
  refine ⟨?_, (hb ⟨0, by decide⟩).2⟩
  by_cases hu : 0 ≤ u ∧ u < 5
  · have h1 := (hb ⟨u.toNat, by omega⟩).1
    simp only at h1
    rw [show ((u.toNat : Nat) : Int) = u by omega] at h1
    have hmu : machB u = true := decide_eq_true hu
    simp only [memb, hmu, Bool.true_and, h1, Fin.mk.injEq]
    congr 1
    rw [decide_eq_decide]; omega
  · have hmu : machB u = false := decide_eq_false hu
    simp [memb, hmu]
theorem memb_andNot {v v' : ViewT} {w u : Int} (hm : 0 ≤ v.members ∧ v.members < 32) (hw : 0 ≤ w ∧ w < 5) (e : v'.members = andNotI .i64 v.members (2 ^ w.toNat)) : memb v' u = (memb v u && decide (u ≠ w)) ∧ 0 ≤ v'.members ∧ v'.members < 32 := by
  obtain ⟨m, hm', e1⟩ : ∃ m : Nat, m < 32 ∧ v.members = (m : Int) := ⟨v.members.toNat, by omega, by omega⟩
  have hb := andNot_bits ⟨m, hm'⟩ ⟨w.toNat, by omega⟩
  simp only at hb
  rw [← e1, ← e] at hb
  refine ⟨?_, (hb ⟨0, by decide⟩).2⟩
  by_cases hu : 0 ≤ u ∧ u < 5
  · have h1 := (hb ⟨u.toNat, by omega⟩).1
    simp only at h1
    rw [show ((u.toNat : Nat) : Int) = u by omega] at h1
    have hmu : machB u = true := decide_eq_true hu
    simp only [memb, hmu, Bool.true_and, h1, ne_eq, Fin.mk.injEq]
    congr 1
    rw [decide_eq_decide]; omega
  · have hmu : machB u = false := decide_eq_false hu
    simp [memb, hmu]
theorem mem_pos {v : ViewT} {u : Int} (h0 : 0 ≤ v.members) (h : memb v u = true) : 1 ≤ v.members := by
  have hb : bitB v.members u = true := by simp only [memb, Bool.and_eq_true] at h; exact h.2
  have : v.members ≠ 0 := fun e => by
    rw [e] at hb
    have := of_decide_eq_true hb
    rw [Int.zero_fdiv] at this; omega
  omega
theorem GoodV.step {v : ViewT} (g : GoodV v) (he : v.epoch < 9223372036854775807) (c : ChangeT) : GoodV (stepV v c) ∧ v.epoch ≤ (stepV v c).epoch ∧ (stepV v c).epoch ≤ v.epoch + 1 := by
  have hw1 : IntKind.i64.wrap (v.epoch + 1) = v.epoch + 1 := wrap_i64 (by have := g.epoch; omega) (by omega)
  by_cases hz : (nextV v c).2 = 0
  rotate_left
  · rw [stepV, if_neg hz]; exact ⟨g, by omega, by omega⟩
  rw [stepV, if_pos hz]
  have hr := g.rng.next c
  unfold nextV at hz hr ⊢
  split at hz
  · exact absurd hz (by decide)
  rename_i h1
  rw [if_neg h1] at hr ⊢
  have hm : machB c.who = true ∧ machB c.heir = true := by
    simp only [Bool.or_eq_true, Bool.not_eq_true', not_or, Bool.not_eq_false] at h1; exact h1
  have hwho := of_decide_eq_true hm.1
  have hheir := of_decide_eq_true hm.2
  split at hz
  · rename_i h2
    rw [if_pos h2] at hr ⊢
    split at hz
    · exact absurd hz (by decide)
    rename_i h3
    rw [if_neg h3] at hr ⊢
    simp only [Bool.or_eq_true, not_or, Bool.not_eq_true] at h3
    have hb := fun u => memb_or (v := v) (v' := ⟨IntKind.i64.wrap (v.epoch + 1), orI .i64 v.members (2 ^ c.who.toNat), v.heirs⟩) (u := u) ⟨by have := g.mem; omega, g.mem.2⟩ hwho rfl
    have hh0 : ∀ (i : Nat) (h : i < 5), (i : Int) = c.who → v.heirs[i] = 0 := fun i h e => by
      have := h3.1
      rw [heirV, dif_pos hwho] at this
      have e2 : c.who.toNat = i := by omega
      simp only [e2] at this
      have hr := g.rng i h
      split at this
      · omega
      · cases this
    refine ⟨⟨by show 1 ≤ IntKind.i64.wrap (v.epoch + 1); rw [hw1]; have := g.epoch; omega, ⟨mem_pos (u := c.who) (hb 0).2.1 (by rw [(hb c.who).1, hm.1]; simp), (hb 0).2.2⟩, fun i h => ?_, hr⟩, by show v.epoch ≤ IntKind.i64.wrap (v.epoch + 1); rw [hw1]; omega, by show IntKind.i64.wrap (v.epoch + 1) ≤ _; rw [hw1]; omega⟩
    have ho := g.ok i h
    unfold okH at ho ⊢
    rw [Bool.or_eq_true, decide_eq_true_iff, Bool.and_eq_true] at ho ⊢
    rcases ho with ho | ⟨h4, h5⟩
    · exact .inl ho
    · by_cases q : (i : Int) = c.who
      · exact .inl (hh0 i h q)
      · refine .inr ⟨by rw [(hb _).1]; show (memb v (v.heirs[i] - 1) || _) = true; rw [h4]; rfl, ?_⟩
        rw [(hb _).1, decide_eq_false q, Bool.and_false, Bool.or_false]; exact h5
  · rename_i h2
    rw [if_neg h2] at hr ⊢
    split at hz
    rotate_left
    · exact absurd hz (by decide)
    rename_i h3
    rw [if_pos h3] at hr ⊢
    split at hz
    · exact absurd hz (by decide)
    rename_i h4
    rw [if_neg h4] at hr ⊢
    simp only [Bool.or_eq_true, Bool.not_eq_true', not_or, Bool.not_eq_false, decide_eq_true_iff] at h4
    obtain ⟨⟨m1, m2⟩, m3⟩ := h4
    have hb := fun u => memb_andNot (v := v) (v' := ⟨IntKind.i64.wrap (v.epoch + 1), andNotI .i64 v.members (2 ^ c.who.toNat), leaveV v c⟩) (u := u) ⟨by have := g.mem; omega, g.mem.2⟩ hwho rfl
    refine ⟨⟨by show 1 ≤ IntKind.i64.wrap (v.epoch + 1); rw [hw1]; have := g.epoch; omega, ⟨mem_pos (u := c.heir) (hb 0).2.1 (by rw [(hb c.heir).1, m2]; simpa using m3), (hb 0).2.2⟩, fun i h => ?_, hr⟩, by show v.epoch ≤ IntKind.i64.wrap (v.epoch + 1); rw [hw1]; omega, by show IntKind.i64.wrap (v.epoch + 1) ≤ _; rw [hw1]; omega⟩
    have ho := g.ok i h
    show okH _ ((leaveV v c)[i]) i = true
    rw [leaveV_get v c i h]
    unfold okH at ho ⊢
    rw [Bool.or_eq_true, decide_eq_true_iff, Bool.and_eq_true] at ho ⊢
    unfold leaveH
    by_cases q : (i : Int) = c.who ∨ v.heirs[i] = c.who + 1
    · rw [if_pos q]
      refine .inr ⟨by rw [(hb _).1, show c.heir + 1 - 1 = c.heir by omega, m2]; simpa using m3, ?_⟩
      rw [(hb _).1]
      rcases q with q | q
      · rw [q]; simp
      · rcases ho with ho | ⟨_, h5⟩
        · omega
        · rw [Bool.not_eq_true'] at h5; rw [h5]; rfl
    · rw [if_neg q]
      rcases ho with ho | ⟨h5, h6⟩
      · exact .inl ho
      · refine .inr ⟨by rw [(hb _).1, h5]; simp; omega, ?_⟩
        rw [Bool.not_eq_true'] at h6
        rw [(hb _).1, h6]; rfl
/-- The view behind changes. -/
theorem behind_eq (l : List ChangeT) : behindV l = l.foldl stepV firstV := rfl
theorem GoodV.first : GoodV firstV := ⟨by decide, by decide, fun i h => by match i, h with | 0, _ | 1, _ | 2, _ | 3, _ | 4, _ => rfl, Rng.first⟩
theorem good_fold : ∀ (l : List ChangeT) (v : ViewT), GoodV v → v.epoch + l.length < 9223372036854775807 → GoodV (l.foldl stepV v) ∧ (l.foldl stepV v).epoch ≤ v.epoch + l.length
  | [], v, g, _ => ⟨g, by simp⟩
  | c :: l, v, g, h => by
    simp only [List.length_cons] at h ⊢
    obtain ⟨g1, g2, g3⟩ := g.step (by omega) c
    obtain ⟨h1, h2⟩ := good_fold l (stepV v c) g1 (by omega)
    exact ⟨h1, by rw [List.foldl_cons]; omega⟩
theorem behind_good {l : List ChangeT} (h : l.length ≤ 1000000) : GoodV (behindV l) ∧ (behindV l).epoch ≤ 1000001 := by
  obtain ⟨h1, h2⟩ := good_fold l firstV GoodV.first (by show (1 : Int) + _ < _; omega)
  rw [behind_eq]
  exact ⟨h1, by have : firstV.epoch = 1 := rfl; omega⟩
theorem GoodV.okV {v : ViewT} (g : GoodV v) (h : v.epoch < 9223372036854775808) : OkV v := ⟨⟨by have := g.epoch; omega, h⟩, ⟨by have := g.mem; omega, g.mem.2⟩, fun i hi => by have := g.rng i hi; omega⟩
end Api

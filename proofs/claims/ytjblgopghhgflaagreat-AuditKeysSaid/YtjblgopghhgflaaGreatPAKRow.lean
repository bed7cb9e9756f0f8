/-
  What is done to one counter changes no share of another one: of all lists of ops and counters.
-/
import Derived.Test.YtjblgopghhgflaaGreatPAK8
import Derived.WalkKit
import Derived.ProofKit
import Derived.OpenShut
import Derived.ShutString
import Derived.ChangeOld
import Derived.Below
import Derived.SizedLaws
import Derived.Test.YtjblgopghhgflaaGreatRows
namespace Go.Proofs.YtjblgopghhgflaaGreat.auditKeys
open Go.ChangeShapes Go.WideShapes Go.ChangeAt Go.RowKit
open Leg Codec Api
set_option linter.unusedVariables false
theorem own : ownKnob Tryz.prog.godebug = none := by kernel_rfl
theorem laidOut : laidOutB Tryz.prog = true := by kernel_rfl
set_option maxRecDepth 100000 in
theorem lifted (os : Os) (started : os.Started) (H : Type) (enc : TypeId × Value → H) :
    ReturnsInHanded {} Tryz.checked os 8 .any (Rows.auditKeysSpec.pre6 enc Tryz.prog Tryz.f8 Rows.auditKeysRow.domain false) (Rows.auditKeysSpec.post enc Tryz.prog Tryz.f8 false true false false) := by
  refine returnsInHanded_of_change (C := Tryz.checked) own started (by kernel_rfl) Tryz.func8
    (ChangeSpec.witness6 (enc := enc) (C := Tryz.checked) false ⟨#[], #[.slice none 0 0, .int .i64 0], []⟩ 8 (by kernel_rfl) (by kernel_rfl) (by kernel_rfl) (by kernel_rfl)) ?_
  intro W base args ds gs before hval0 hW hcnd _
  have hval : ∀ (j : Nat) t v, Tryz.f8.params[j]? = some t → args[j]? = some v → Value.okWide Tryz.prog W .any base t v := hval0
  have hW' := hW
  obtain ⟨p, q, hA0, hV, rfl, hfz, hnd⟩ := hW
  have hA : DataW.TrodAll enc Tryz.prog W 0 (fun _ => true) true Tryz.f8.params.toList args.toList ds p := hA0
  rw [Tryz.params8] at hA hval
  obtain ⟨v0, vs0, d0, ds0, p0, q0, hargs, rfl, rfl, h0, r0⟩ := trodAll_cons hA
  obtain ⟨v1, vs1, d1, ds1, p1, q1, rfl, rfl, rfl, h1, r1⟩ := trodAll_cons r0
  obtain ⟨rfl, rfl, rfl⟩ := trodAll_nil r1
  obtain rfl : args = #[v0, v1] := by cases args; simp_all
  obtain ⟨rfl, rfl⟩ := trodVars_none hV
  have lt0 : ∀ x ∈ p0, x.block < W.heap.size := by obtain ⟨m, hm⟩ := h0; exact DataW.trod_lt m _ _ _ hm
  obtain ⟨b0, hb0⟩ : ∃ l, IsL 11 (EW OpT.flat) v0 l (hp W) := listV_in Tryz.underlying22 (by kernel_rfl) (by decide) (hval 0 22 v0 rfl rfl) (fun fuel cs x h => let ⟨ls, f, q⟩ := flat_in 3 30 (List.replicate 11 (some .i64)) (by kernel_rfl) fuel cs x h; let ⟨l, h1, h2, h3⟩ := fits_ints f; let ⟨c, hc⟩ := OpT.of l h2; ⟨c, (by subst h1; show cs = ints c.flat; rw [q, litI_cells, hc]), (by rw [hc]; exact h3)⟩) h0
  have lt1 : ∀ x ∈ p1, x.block < W.heap.size := by obtain ⟨m, hm⟩ := h1; exact DataW.trod_lt m _ _ _ hm
  obtain ⟨n1, rfl, hw1⟩ := int_in Tryz.underlying3 (hval 1 3 v1 rfl rfl)
  clear hA0 hval0
  refine (Does.row (auditKeys_row v0 b0 n1) W hb0).mono fun e W' ⟨he, bel⟩ => ?_
  subst he
  exact ⟨_, rfl, _, _, _, [], _, [], hW', trodAll_mk1 (shut_bool Tryz.underlying4 _), (trodAll_cons_mk (Below.trod laidOut (by kernel_rfl) (of_decide_eq_true (by kernel_rfl)) h0 bel lt0) (trodAll_cons_mk (Below.trod laidOut (by kernel_rfl) (of_decide_eq_true (by kernel_rfl)) h1 bel lt1) trodAll_mk0)), rfl, bel.frame _, fun h => by cases h⟩
theorem over : Rows.auditKeysRow.holds Tryz.pinned (OpenSpec.ofChange Rows.auditKeysSpec) :=
  OpenClaim.holds_of_wide 8 Tryz.f8 rfl rfl rfl rfl rfl rfl rfl ⟨rfl, rfl, rfl, rfl, rfl⟩ rfl rfl rfl rfl rfl (by kernel_rfl) Tryz.func8 (by kernel_rfl)
    (of_decide_eq_true (by kernel_rfl)) (by unfold Func.isWrapper; first | (rw [if_pos (by decide +kernel)]; kernel_rfl) | (rw [if_neg (by decide +kernel)]; exact ⟨rfl, rfl⟩))
    (fun os started H enc _ => lifted os started H enc)
end Go.Proofs.YtjblgopghhgflaaGreat.auditKeys
namespace Go.Proofs.YtjblgopghhgflaaGreat
theorem auditKeys_proved : Rows.AuditKeysSaid := auditKeys.over
#print axioms auditKeys_proved
end Go.Proofs.YtjblgopghhgflaaGreat

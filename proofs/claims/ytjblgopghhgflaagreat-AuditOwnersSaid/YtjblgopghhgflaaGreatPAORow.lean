/-
  Each machine's row is its heir's, or its own; a row has as many bytes as its record: of all lists of ops and rows.
-/
import Derived.Test.YtjblgopghhgflaaGreatPAO8
import Derived.WalkKit
import Derived.ProofKit
import Derived.OpenShut
import Derived.ShutString
import Derived.ChangeOld
import Derived.Below
import Derived.SizedLaws
import Derived.Test.YtjblgopghhgflaaGreatRows
namespace Go.Proofs.YtjblgopghhgflaaGreat.auditOwners
open Go.ChangeShapes Go.WideShapes Go.ChangeAt Go.RowKit
open Leg Codec Api
set_option linter.unusedVariables false
theorem own : ownKnob Tryz.prog.godebug = none := by kernel_rfl
theorem laidOut : laidOutB Tryz.prog = true := by kernel_rfl
set_option maxRecDepth 100000 in
theorem lifted (os : Os) (started : os.Started) (H : Type) (enc : TypeId × Value → H) :
    ReturnsInHanded {} Tryz.checked os 10 .any (Rows.auditOwnersSpec.pre6 enc Tryz.prog Tryz.f10 Rows.auditOwnersRow.domain false) (Rows.auditOwnersSpec.post enc Tryz.prog Tryz.f10 false true false false) := by
  refine returnsInHanded_of_change (C := Tryz.checked) own started (by kernel_rfl) Tryz.func10
    (ChangeSpec.witness6 (enc := enc) (C := Tryz.checked) false ⟨#[], #[.slice none 0 0, .agg (Array.replicate 174 (.int .i64 0))], []⟩ 8 (by kernel_rfl) (by kernel_rfl) (by kernel_rfl) (by kernel_rfl)) ?_
  intro W base args ds gs before hval0 hW hcnd _
  have hval : ∀ (j : Nat) t v, Tryz.f10.params[j]? = some t → args[j]? = some v → Value.okWide Tryz.prog W .any base t v := hval0
  have hW' := hW
  obtain ⟨p, q, hA0, hV, rfl, hfz, hnd⟩ := hW
  have hA : DataW.TrodAll enc Tryz.prog W 0 (fun _ => true) true Tryz.f10.params.toList args.toList ds p := hA0
  rw [Tryz.params10] at hA hval
  obtain ⟨v0, vs0, d0, ds0, p0, q0, hargs, rfl, rfl, h0, r0⟩ := trodAll_cons hA
  obtain ⟨v1, vs1, d1, ds1, p1, q1, rfl, rfl, rfl, h1, r1⟩ := trodAll_cons r0
  obtain ⟨rfl, rfl, rfl⟩ := trodAll_nil r1
  obtain rfl : args = #[v0, v1] := by cases args; simp_all
  obtain ⟨rfl, rfl⟩ := trodVars_none hV
  have lt0 : ∀ x ∈ p0, x.block < W.heap.size := by obtain ⟨m, hm⟩ := h0; exact DataW.trod_lt m _ _ _ hm
  obtain ⟨b0, hb0⟩ : ∃ l, IsL 11 (EW OpT.flat) v0 l (hp W) := listV_in Tryz.underlying22 (by kernel_rfl) (by decide) (hval 0 22 v0 rfl rfl) (fun fuel cs x h => let ⟨ls, f, q⟩ := flat_in 3 30 (List.replicate 11 (some .i64)) (by kernel_rfl) fuel cs x h; let ⟨l, h1, h2, h3⟩ := fits_ints f; let ⟨c, hc⟩ := OpT.of l h2; ⟨c, (by subst h1; show cs = ints c.flat; rw [q, litI_cells, hc]), (by rw [hc]; exact h3)⟩) h0
  have lt1 : ∀ x ∈ p1, x.block < W.heap.size := by obtain ⟨m, hm⟩ := h1; exact DataW.trod_lt m _ _ _ hm
  obtain ⟨l1, rfl, hl1, hw1⟩ := agg_in (c := 174) (u := 3) (ts := List.replicate 174 3) (by kernel_rfl) (by kernel_rfl) (by kernel_rfl) ⟨List.length_replicate, fun _ h => List.eq_of_mem_replicate h⟩ Tryz.underlying3 rfl (hval 1 60 v1 rfl rfl)
  obtain ⟨x1, rfl⟩ := RowT.of l1 hl1
  clear hA0 hval0
  refine (Does.row (auditOwners_row v0 b0 x1 hw1) W hb0).mono fun e W' ⟨he, bel⟩ => ?_
  subst he
  exact ⟨_, rfl, _, _, _, [], _, [], hW', trodAll_mk1 (shut_bool Tryz.underlying4 _), (trodAll_cons_mk (Below.trod laidOut (by kernel_rfl) (of_decide_eq_true (by kernel_rfl)) h0 bel lt0) (trodAll_cons_mk (Below.trod laidOut (by kernel_rfl) (of_decide_eq_true (by kernel_rfl)) h1 bel lt1) trodAll_mk0)), rfl, bel.frame _, fun h => by cases h⟩
theorem over : Rows.auditOwnersRow.holds Tryz.pinned (OpenSpec.ofChange Rows.auditOwnersSpec) :=
  OpenClaim.holds_of_wide 10 Tryz.f10 rfl rfl rfl rfl rfl rfl rfl ⟨rfl, rfl, rfl, rfl, rfl⟩ rfl rfl rfl rfl rfl (by kernel_rfl) Tryz.func10 (by kernel_rfl)
    (of_decide_eq_true (by kernel_rfl)) (by unfold Func.isWrapper; first | (rw [if_pos (by decide +kernel)]; kernel_rfl) | (rw [if_neg (by decide +kernel)]; exact ⟨rfl, rfl⟩))
    (fun os started H enc _ => lifted os started H enc)
end Go.Proofs.YtjblgopghhgflaaGreat.auditOwners
namespace Go.Proofs.YtjblgopghhgflaaGreat
theorem auditOwners_proved : Rows.AuditOwnersSaid := auditOwners.over
#print axioms auditOwners_proved
end Go.Proofs.YtjblgopghhgflaaGreat

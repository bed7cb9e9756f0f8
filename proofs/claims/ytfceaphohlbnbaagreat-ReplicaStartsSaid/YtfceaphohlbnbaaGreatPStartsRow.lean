/-
  A machine that is started again has its row, its mirrors and its view: of all ops, rows and crashes.
-/
import Derived.Test.YtfceaphohlbnbaaGreatPStarts7
import Derived.WalkKit
import Derived.ProofKit
import Derived.OpenShut
import Derived.ShutString
import Derived.ChangeOld
import Derived.Below
import Derived.SizedLaws
import Derived.Test.YtfceaphohlbnbaaGreatRows
namespace Go.Proofs.YtfceaphohlbnbaaGreat.replicaStarts
open Go.ChangeShapes Go.WideShapes Go.ChangeAt Go.RowKit
open Leg Codec Api
set_option linter.unusedVariables false
theorem own : ownKnob Tryz.prog.godebug = none := by kernel_rfl
theorem laidOut : laidOutB Tryz.prog = true := by kernel_rfl
set_option maxRecDepth 100000 in
theorem lifted (os : Os) (started : os.Started) (H : Type) (enc : TypeId × Value → H) :
    ReturnsInHanded {} Tryz.checked os 7 .any (Rows.replicaStartsSpec.pre6 enc Tryz.prog Tryz.f7 Rows.replicaStartsRow.domain false) (Rows.replicaStartsSpec.post enc Tryz.prog Tryz.f7 false true false false) := by
  refine returnsInHanded_of_change (C := Tryz.checked) own started (by kernel_rfl) Tryz.func7
    (ChangeSpec.witness6 (enc := enc) (C := Tryz.checked) false ⟨#[], #[.slice none 0 0, .slice none 0 0, .agg (Array.replicate 3 (.int .i64 0))], []⟩ 8 (by kernel_rfl) (by kernel_rfl) (by kernel_rfl) (by kernel_rfl)) ?_
  intro W base args ds gs before hval0 hW hcnd _
  have hval : ∀ (j : Nat) t v, Tryz.f7.params[j]? = some t → args[j]? = some v → Value.okWide Tryz.prog W .any base t v := hval0
  have hW' := hW
  obtain ⟨p, q, hA0, hV, rfl, hfz, hnd⟩ := hW
  have hA : DataW.TrodAll enc Tryz.prog W 0 (fun _ => true) true Tryz.f7.params.toList args.toList ds p := hA0
  rw [Tryz.params7] at hA hval
  obtain ⟨v0, vs0, d0, ds0, p0, q0, hargs, rfl, rfl, h0, r0⟩ := trodAll_cons hA
  obtain ⟨v1, vs1, d1, ds1, p1, q1, rfl, rfl, rfl, h1, r1⟩ := trodAll_cons r0
  obtain ⟨v2, vs2, d2, ds2, p2, q2, rfl, rfl, rfl, h2, r2⟩ := trodAll_cons r1
  obtain ⟨rfl, rfl, rfl⟩ := trodAll_nil r2
  obtain rfl : args = #[v0, v1, v2] := by cases args; simp_all
  obtain ⟨rfl, rfl⟩ := trodVars_none hV
  have lt0 : ∀ x ∈ p0, x.block < W.heap.size := by obtain ⟨m, hm⟩ := h0; exact DataW.trod_lt m _ _ _ hm
  obtain ⟨b0, hb0⟩ : ∃ l, IsL 4 EA v0 l (hp W) := listV_in Tryz.underlying60 (by kernel_rfl) (by decide) (hval 0 60 v0 rfl rfl) (fun fuel cs x h => let ⟨ls, f, q⟩ := flat_in 4 63 (List.replicate 4 (some .i64)) (by kernel_rfl) fuel cs x h; let ⟨l, h1, h2, h3⟩ := fits_ints f; ⟨l, by subst h1; exact ⟨by rw [q, litI_cells], h2⟩⟩) h0
  have lt1 : ∀ x ∈ p1, x.block < W.heap.size := by obtain ⟨m, hm⟩ := h1; exact DataW.trod_lt m _ _ _ hm
  obtain ⟨b1, hb1⟩ : ∃ l, IsL 174 ER v1 l (hp W) := listV_in Tryz.underlying68 (by kernel_rfl) (by decide) (hval 1 68 v1 rfl rfl) (fun fuel cs x h => let ⟨ls, f, q⟩ := flat_in 8 48 (List.replicate 174 (some .i64)) (by kernel_rfl) fuel cs x h; let ⟨l, h1, h2, h3⟩ := fits_ints f; let ⟨c, hc⟩ := RowT.of l h2; ⟨c, by subst h1; subst hc; exact ⟨by rw [q, litI_cells], h3⟩⟩) h1
  have lt2 : ∀ x ∈ p2, x.block < W.heap.size := by obtain ⟨m, hm⟩ := h2; exact DataW.trod_lt m _ _ _ hm
  obtain ⟨l2, rfl, hl2, hw2⟩ := agg_in (c := 3) (u := 3) (ts := List.replicate 3 3) (by kernel_rfl) (by kernel_rfl) (by kernel_rfl) ⟨List.length_replicate, fun _ h => List.eq_of_mem_replicate h⟩ Tryz.underlying3 rfl (hval 2 88 v2 rfl rfl)
  clear hA0 hval0
  refine (Does.row (replicaStarts_list v0 v1 b0 b1 l2 hl2) W ⟨hb0, hb1⟩).mono fun e W' ⟨he, bel⟩ => ?_
  subst he
  exact ⟨_, rfl, _, _, _, [], _, [], hW', trodAll_mk1 (shut_bool Tryz.underlying4 _), (trodAll_cons_mk (Below.trod laidOut (by kernel_rfl) (of_decide_eq_true (by kernel_rfl)) h0 bel lt0) (trodAll_cons_mk (Below.trod laidOut (by kernel_rfl) (of_decide_eq_true (by kernel_rfl)) h1 bel lt1) (trodAll_cons_mk (Below.trod laidOut (by kernel_rfl) (of_decide_eq_true (by kernel_rfl)) h2 bel lt2) trodAll_mk0))), rfl, bel.frame _, fun h => by cases h⟩
theorem over : Rows.replicaStartsRow.holds Tryz.pinned (OpenSpec.ofChange Rows.replicaStartsSpec) :=
  OpenClaim.holds_of_wide 7 Tryz.f7 rfl rfl rfl rfl rfl rfl rfl ⟨rfl, rfl, rfl, rfl, rfl⟩ rfl rfl rfl rfl rfl (by kernel_rfl) Tryz.func7 (by kernel_rfl)
    (of_decide_eq_true (by kernel_rfl)) (by unfold Func.isWrapper; first | (rw [if_pos (by decide +kernel)]; kernel_rfl) | (rw [if_neg (by decide +kernel)]; exact ⟨rfl, rfl⟩))
    (fun os started H enc _ => lifted os started H enc)
end Go.Proofs.YtfceaphohlbnbaaGreat.replicaStarts
namespace Go.Proofs.YtfceaphohlbnbaaGreat
theorem replicaStarts_proved : Rows.ReplicaStartsSaid := replicaStarts.over
#print axioms replicaStarts_proved
end Go.Proofs.YtfceaphohlbnbaaGreat

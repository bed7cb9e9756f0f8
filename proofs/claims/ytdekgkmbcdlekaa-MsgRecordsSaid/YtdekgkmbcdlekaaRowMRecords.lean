/-
  Records come back from their bytes: of all numbers, rows and lists of changes.
-/
import Derived.Test.YtdekgkmbcdlekaaLaw15Records
import Derived.Test.YtdekgkmbcdlekaaLegI
import Derived.Test.YtdekgkmbcdlekaaLegQ
import Derived.WalkKit
import Derived.ProofKit
import Derived.OpenShut
import Derived.ShutString
import Derived.ChangeOld
import Derived.Below
import Derived.SizedLaws
import Derived.Test.YtdekgkmbcdlekaaRows
namespace Go.Proofs.Ytdekgkmbcdlekaa.msgRecords
open Go.ChangeShapes Go.WideShapes Go.ChangeAt Go.RowKit
open Leg Codec Api
set_option linter.unusedVariables false
theorem own : ownKnob Try.prog.godebug = none := by kernel_rfl
theorem laidOut : laidOutB Try.prog = true := by kernel_rfl
set_option maxRecDepth 100000 in
theorem lifted (os : Os) (started : os.Started) (H : Type) (enc : TypeId × Value → H) :
    ReturnsInHanded {} Try.checked os 6 .any (Rows.msgRecordsSpec.pre6 enc Try.prog Try.f6 Rows.msgRecordsRow.domain false) (Rows.msgRecordsSpec.post enc Try.prog Try.f6 false true false false) := by
  refine returnsInHanded_of_change (C := Try.checked) own started (by kernel_rfl) Try.func6
    (ChangeSpec.witness6 (enc := enc) (C := Try.checked) false ⟨#[], #[.agg (Array.replicate 4 (.int .i64 0)), .agg (Array.replicate 174 (.int .i64 0)), .slice none 0 0], []⟩ 8 (by kernel_rfl) (by kernel_rfl) (by kernel_rfl) (by kernel_rfl)) ?_
  intro W base args ds gs before hval0 hW hcnd _
  have hval : ∀ (j : Nat) t v, Try.f6.params[j]? = some t → args[j]? = some v → Value.okWide Try.prog W .any base t v := hval0
  have hW' := hW
  obtain ⟨p, q, hA0, hV, rfl, hfz, hnd⟩ := hW
  have hA : DataW.TrodAll enc Try.prog W 0 (fun _ => true) true Try.f6.params.toList args.toList ds p := hA0
  rw [Try.params6] at hA hval
  obtain ⟨v0, vs0, d0, ds0, p0, q0, hargs, rfl, rfl, h0, r0⟩ := trodAll_cons hA
  obtain ⟨v1, vs1, d1, ds1, p1, q1, rfl, rfl, rfl, h1, r1⟩ := trodAll_cons r0
  obtain ⟨v2, vs2, d2, ds2, p2, q2, rfl, rfl, rfl, h2, r2⟩ := trodAll_cons r1
  obtain ⟨rfl, rfl, rfl⟩ := trodAll_nil r2
  obtain rfl : args = #[v0, v1, v2] := by cases args; simp_all
  obtain ⟨rfl, rfl⟩ := trodVars_none hV
  have lt0 : ∀ x ∈ p0, x.block < W.heap.size := by obtain ⟨m, hm⟩ := h0; exact DataW.trod_lt m _ _ _ hm
  obtain ⟨l0, rfl, hl0, hw0⟩ := agg_in (c := 4) (u := 3) (ts := List.replicate 4 3) (by kernel_rfl) (by kernel_rfl) (by kernel_rfl) ⟨List.length_replicate, fun _ h => List.eq_of_mem_replicate h⟩ Try.underlying3 rfl (hval 0 63 v0 rfl rfl)
  have lt1 : ∀ x ∈ p1, x.block < W.heap.size := by obtain ⟨m, hm⟩ := h1; exact DataW.trod_lt m _ _ _ hm
  obtain ⟨l1, rfl, hl1, hw1⟩ := agg_in (c := 174) (u := 3) (ts := List.replicate 174 3) (by kernel_rfl) (by kernel_rfl) (by kernel_rfl) ⟨List.length_replicate, fun _ h => List.eq_of_mem_replicate h⟩ Try.underlying3 rfl (hval 1 38 v1 rfl rfl)
  obtain ⟨x1, rfl⟩ := RowT.of l1 hl1
  have lt2 : ∀ x ∈ p2, x.block < W.heap.size := by obtain ⟨m, hm⟩ := h2; exact DataW.trod_lt m _ _ _ hm
  obtain ⟨b2, hb2⟩ : ∃ l, IsL 3 EC v2 l (hp W) := listV_in Try.underlying52 (by kernel_rfl) (by decide) (hval 2 52 v2 rfl rfl) (fun fuel cs x h => let ⟨ls, f, q⟩ := flat_in 3 42 (List.replicate 3 (some .i64)) (by kernel_rfl) fuel cs x h; let ⟨l, h1, h2, h3⟩ := fits_ints f; let ⟨c, hc⟩ := ChangeT.of l h2; ⟨c, by subst h1; show cs = ints c.flat; rw [q, litI_cells, hc]⟩) h2
  clear hA0 hval0
  refine (Does.row (msgRecords_list l0 hl0 x1 v2 b2 hw1) W hb2).mono fun e W' ⟨he, bel⟩ => ?_
  subst he
  exact ⟨_, rfl, _, _, _, [], _, [], hW', trodAll_mk1 (shut_bool Try.underlying4 _), (trodAll_cons_mk (Below.trod laidOut (by kernel_rfl) (of_decide_eq_true (by kernel_rfl)) h0 bel lt0) (trodAll_cons_mk (Below.trod laidOut (by kernel_rfl) (of_decide_eq_true (by kernel_rfl)) h1 bel lt1) (trodAll_cons_mk (Below.trod laidOut (by kernel_rfl) (of_decide_eq_true (by kernel_rfl)) h2 bel lt2) trodAll_mk0))), rfl, bel.frame _, fun h => by cases h⟩
theorem over : Rows.msgRecordsRow.holds Try.pinned (OpenSpec.ofChange Rows.msgRecordsSpec) :=
  OpenClaim.holds_of_wide 6 Try.f6 rfl rfl rfl rfl rfl rfl rfl ⟨rfl, rfl, rfl, rfl, rfl⟩ rfl rfl rfl rfl rfl (by kernel_rfl) Try.func6 (by kernel_rfl)
    (of_decide_eq_true (by kernel_rfl)) (by unfold Func.isWrapper; first | (rw [if_pos (by decide +kernel)]; kernel_rfl) | (rw [if_neg (by decide +kernel)]; exact ⟨rfl, rfl⟩))
    (fun os started H enc _ => lifted os started H enc)
end Go.Proofs.Ytdekgkmbcdlekaa.msgRecords
namespace Go.Proofs.Ytdekgkmbcdlekaa
theorem msgRecords_proved : Rows.MsgRecordsSaid := msgRecords.over
#print axioms msgRecords_proved
end Go.Proofs.Ytdekgkmbcdlekaa

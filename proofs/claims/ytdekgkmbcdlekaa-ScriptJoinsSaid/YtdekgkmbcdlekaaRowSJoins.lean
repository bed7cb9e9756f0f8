/-
  Bytes of two lists of ops, one behind the other, are those of both: of all lists of ops.
-/
import Derived.Test.YtdekgkmbcdlekaaLaw18A
import Derived.Test.YtdekgkmbcdlekaaLegI
import Derived.Test.YtdekgkmbcdlekaaLegQ
import Derived.Test.YtdekgkmbcdlekaaLegX
import Derived.WalkKit
import Derived.ProofKit
import Derived.OpenShut
import Derived.ShutString
import Derived.ChangeOld
import Derived.Below
import Derived.SizedLaws
import Derived.Test.YtdekgkmbcdlekaaRows
namespace Go.Proofs.Ytdekgkmbcdlekaa.scriptJoins
open Go.ChangeShapes Go.WideShapes Go.ChangeAt Go.RowKit
open Leg Codec Api
set_option linter.unusedVariables false
theorem own : ownKnob Try.prog.godebug = none := by kernel_rfl
theorem laidOut : laidOutB Try.prog = true := by kernel_rfl
set_option maxRecDepth 100000 in
theorem lifted (os : Os) (started : os.Started) (H : Type) (enc : TypeId × Value → H) :
    ReturnsInHanded {} Try.checked os 9 .any (Rows.scriptJoinsSpec.pre6 enc Try.prog Try.f9 Rows.scriptJoinsRow.domain false) (Rows.scriptJoinsSpec.post enc Try.prog Try.f9 false true false false) := by
  refine returnsInHanded_of_change_sized (C := Try.checked) own started (by kernel_rfl) Try.func9
    (ChangeSpec.witness6 (enc := enc) (C := Try.checked) false ⟨#[], #[.slice none 0 0, .slice none 0 0], []⟩ 8 (by kernel_rfl) (by kernel_rfl) (by kernel_rfl) (by kernel_rfl)) ?_
  intro W base args ds gs before hval0 hW hcnd hsz0 _
  have hsz : (DataW.weightsEach Try.prog (Try.f9.params.toList ++ Rows.scriptJoinsSpec.plain.varTypes Try.prog) (ds ++ gs)).all (· ≤ reachBytes) = true := hsz0
  have hval : ∀ (j : Nat) t v, Try.f9.params[j]? = some t → args[j]? = some v → Value.okWide Try.prog W .any base t v := hval0
  have hW' := hW
  obtain ⟨p, q, hA0, hV, rfl, hfz, hnd⟩ := hW
  have hA : DataW.TrodAll enc Try.prog W 0 (fun _ => true) true Try.f9.params.toList args.toList ds p := hA0
  rw [Try.params9] at hA hval hsz
  obtain ⟨v0, vs0, d0, ds0, p0, q0, hargs, rfl, rfl, h0, r0⟩ := trodAll_cons hA
  obtain ⟨v1, vs1, d1, ds1, p1, q1, rfl, rfl, rfl, h1, r1⟩ := trodAll_cons r0
  obtain ⟨rfl, rfl, rfl⟩ := trodAll_nil r1
  obtain rfl : args = #[v0, v1] := by cases args; simp_all
  obtain ⟨rfl, rfl⟩ := trodVars_none hV
  have lt0 : ∀ x ∈ p0, x.block < W.heap.size := by obtain ⟨m, hm⟩ := h0; exact DataW.trod_lt m _ _ _ hm
  obtain ⟨b0, hb0, hd0⟩ := listS_in (size := 11) (E := (EF OpT.flat)) Try.underlying67 (by kernel_rfl) (by decide) (hval 0 67 v0 rfl rfl) (fun fuel cs x h => let ⟨ls, f, q⟩ := flat_in 3 70 (List.replicate 11 (some .i64)) (by kernel_rfl) fuel cs x h; let ⟨l, h1, h2, h3⟩ := fits_ints f; let ⟨c, hc⟩ := OpT.of l h2; ⟨c, by subst h1; show cs = ints c.flat; rw [q, litI_cells, hc]⟩) h0
  have hs0 : b0.length ≤ 17592186044416 := by
    rcases hd0 with h | ⟨e, sp, hd, hl⟩
    · rw [h]; decide
    · have := sized_slice hsz (j := 0) (t := 67) (e := 70) rfl (by rw [hd]; rfl) Try.underlying67
      rw [show Try.prog.bytesOf 70 = 88 by kernel_rfl] at this
      simp only [reachBytes] at this
      omega
  have lt1 : ∀ x ∈ p1, x.block < W.heap.size := by obtain ⟨m, hm⟩ := h1; exact DataW.trod_lt m _ _ _ hm
  obtain ⟨b1, hb1, hd1⟩ := listS_in (size := 11) (E := (EF OpT.flat)) Try.underlying67 (by kernel_rfl) (by decide) (hval 1 67 v1 rfl rfl) (fun fuel cs x h => let ⟨ls, f, q⟩ := flat_in 3 70 (List.replicate 11 (some .i64)) (by kernel_rfl) fuel cs x h; let ⟨l, h1, h2, h3⟩ := fits_ints f; let ⟨c, hc⟩ := OpT.of l h2; ⟨c, by subst h1; show cs = ints c.flat; rw [q, litI_cells, hc]⟩) h1
  have hs1 : b1.length ≤ 17592186044416 := by
    rcases hd1 with h | ⟨e, sp, hd, hl⟩
    · rw [h]; decide
    · have := sized_slice hsz (j := 1) (t := 67) (e := 70) rfl (by rw [hd]; rfl) Try.underlying67
      rw [show Try.prog.bytesOf 70 = 88 by kernel_rfl] at this
      simp only [reachBytes] at this
      omega
  clear hA0 hval0
  refine (Does.row (scriptJoins_does v0 v1 b0 b1 hs0 hs1) W ⟨hb0, hb1⟩).mono fun e W' ⟨he, bel⟩ => ?_
  subst he
  exact ⟨_, rfl, _, _, _, [], _, [], hW', trodAll_mk1 (shut_bool Try.underlying4 _), (trodAll_cons_mk (Below.trod laidOut (by kernel_rfl) (of_decide_eq_true (by kernel_rfl)) h0 bel lt0) (trodAll_cons_mk (Below.trod laidOut (by kernel_rfl) (of_decide_eq_true (by kernel_rfl)) h1 bel lt1) trodAll_mk0)), rfl, bel.frame _, fun h => by cases h⟩
theorem over : Rows.scriptJoinsRow.holds Try.pinned (OpenSpec.ofChange Rows.scriptJoinsSpec) :=
  OpenClaim.holds_of_wide 9 Try.f9 rfl rfl rfl rfl rfl rfl rfl ⟨rfl, rfl, rfl, rfl, rfl⟩ rfl rfl rfl rfl rfl (by kernel_rfl) Try.func9 (by kernel_rfl)
    (of_decide_eq_true (by kernel_rfl)) (by unfold Func.isWrapper; first | (rw [if_pos (by decide +kernel)]; kernel_rfl) | (rw [if_neg (by decide +kernel)]; exact ⟨rfl, rfl⟩))
    (fun os started H enc _ => lifted os started H enc)
end Go.Proofs.Ytdekgkmbcdlekaa.scriptJoins
namespace Go.Proofs.Ytdekgkmbcdlekaa
theorem scriptJoins_proved : Rows.ScriptJoinsSaid := scriptJoins.over
#print axioms scriptJoins_proved
end Go.Proofs.Ytdekgkmbcdlekaa

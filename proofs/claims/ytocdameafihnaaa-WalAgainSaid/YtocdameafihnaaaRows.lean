/-
  No cell of these rows narrows 'for every input' (looked for: loops, veiled, ifaces, maps, wideKeys, modest, calm, conditions, laid).
  DERIVED. THE GIVEN ROWS OF THIS SEAT. 9 by the template 'for every input the law returns true; each argument reads behind the call as it read before'; 0 by the template 'total and deterministic' (their statements: YtocdameafihnaaaTotals.lean).
  GIVEN WITH THE SEED: the statements are not yours to turn. If you find one false, say at which input.
  Laid BY PROGRAM, IN A SANDBOX (cutbox-rows.mjs): the forced cells as the released guide's own fill.sh prints them over the translation 538d487e769fec03… (all of the seat's roots in one cut). By AI agents, Wed Nov 11 2026. No macro, syntax, notation, axiom, sorry.
-/
import Derived.Test.YtocdameafihnaaaChecked
import GoSem.Claim
import GoSem.ClaimJoined
import GoSem.ClaimMapViews
import Derived.JoinedTies
import Derived.KernelRfl
namespace Go.Proofs.Ytocdameafihnaaa
/- THE CELL 'sum', in the pinned program and in every row, IS THE sha256 OF THE DUMP (.gsa) THAT YtocdameafihnaaaProg.lean LOADS. Nothing in Lean hashes anything: it is a label: what it is worth is what the hold of that sum in a sandbox is worth. -/
noncomputable def Try.pinned : Pinned := { name := "ytocdameafihnaaa", sum := "538d487e769fec0312cd8b4ce8513afb3987b6f127864bbe91a913a65c24e1ae", checked := Try.checked }
namespace Rows
def none {H : Type} : Left H := { results := [], args := [] }

/-- 'legateelaw06.DiskArms': WHATEVER THE INPUT: true; the input reads as it did. -/
def diskArmsSpec : ChangeSpec := { name := "diskArms", fn := fun _ => fun
  | [d1, d2] => { results := [.lit (.bool true)], args := [d1, d2] }
  | _ => none }
def diskArmsRow : OpenClaim := { program := "ytocdameafihnaaa", sum := "538d487e769fec0312cd8b4ce8513afb3987b6f127864bbe91a913a65c24e1ae", func := "legatee/legateelaw06.DiskArms", spec := "diskArms", apart := false }
def DiskArmsSaid : Prop := diskArmsRow.holds Try.pinned (OpenSpec.ofChange diskArmsSpec)

/-- ITS FALSE NEIGHBOUR: 'it returns false'. Refute it at one input. -/
def diskArmsWrong : ChangeSpec := { name := "diskArms", fn := fun _ => fun
  | [d1, d2] => { results := [.lit (.bool false)], args := [d1, d2] }
  | _ => none }
def DiskArmsWrongFalsely : Prop := diskArmsRow.holds Try.pinned (OpenSpec.ofChange diskArmsWrong)

/-- 'legateelaw06.DiskRuns': WHATEVER THE INPUT: true; the input reads as it did. -/
def diskRunsSpec : ChangeSpec := { name := "diskRuns", fn := fun _ => fun
  | [d] => { results := [.lit (.bool true)], args := [d] }
  | _ => none }
def diskRunsRow : OpenClaim := { program := "ytocdameafihnaaa", sum := "538d487e769fec0312cd8b4ce8513afb3987b6f127864bbe91a913a65c24e1ae", func := "legatee/legateelaw06.DiskRuns", spec := "diskRuns", apart := false }
def DiskRunsSaid : Prop := diskRunsRow.holds Try.pinned (OpenSpec.ofChange diskRunsSpec)

/-- ITS FALSE NEIGHBOUR: 'it returns false'. Refute it at one input. -/
def diskRunsWrong : ChangeSpec := { name := "diskRuns", fn := fun _ => fun
  | [d] => { results := [.lit (.bool false)], args := [d] }
  | _ => none }
def DiskRunsWrongFalsely : Prop := diskRunsRow.holds Try.pinned (OpenSpec.ofChange diskRunsWrong)

/-- 'legateelaw06.DiskSures': WHATEVER THE INPUT: true; the input reads as it did. -/
def diskSuresSpec : ChangeSpec := { name := "diskSures", fn := fun _ => fun
  | [d1, d2, d3] => { results := [.lit (.bool true)], args := [d1, d2, d3] }
  | _ => none }
def diskSuresRow : OpenClaim := { program := "ytocdameafihnaaa", sum := "538d487e769fec0312cd8b4ce8513afb3987b6f127864bbe91a913a65c24e1ae", func := "legatee/legateelaw06.DiskSures", spec := "diskSures", apart := false }
def DiskSuresSaid : Prop := diskSuresRow.holds Try.pinned (OpenSpec.ofChange diskSuresSpec)

/-- ITS FALSE NEIGHBOUR: 'it returns false'. Refute it at one input. -/
def diskSuresWrong : ChangeSpec := { name := "diskSures", fn := fun _ => fun
  | [d1, d2, d3] => { results := [.lit (.bool false)], args := [d1, d2, d3] }
  | _ => none }
def DiskSuresWrongFalsely : Prop := diskSuresRow.holds Try.pinned (OpenSpec.ofChange diskSuresWrong)

/-- 'legateelaw07.WalAny': WHATEVER THE INPUT: true; the input reads as it did. -/
def walAnySpec : ChangeSpec := { name := "walAny", fn := fun _ => fun
  | [d1, d2] => { results := [.lit (.bool true)], args := [d1, d2] }
  | _ => none }
def walAnyRow : OpenClaim := { program := "ytocdameafihnaaa", sum := "538d487e769fec0312cd8b4ce8513afb3987b6f127864bbe91a913a65c24e1ae", func := "legatee/legateelaw07.WalAny", spec := "walAny", apart := false }
def WalAnySaid : Prop := walAnyRow.holds Try.pinned (OpenSpec.ofChange walAnySpec)

/-- ITS FALSE NEIGHBOUR: 'it returns false'. Refute it at one input. -/
def walAnyWrong : ChangeSpec := { name := "walAny", fn := fun _ => fun
  | [d1, d2] => { results := [.lit (.bool false)], args := [d1, d2] }
  | _ => none }
def WalAnyWrongFalsely : Prop := walAnyRow.holds Try.pinned (OpenSpec.ofChange walAnyWrong)

/-- 'legateelaw07.WalCuts': WHATEVER THE INPUT: true; the input reads as it did. -/
def walCutsSpec : ChangeSpec := { name := "walCuts", fn := fun _ => fun
  | [d1, d2, d3] => { results := [.lit (.bool true)], args := [d1, d2, d3] }
  | _ => none }
def walCutsRow : OpenClaim := { program := "ytocdameafihnaaa", sum := "538d487e769fec0312cd8b4ce8513afb3987b6f127864bbe91a913a65c24e1ae", func := "legatee/legateelaw07.WalCuts", spec := "walCuts", apart := false }
def WalCutsSaid : Prop := walCutsRow.holds Try.pinned (OpenSpec.ofChange walCutsSpec)

/-- ITS FALSE NEIGHBOUR: 'it returns false'. Refute it at one input. -/
def walCutsWrong : ChangeSpec := { name := "walCuts", fn := fun _ => fun
  | [d1, d2, d3] => { results := [.lit (.bool false)], args := [d1, d2, d3] }
  | _ => none }
def WalCutsWrongFalsely : Prop := walCutsRow.holds Try.pinned (OpenSpec.ofChange walCutsWrong)

/-- 'legateelaw07.WalRooms': WHATEVER THE INPUT: true; the input reads as it did. -/
def walRoomsSpec : ChangeSpec := { name := "walRooms", fn := fun _ => fun
  | [d1, d2] => { results := [.lit (.bool true)], args := [d1, d2] }
  | _ => none }
def walRoomsRow : OpenClaim := { program := "ytocdameafihnaaa", sum := "538d487e769fec0312cd8b4ce8513afb3987b6f127864bbe91a913a65c24e1ae", func := "legatee/legateelaw07.WalRooms", spec := "walRooms", apart := false }
def WalRoomsSaid : Prop := walRoomsRow.holds Try.pinned (OpenSpec.ofChange walRoomsSpec)

/-- ITS FALSE NEIGHBOUR: 'it returns false'. Refute it at one input. -/
def walRoomsWrong : ChangeSpec := { name := "walRooms", fn := fun _ => fun
  | [d1, d2] => { results := [.lit (.bool false)], args := [d1, d2] }
  | _ => none }
def WalRoomsWrongFalsely : Prop := walRoomsRow.holds Try.pinned (OpenSpec.ofChange walRoomsWrong)

/-- 'legateelaw07.WalPuts': WHATEVER THE INPUT: true; the input reads as it did. -/
def walPutsSpec : ChangeSpec := { name := "walPuts", fn := fun _ => fun
  | [d] => { results := [.lit (.bool true)], args := [d] }
  | _ => none }
def walPutsRow : OpenClaim := { program := "ytocdameafihnaaa", sum := "538d487e769fec0312cd8b4ce8513afb3987b6f127864bbe91a913a65c24e1ae", func := "legatee/legateelaw07.WalPuts", spec := "walPuts", apart := false }
def WalPutsSaid : Prop := walPutsRow.holds Try.pinned (OpenSpec.ofChange walPutsSpec)

/-- ITS FALSE NEIGHBOUR: 'it returns false'. Refute it at one input. -/
def walPutsWrong : ChangeSpec := { name := "walPuts", fn := fun _ => fun
  | [d] => { results := [.lit (.bool false)], args := [d] }
  | _ => none }
def WalPutsWrongFalsely : Prop := walPutsRow.holds Try.pinned (OpenSpec.ofChange walPutsWrong)

/-- 'legateelaw07.WalAgain': WHATEVER THE INPUT: true; the input reads as it did. -/
def walAgainSpec : ChangeSpec := { name := "walAgain", fn := fun _ => fun
  | [d1, d2, d3] => { results := [.lit (.bool true)], args := [d1, d2, d3] }
  | _ => none }
def walAgainRow : OpenClaim := { program := "ytocdameafihnaaa", sum := "538d487e769fec0312cd8b4ce8513afb3987b6f127864bbe91a913a65c24e1ae", func := "legatee/legateelaw07.WalAgain", spec := "walAgain", apart := false }
def WalAgainSaid : Prop := walAgainRow.holds Try.pinned (OpenSpec.ofChange walAgainSpec)

/-- ITS FALSE NEIGHBOUR: 'it returns false'. Refute it at one input. -/
def walAgainWrong : ChangeSpec := { name := "walAgain", fn := fun _ => fun
  | [d1, d2, d3] => { results := [.lit (.bool false)], args := [d1, d2, d3] }
  | _ => none }
def WalAgainWrongFalsely : Prop := walAgainRow.holds Try.pinned (OpenSpec.ofChange walAgainWrong)

/-- 'legateelaw07.WalCrashes': WHATEVER THE INPUT: true; the input reads as it did. -/
def walCrashesSpec : ChangeSpec := { name := "walCrashes", fn := fun _ => fun
  | [d1, d2, d3] => { results := [.lit (.bool true)], args := [d1, d2, d3] }
  | _ => none }
def walCrashesRow : OpenClaim := { program := "ytocdameafihnaaa", sum := "538d487e769fec0312cd8b4ce8513afb3987b6f127864bbe91a913a65c24e1ae", func := "legatee/legateelaw07.WalCrashes", spec := "walCrashes", apart := false }
def WalCrashesSaid : Prop := walCrashesRow.holds Try.pinned (OpenSpec.ofChange walCrashesSpec)

/-- ITS FALSE NEIGHBOUR: 'it returns false'. Refute it at one input. -/
def walCrashesWrong : ChangeSpec := { name := "walCrashes", fn := fun _ => fun
  | [d1, d2, d3] => { results := [.lit (.bool false)], args := [d1, d2, d3] }
  | _ => none }
def WalCrashesWrongFalsely : Prop := walCrashesRow.holds Try.pinned (OpenSpec.ofChange walCrashesWrong)

/- THE SECOND FORM. 'bulk': how many values and letters a reading holds, each counted each time it is reached (what is shared counts as often as it is met; a slice's spare places count too). A statement '..UptoSaid' is the law's where the arguments, and the package variables that the reading takes, are together of bulk at most 1048576: NARROWER than '..Said'. Prove '..Said' where nothing that the law and all that it calls make is longer than what came in: it says more and counts as full. Else prove '..UptoSaid'. A law counts once. -/
mutual
def uptoBulk {H : Type} : DataW H → Nat
  | .lit (.string bytes) => bytes.length + 1
  | .lit _ => 1
  | .nil => 1
  | .ptr d => uptoBulk d + 1
  | .slice elems spare => uptoBulkAll elems + uptoBulkAll spare + 1
  | .agg parts => uptoBulkAll parts + 1
  | .iface _ d => uptoBulk d + 1
  | .map entries => uptoBulkEntries entries + 1
  | .held _ => 1
def uptoBulkAll {H : Type} : List (DataW H) → Nat
  | [] => 0
  | d :: r => uptoBulk d + uptoBulkAll r
def uptoBulkEntries {H : Type} : List (Lit × DataW H) → Nat
  | [] => 0
  | x :: r => uptoBulkEntry x + uptoBulkEntries r
def uptoBulkEntry {H : Type} : Lit × DataW H → Nat
  | (.string bytes, d) => bytes.length + uptoBulk d + 1
  | (_, d) => uptoBulk d + 1
 end
def uptoSmall : (H : Type) → List (DataW H) → Bool := fun _ ds => decide (uptoBulkAll ds ≤ 1048576)
def OpenSpec.upto (s : _root_.Go.ChangeSpec) : _root_.Go.OpenSpec := { _root_.Go.OpenSpec.ofChange s with cond := some uptoSmall }

/-- 'legateelaw06.DiskArms', WHERE WHAT IT READS IS OF BULK AT MOST 1048576: true; the input reads as it did. -/
def diskArmsUptoRow : OpenClaim := { program := "ytocdameafihnaaa", sum := "538d487e769fec0312cd8b4ce8513afb3987b6f127864bbe91a913a65c24e1ae", func := "legatee/legateelaw06.DiskArms", spec := "diskArms", apart := false, narrowed := true }
def DiskArmsUptoSaid : Prop := diskArmsUptoRow.holds Try.pinned (OpenSpec.upto diskArmsSpec)

/-- 'legateelaw06.DiskRuns', WHERE WHAT IT READS IS OF BULK AT MOST 1048576: true; the input reads as it did. -/
def diskRunsUptoRow : OpenClaim := { program := "ytocdameafihnaaa", sum := "538d487e769fec0312cd8b4ce8513afb3987b6f127864bbe91a913a65c24e1ae", func := "legatee/legateelaw06.DiskRuns", spec := "diskRuns", apart := false, narrowed := true }
def DiskRunsUptoSaid : Prop := diskRunsUptoRow.holds Try.pinned (OpenSpec.upto diskRunsSpec)

/-- 'legateelaw06.DiskSures', WHERE WHAT IT READS IS OF BULK AT MOST 1048576: true; the input reads as it did. -/
def diskSuresUptoRow : OpenClaim := { program := "ytocdameafihnaaa", sum := "538d487e769fec0312cd8b4ce8513afb3987b6f127864bbe91a913a65c24e1ae", func := "legatee/legateelaw06.DiskSures", spec := "diskSures", apart := false, narrowed := true }
def DiskSuresUptoSaid : Prop := diskSuresUptoRow.holds Try.pinned (OpenSpec.upto diskSuresSpec)

/-- 'legateelaw07.WalAny', WHERE WHAT IT READS IS OF BULK AT MOST 1048576: true; the input reads as it did. -/
def walAnyUptoRow : OpenClaim := { program := "ytocdameafihnaaa", sum := "538d487e769fec0312cd8b4ce8513afb3987b6f127864bbe91a913a65c24e1ae", func := "legatee/legateelaw07.WalAny", spec := "walAny", apart := false, narrowed := true }
def WalAnyUptoSaid : Prop := walAnyUptoRow.holds Try.pinned (OpenSpec.upto walAnySpec)

/-- 'legateelaw07.WalCuts', WHERE WHAT IT READS IS OF BULK AT MOST 1048576: true; the input reads as it did. -/
def walCutsUptoRow : OpenClaim := { program := "ytocdameafihnaaa", sum := "538d487e769fec0312cd8b4ce8513afb3987b6f127864bbe91a913a65c24e1ae", func := "legatee/legateelaw07.WalCuts", spec := "walCuts", apart := false, narrowed := true }
def WalCutsUptoSaid : Prop := walCutsUptoRow.holds Try.pinned (OpenSpec.upto walCutsSpec)

/-- 'legateelaw07.WalRooms', WHERE WHAT IT READS IS OF BULK AT MOST 1048576: true; the input reads as it did. -/
def walRoomsUptoRow : OpenClaim := { program := "ytocdameafihnaaa", sum := "538d487e769fec0312cd8b4ce8513afb3987b6f127864bbe91a913a65c24e1ae", func := "legatee/legateelaw07.WalRooms", spec := "walRooms", apart := false, narrowed := true }
def WalRoomsUptoSaid : Prop := walRoomsUptoRow.holds Try.pinned (OpenSpec.upto walRoomsSpec)

/-- 'legateelaw07.WalPuts', WHERE WHAT IT READS IS OF BULK AT MOST 1048576: true; the input reads as it did. -/
def walPutsUptoRow : OpenClaim := { program := "ytocdameafihnaaa", sum := "538d487e769fec0312cd8b4ce8513afb3987b6f127864bbe91a913a65c24e1ae", func := "legatee/legateelaw07.WalPuts", spec := "walPuts", apart := false, narrowed := true }
def WalPutsUptoSaid : Prop := walPutsUptoRow.holds Try.pinned (OpenSpec.upto walPutsSpec)

/-- 'legateelaw07.WalAgain', WHERE WHAT IT READS IS OF BULK AT MOST 1048576: true; the input reads as it did. -/
def walAgainUptoRow : OpenClaim := { program := "ytocdameafihnaaa", sum := "538d487e769fec0312cd8b4ce8513afb3987b6f127864bbe91a913a65c24e1ae", func := "legatee/legateelaw07.WalAgain", spec := "walAgain", apart := false, narrowed := true }
def WalAgainUptoSaid : Prop := walAgainUptoRow.holds Try.pinned (OpenSpec.upto walAgainSpec)

/-- 'legateelaw07.WalCrashes', WHERE WHAT IT READS IS OF BULK AT MOST 1048576: true; the input reads as it did. -/
def walCrashesUptoRow : OpenClaim := { program := "ytocdameafihnaaa", sum := "538d487e769fec0312cd8b4ce8513afb3987b6f127864bbe91a913a65c24e1ae", func := "legatee/legateelaw07.WalCrashes", spec := "walCrashes", apart := false, narrowed := true }
def WalCrashesUptoSaid : Prop := walCrashesUptoRow.holds Try.pinned (OpenSpec.upto walCrashesSpec)

end Rows
end Go.Proofs.Ytocdameafihnaaa

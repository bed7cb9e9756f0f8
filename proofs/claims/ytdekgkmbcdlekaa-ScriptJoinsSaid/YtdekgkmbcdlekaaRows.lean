/-
  No cell of these rows narrows 'for every input' (looked for: loops, veiled, ifaces, maps, wideKeys, modest, calm, conditions, laid).
  DERIVED. THE GIVEN ROWS OF THIS SEAT. 7 by the template 'for every input the law returns true; each argument reads behind the call as it read before'; 0 by the template 'total and deterministic' (their statements: YtdekgkmbcdlekaaTotals.lean).
  GIVEN WITH THE SEED: the statements are not yours to turn. If you find one false, say at which input.
  Laid BY PROGRAM, IN A SANDBOX (cutbox-rows.mjs): the forced cells as the released guide's own fill.sh prints them over the translation 32e3409712bbf1d3… (all of the seat's roots in one cut). By AI agents, Wed Nov 11 2026. No macro, syntax, notation, axiom, sorry.
-/
import Derived.Test.YtdekgkmbcdlekaaChecked
import GoSem.Claim
import GoSem.ClaimJoined
import GoSem.ClaimMapViews
import Derived.JoinedTies
import Derived.KernelRfl
namespace Go.Proofs.Ytdekgkmbcdlekaa
/- THE CELL 'sum', in the pinned program and in every row, IS THE sha256 OF THE DUMP (.gsa) THAT YtdekgkmbcdlekaaProg.lean LOADS. Nothing in Lean hashes anything: it is a label: what it is worth is what the hold of that sum in a sandbox is worth. -/
noncomputable def Try.pinned : Pinned := { name := "ytdekgkmbcdlekaa", sum := "32e3409712bbf1d3d88b1016080ba7a609c25d10da966dc85fae4676e304f359", checked := Try.checked }
namespace Rows
def none {H : Type} : Left H := { results := [], args := [] }

/-- 'legateelaw15.MsgSizes': WHATEVER THE INPUT: true; the input reads as it did. -/
def msgSizesSpec : ChangeSpec := { name := "msgSizes", fn := fun _ => fun
  | [d1, d2] => { results := [.lit (.bool true)], args := [d1, d2] }
  | _ => none }
def msgSizesRow : OpenClaim := { program := "ytdekgkmbcdlekaa", sum := "32e3409712bbf1d3d88b1016080ba7a609c25d10da966dc85fae4676e304f359", func := "legatee/legateelaw15.MsgSizes", spec := "msgSizes", unfollowed := true, recurses := true, apart := false }
def MsgSizesSaid : Prop := msgSizesRow.holds Try.pinned (OpenSpec.ofChange msgSizesSpec)

/-- ITS FALSE NEIGHBOUR: 'it returns false'. Refute it at one input. -/
def msgSizesWrong : ChangeSpec := { name := "msgSizes", fn := fun _ => fun
  | [d1, d2] => { results := [.lit (.bool false)], args := [d1, d2] }
  | _ => none }
def MsgSizesWrongFalsely : Prop := msgSizesRow.holds Try.pinned (OpenSpec.ofChange msgSizesWrong)

/-- 'legateelaw15.MsgBack': WHATEVER THE INPUT: true; the input reads as it did. -/
def msgBackSpec : ChangeSpec := { name := "msgBack", fn := fun _ => fun
  | [d1, d2, d3] => { results := [.lit (.bool true)], args := [d1, d2, d3] }
  | _ => none }
def msgBackRow : OpenClaim := { program := "ytdekgkmbcdlekaa", sum := "32e3409712bbf1d3d88b1016080ba7a609c25d10da966dc85fae4676e304f359", func := "legatee/legateelaw15.MsgBack", spec := "msgBack", unfollowed := true, recurses := true, apart := false }
def MsgBackSaid : Prop := msgBackRow.holds Try.pinned (OpenSpec.ofChange msgBackSpec)

/-- ITS FALSE NEIGHBOUR: 'it returns false'. Refute it at one input. -/
def msgBackWrong : ChangeSpec := { name := "msgBack", fn := fun _ => fun
  | [d1, d2, d3] => { results := [.lit (.bool false)], args := [d1, d2, d3] }
  | _ => none }
def MsgBackWrongFalsely : Prop := msgBackRow.holds Try.pinned (OpenSpec.ofChange msgBackWrong)

/-- 'legateelaw15.MsgAny': WHATEVER THE INPUT: true; the input reads as it did. -/
def msgAnySpec : ChangeSpec := { name := "msgAny", fn := fun _ => fun
  | [d] => { results := [.lit (.bool true)], args := [d] }
  | _ => none }
def msgAnyRow : OpenClaim := { program := "ytdekgkmbcdlekaa", sum := "32e3409712bbf1d3d88b1016080ba7a609c25d10da966dc85fae4676e304f359", func := "legatee/legateelaw15.MsgAny", spec := "msgAny", unfollowed := true, recurses := true, apart := false }
def MsgAnySaid : Prop := msgAnyRow.holds Try.pinned (OpenSpec.ofChange msgAnySpec)

/-- ITS FALSE NEIGHBOUR: 'it returns false'. Refute it at one input. -/
def msgAnyWrong : ChangeSpec := { name := "msgAny", fn := fun _ => fun
  | [d] => { results := [.lit (.bool false)], args := [d] }
  | _ => none }
def MsgAnyWrongFalsely : Prop := msgAnyRow.holds Try.pinned (OpenSpec.ofChange msgAnyWrong)

/-- 'legateelaw15.MsgRecords': WHATEVER THE INPUT: true; the input reads as it did. -/
def msgRecordsSpec : ChangeSpec := { name := "msgRecords", fn := fun _ => fun
  | [d1, d2, d3] => { results := [.lit (.bool true)], args := [d1, d2, d3] }
  | _ => none }
def msgRecordsRow : OpenClaim := { program := "ytdekgkmbcdlekaa", sum := "32e3409712bbf1d3d88b1016080ba7a609c25d10da966dc85fae4676e304f359", func := "legatee/legateelaw15.MsgRecords", spec := "msgRecords", unfollowed := true, recurses := true, apart := false }
def MsgRecordsSaid : Prop := msgRecordsRow.holds Try.pinned (OpenSpec.ofChange msgRecordsSpec)

/-- ITS FALSE NEIGHBOUR: 'it returns false'. Refute it at one input. -/
def msgRecordsWrong : ChangeSpec := { name := "msgRecords", fn := fun _ => fun
  | [d1, d2, d3] => { results := [.lit (.bool false)], args := [d1, d2, d3] }
  | _ => none }
def MsgRecordsWrongFalsely : Prop := msgRecordsRow.holds Try.pinned (OpenSpec.ofChange msgRecordsWrong)

/-- 'legateelaw18.ScriptAny': WHATEVER THE INPUT: true; the input reads as it did. -/
def scriptAnySpec : ChangeSpec := { name := "scriptAny", fn := fun _ => fun
  | [d] => { results := [.lit (.bool true)], args := [d] }
  | _ => none }
def scriptAnyRow : OpenClaim := { program := "ytdekgkmbcdlekaa", sum := "32e3409712bbf1d3d88b1016080ba7a609c25d10da966dc85fae4676e304f359", func := "legatee/legateelaw18.ScriptAny", spec := "scriptAny", unfollowed := true, recurses := true, apart := false }
def ScriptAnySaid : Prop := scriptAnyRow.holds Try.pinned (OpenSpec.ofChange scriptAnySpec)

/-- ITS FALSE NEIGHBOUR: 'it returns false'. Refute it at one input. -/
def scriptAnyWrong : ChangeSpec := { name := "scriptAny", fn := fun _ => fun
  | [d] => { results := [.lit (.bool false)], args := [d] }
  | _ => none }
def ScriptAnyWrongFalsely : Prop := scriptAnyRow.holds Try.pinned (OpenSpec.ofChange scriptAnyWrong)

/-- 'legateelaw18.ScriptBack': WHATEVER THE INPUT: true; the input reads as it did. -/
def scriptBackSpec : ChangeSpec := { name := "scriptBack", fn := fun _ => fun
  | [d1, d2] => { results := [.lit (.bool true)], args := [d1, d2] }
  | _ => none }
def scriptBackRow : OpenClaim := { program := "ytdekgkmbcdlekaa", sum := "32e3409712bbf1d3d88b1016080ba7a609c25d10da966dc85fae4676e304f359", func := "legatee/legateelaw18.ScriptBack", spec := "scriptBack", unfollowed := true, recurses := true, apart := false }
def ScriptBackSaid : Prop := scriptBackRow.holds Try.pinned (OpenSpec.ofChange scriptBackSpec)

/-- ITS FALSE NEIGHBOUR: 'it returns false'. Refute it at one input. -/
def scriptBackWrong : ChangeSpec := { name := "scriptBack", fn := fun _ => fun
  | [d1, d2] => { results := [.lit (.bool false)], args := [d1, d2] }
  | _ => none }
def ScriptBackWrongFalsely : Prop := scriptBackRow.holds Try.pinned (OpenSpec.ofChange scriptBackWrong)

/-- 'legateelaw18.ScriptJoins': WHATEVER THE INPUT: true; the input reads as it did. -/
def scriptJoinsSpec : ChangeSpec := { name := "scriptJoins", fn := fun _ => fun
  | [d1, d2] => { results := [.lit (.bool true)], args := [d1, d2] }
  | _ => none }
def scriptJoinsRow : OpenClaim := { program := "ytdekgkmbcdlekaa", sum := "32e3409712bbf1d3d88b1016080ba7a609c25d10da966dc85fae4676e304f359", func := "legatee/legateelaw18.ScriptJoins", spec := "scriptJoins", unfollowed := true, recurses := true, apart := false }
def ScriptJoinsSaid : Prop := scriptJoinsRow.holds Try.pinned (OpenSpec.ofChange scriptJoinsSpec)

/-- ITS FALSE NEIGHBOUR: 'it returns false'. Refute it at one input. -/
def scriptJoinsWrong : ChangeSpec := { name := "scriptJoins", fn := fun _ => fun
  | [d1, d2] => { results := [.lit (.bool false)], args := [d1, d2] }
  | _ => none }
def ScriptJoinsWrongFalsely : Prop := scriptJoinsRow.holds Try.pinned (OpenSpec.ofChange scriptJoinsWrong)

/- THE SECOND FORM. 'bulk': how many values and letters a reading holds, each counted each time it is reached (what is shared counts as often as it is met; a slice's spare places count too). A statement '..UptoSaid' is the law's where the arguments, and the package variables that the reading takes, are together of bulk at most 1048576: NARROWER than '..Said'. Prove '..Said' where nothing that the law and all that it calls make is longer than what came in: it says more and counts as full. Else prove '..UptoSaid'. A law counts once. -/
mutual
def uptoBulk {H : Type} : DataW H → Nat
  | .lit (.string bytes) => bytes.length + 1
  | .lit _ => 1
  | .nil => 1
  | .ptr d => uptoBulk d + 1
  | .slice elems spare => uptoBulkAll elems + uptoBulkAll spare + 1
  | .agg parts => uptoBulkAll parts + 1
  | .iface _ d => uptoBulk d + 1
  | .map entries => uptoBulkEntries entries + 1
  | .held _ => 1
def uptoBulkAll {H : Type} : List (DataW H) → Nat
  | [] => 0
  | d :: r => uptoBulk d + uptoBulkAll r
def uptoBulkEntries {H : Type} : List (Lit × DataW H) → Nat
  | [] => 0
  | x :: r => uptoBulkEntry x + uptoBulkEntries r
def uptoBulkEntry {H : Type} : Lit × DataW H → Nat
  | (.string bytes, d) => bytes.length + uptoBulk d + 1
  | (_, d) => uptoBulk d + 1
 end
def uptoSmall : (H : Type) → List (DataW H) → Bool := fun _ ds => decide (uptoBulkAll ds ≤ 1048576)
def OpenSpec.upto (s : _root_.Go.ChangeSpec) : _root_.Go.OpenSpec := { _root_.Go.OpenSpec.ofChange s with cond := some uptoSmall }

/-- 'legateelaw15.MsgSizes', WHERE WHAT IT READS IS OF BULK AT MOST 1048576: true; the input reads as it did. -/
def msgSizesUptoRow : OpenClaim := { program := "ytdekgkmbcdlekaa", sum := "32e3409712bbf1d3d88b1016080ba7a609c25d10da966dc85fae4676e304f359", func := "legatee/legateelaw15.MsgSizes", spec := "msgSizes", unfollowed := true, recurses := true, apart := false, narrowed := true }
def MsgSizesUptoSaid : Prop := msgSizesUptoRow.holds Try.pinned (OpenSpec.upto msgSizesSpec)

/-- 'legateelaw15.MsgBack', WHERE WHAT IT READS IS OF BULK AT MOST 1048576: true; the input reads as it did. -/
def msgBackUptoRow : OpenClaim := { program := "ytdekgkmbcdlekaa", sum := "32e3409712bbf1d3d88b1016080ba7a609c25d10da966dc85fae4676e304f359", func := "legatee/legateelaw15.MsgBack", spec := "msgBack", unfollowed := true, recurses := true, apart := false, narrowed := true }
def MsgBackUptoSaid : Prop := msgBackUptoRow.holds Try.pinned (OpenSpec.upto msgBackSpec)

/-- 'legateelaw15.MsgAny', WHERE WHAT IT READS IS OF BULK AT MOST 1048576: true; the input reads as it did. -/
def msgAnyUptoRow : OpenClaim := { program := "ytdekgkmbcdlekaa", sum := "32e3409712bbf1d3d88b1016080ba7a609c25d10da966dc85fae4676e304f359", func := "legatee/legateelaw15.MsgAny", spec := "msgAny", unfollowed := true, recurses := true, apart := false, narrowed := true }
def MsgAnyUptoSaid : Prop := msgAnyUptoRow.holds Try.pinned (OpenSpec.upto msgAnySpec)

/-- 'legateelaw15.MsgRecords', WHERE WHAT IT READS IS OF BULK AT MOST 1048576: true; the input reads as it did. -/
def msgRecordsUptoRow : OpenClaim := { program := "ytdekgkmbcdlekaa", sum := "32e3409712bbf1d3d88b1016080ba7a609c25d10da966dc85fae4676e304f359", func := "legatee/legateelaw15.MsgRecords", spec := "msgRecords", unfollowed := true, recurses := true, apart := false, narrowed := true }
def MsgRecordsUptoSaid : Prop := msgRecordsUptoRow.holds Try.pinned (OpenSpec.upto msgRecordsSpec)

/-- 'legateelaw18.ScriptAny', WHERE WHAT IT READS IS OF BULK AT MOST 1048576: true; the input reads as it did. -/
def scriptAnyUptoRow : OpenClaim := { program := "ytdekgkmbcdlekaa", sum := "32e3409712bbf1d3d88b1016080ba7a609c25d10da966dc85fae4676e304f359", func := "legatee/legateelaw18.ScriptAny", spec := "scriptAny", unfollowed := true, recurses := true, apart := false, narrowed := true }
def ScriptAnyUptoSaid : Prop := scriptAnyUptoRow.holds Try.pinned (OpenSpec.upto scriptAnySpec)

/-- 'legateelaw18.ScriptBack', WHERE WHAT IT READS IS OF BULK AT MOST 1048576: true; the input reads as it did. -/
def scriptBackUptoRow : OpenClaim := { program := "ytdekgkmbcdlekaa", sum := "32e3409712bbf1d3d88b1016080ba7a609c25d10da966dc85fae4676e304f359", func := "legatee/legateelaw18.ScriptBack", spec := "scriptBack", unfollowed := true, recurses := true, apart := false, narrowed := true }
def ScriptBackUptoSaid : Prop := scriptBackUptoRow.holds Try.pinned (OpenSpec.upto scriptBackSpec)

/-- 'legateelaw18.ScriptJoins', WHERE WHAT IT READS IS OF BULK AT MOST 1048576: true; the input reads as it did. -/
def scriptJoinsUptoRow : OpenClaim := { program := "ytdekgkmbcdlekaa", sum := "32e3409712bbf1d3d88b1016080ba7a609c25d10da966dc85fae4676e304f359", func := "legatee/legateelaw18.ScriptJoins", spec := "scriptJoins", unfollowed := true, recurses := true, apart := false, narrowed := true }
def ScriptJoinsUptoSaid : Prop := scriptJoinsUptoRow.holds Try.pinned (OpenSpec.upto scriptJoinsSpec)

end Rows
end Go.Proofs.Ytdekgkmbcdlekaa

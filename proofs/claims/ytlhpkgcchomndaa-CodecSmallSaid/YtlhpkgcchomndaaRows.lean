/-
  No cell of these rows narrows 'for every input' (looked for: loops, veiled, ifaces, maps, wideKeys, modest, calm, conditions, laid).
  DERIVED. THE GIVEN ROWS OF THIS SEAT. 6 by the template 'for every input the law returns true; each argument reads behind the call as it read before'; 0 by the template 'total and deterministic' (their statements: YtlhpkgcchomndaaTotals.lean).
  GIVEN WITH THE SEED: the statements are not yours to turn. If you find one false, say at which input.
  Laid BY PROGRAM, IN A SANDBOX (cutbox-rows.mjs): the forced cells as the released guide's own fill.sh prints them over the translation 00b5647559eac227… (all of the seat's roots in one cut). By AI agents, Wed Nov 11 2026. No macro, syntax, notation, axiom, sorry.
-/
import Derived.Test.YtlhpkgcchomndaaChecked
import GoSem.Claim
import GoSem.ClaimJoined
import GoSem.ClaimMapViews
import Derived.JoinedTies
import Derived.KernelRfl
namespace Go.Proofs.Ytlhpkgcchomndaa
/- THE CELL 'sum', in the pinned program and in every row, IS THE sha256 OF THE DUMP (.gsa) THAT YtlhpkgcchomndaaProg.lean LOADS. Nothing in Lean hashes anything: it is a label: what it is worth is what the hold of that sum in a sandbox is worth. -/
noncomputable def Try.pinned : Pinned := { name := "ytlhpkgcchomndaa", sum := "00b5647559eac22719f424f84270f14cefe6a2faee4b59ff092d77eb9b06e1f3", checked := Try.checked }
namespace Rows
def none {H : Type} : Left H := { results := [], args := [] }

/-- 'legateelaw03.CodecOrders': WHATEVER THE INPUT: true; the input reads as it did. -/
def codecOrdersSpec : ChangeSpec := { name := "codecOrders", fn := fun _ => fun
  | [d1, d2] => { results := [.lit (.bool true)], args := [d1, d2] }
  | _ => none }
def codecOrdersRow : OpenClaim := { program := "ytlhpkgcchomndaa", sum := "00b5647559eac22719f424f84270f14cefe6a2faee4b59ff092d77eb9b06e1f3", func := "legatee/legateelaw03.CodecOrders", spec := "codecOrders", unfollowed := true, recurses := true, apart := false }
def CodecOrdersSaid : Prop := codecOrdersRow.holds Try.pinned (OpenSpec.ofChange codecOrdersSpec)

/-- ITS FALSE NEIGHBOUR: 'it returns false'. Refute it at one input. -/
def codecOrdersWrong : ChangeSpec := { name := "codecOrders", fn := fun _ => fun
  | [d1, d2] => { results := [.lit (.bool false)], args := [d1, d2] }
  | _ => none }
def CodecOrdersWrongFalsely : Prop := codecOrdersRow.holds Try.pinned (OpenSpec.ofChange codecOrdersWrong)

/-- 'legateelaw03.CodecNums': WHATEVER THE INPUT: true; the input reads as it did. -/
def codecNumsSpec : ChangeSpec := { name := "codecNums", fn := fun _ => fun
  | [d] => { results := [.lit (.bool true)], args := [d] }
  | _ => none }
def codecNumsRow : OpenClaim := { program := "ytlhpkgcchomndaa", sum := "00b5647559eac22719f424f84270f14cefe6a2faee4b59ff092d77eb9b06e1f3", func := "legatee/legateelaw03.CodecNums", spec := "codecNums", unfollowed := true, recurses := true, apart := false }
def CodecNumsSaid : Prop := codecNumsRow.holds Try.pinned (OpenSpec.ofChange codecNumsSpec)

/-- ITS FALSE NEIGHBOUR: 'it returns false'. Refute it at one input. -/
def codecNumsWrong : ChangeSpec := { name := "codecNums", fn := fun _ => fun
  | [d] => { results := [.lit (.bool false)], args := [d] }
  | _ => none }
def CodecNumsWrongFalsely : Prop := codecNumsRow.holds Try.pinned (OpenSpec.ofChange codecNumsWrong)

/-- 'legateelaw03.CodecAny': WHATEVER THE INPUT: true; the input reads as it did. -/
def codecAnySpec : ChangeSpec := { name := "codecAny", fn := fun _ => fun
  | [d] => { results := [.lit (.bool true)], args := [d] }
  | _ => none }
def codecAnyRow : OpenClaim := { program := "ytlhpkgcchomndaa", sum := "00b5647559eac22719f424f84270f14cefe6a2faee4b59ff092d77eb9b06e1f3", func := "legatee/legateelaw03.CodecAny", spec := "codecAny", unfollowed := true, recurses := true, apart := false }
def CodecAnySaid : Prop := codecAnyRow.holds Try.pinned (OpenSpec.ofChange codecAnySpec)

/-- ITS FALSE NEIGHBOUR: 'it returns false'. Refute it at one input. -/
def codecAnyWrong : ChangeSpec := { name := "codecAny", fn := fun _ => fun
  | [d] => { results := [.lit (.bool false)], args := [d] }
  | _ => none }
def CodecAnyWrongFalsely : Prop := codecAnyRow.holds Try.pinned (OpenSpec.ofChange codecAnyWrong)

/-- 'legateelaw03.CodecJoins': WHATEVER THE INPUT: true; the input reads as it did. -/
def codecJoinsSpec : ChangeSpec := { name := "codecJoins", fn := fun _ => fun
  | [d1, d2, d3] => { results := [.lit (.bool true)], args := [d1, d2, d3] }
  | _ => none }
def codecJoinsRow : OpenClaim := { program := "ytlhpkgcchomndaa", sum := "00b5647559eac22719f424f84270f14cefe6a2faee4b59ff092d77eb9b06e1f3", func := "legatee/legateelaw03.CodecJoins", spec := "codecJoins", unfollowed := true, recurses := true, apart := false }
def CodecJoinsSaid : Prop := codecJoinsRow.holds Try.pinned (OpenSpec.ofChange codecJoinsSpec)

/-- ITS FALSE NEIGHBOUR: 'it returns false'. Refute it at one input. -/
def codecJoinsWrong : ChangeSpec := { name := "codecJoins", fn := fun _ => fun
  | [d1, d2, d3] => { results := [.lit (.bool false)], args := [d1, d2, d3] }
  | _ => none }
def CodecJoinsWrongFalsely : Prop := codecJoinsRow.holds Try.pinned (OpenSpec.ofChange codecJoinsWrong)

/-- 'legateelaw03.CodecSmall': WHATEVER THE INPUT: true; the input reads as it did. -/
def codecSmallSpec : ChangeSpec := { name := "codecSmall", fn := fun _ => fun
  | [d1, d2, d3] => { results := [.lit (.bool true)], args := [d1, d2, d3] }
  | _ => none }
def codecSmallRow : OpenClaim := { program := "ytlhpkgcchomndaa", sum := "00b5647559eac22719f424f84270f14cefe6a2faee4b59ff092d77eb9b06e1f3", func := "legatee/legateelaw03.CodecSmall", spec := "codecSmall", unfollowed := true, recurses := true, apart := false }
def CodecSmallSaid : Prop := codecSmallRow.holds Try.pinned (OpenSpec.ofChange codecSmallSpec)

/-- ITS FALSE NEIGHBOUR: 'it returns false'. Refute it at one input. -/
def codecSmallWrong : ChangeSpec := { name := "codecSmall", fn := fun _ => fun
  | [d1, d2, d3] => { results := [.lit (.bool false)], args := [d1, d2, d3] }
  | _ => none }
def CodecSmallWrongFalsely : Prop := codecSmallRow.holds Try.pinned (OpenSpec.ofChange codecSmallWrong)

/-- 'legateelaw03.CodecRows': WHATEVER THE INPUT: true; the input reads as it did. -/
def codecRowsSpec : ChangeSpec := { name := "codecRows", fn := fun _ => fun
  | [d1, d2] => { results := [.lit (.bool true)], args := [d1, d2] }
  | _ => none }
def codecRowsRow : OpenClaim := { program := "ytlhpkgcchomndaa", sum := "00b5647559eac22719f424f84270f14cefe6a2faee4b59ff092d77eb9b06e1f3", func := "legatee/legateelaw03.CodecRows", spec := "codecRows", unfollowed := true, recurses := true, apart := false }
def CodecRowsSaid : Prop := codecRowsRow.holds Try.pinned (OpenSpec.ofChange codecRowsSpec)

/-- ITS FALSE NEIGHBOUR: 'it returns false'. Refute it at one input. -/
def codecRowsWrong : ChangeSpec := { name := "codecRows", fn := fun _ => fun
  | [d1, d2] => { results := [.lit (.bool false)], args := [d1, d2] }
  | _ => none }
def CodecRowsWrongFalsely : Prop := codecRowsRow.holds Try.pinned (OpenSpec.ofChange codecRowsWrong)

/- THE SECOND FORM. 'bulk': how many values and letters a reading holds, each counted each time it is reached (what is shared counts as often as it is met; a slice's spare places count too). A statement '..UptoSaid' is the law's where the arguments, and the package variables that the reading takes, are together of bulk at most 1048576: NARROWER than '..Said'. Prove '..Said' where nothing that the law and all that it calls make is longer than what came in: it says more and counts as full. Else prove '..UptoSaid'. A law counts once. -/
mutual
def uptoBulk {H : Type} : DataW H → Nat
  | .lit (.string bytes) => bytes.length + 1
  | .lit _ => 1
  | .nil => 1
  | .ptr d => uptoBulk d + 1
  | .slice elems spare => uptoBulkAll elems + uptoBulkAll spare + 1
  | .agg parts => uptoBulkAll parts + 1
  | .iface _ d => uptoBulk d + 1
  | .map entries => uptoBulkEntries entries + 1
  | .held _ => 1
def uptoBulkAll {H : Type} : List (DataW H) → Nat
  | [] => 0
  | d :: r => uptoBulk d + uptoBulkAll r
def uptoBulkEntries {H : Type} : List (Lit × DataW H) → Nat
  | [] => 0
  | x :: r => uptoBulkEntry x + uptoBulkEntries r
def uptoBulkEntry {H : Type} : Lit × DataW H → Nat
  | (.string bytes, d) => bytes.length + uptoBulk d + 1
  | (_, d) => uptoBulk d + 1
 end
def uptoSmall : (H : Type) → List (DataW H) → Bool := fun _ ds => decide (uptoBulkAll ds ≤ 1048576)
def OpenSpec.upto (s : _root_.Go.ChangeSpec) : _root_.Go.OpenSpec := { _root_.Go.OpenSpec.ofChange s with cond := some uptoSmall }

/-- 'legateelaw03.CodecOrders', WHERE WHAT IT READS IS OF BULK AT MOST 1048576: true; the input reads as it did. -/
def codecOrdersUptoRow : OpenClaim := { program := "ytlhpkgcchomndaa", sum := "00b5647559eac22719f424f84270f14cefe6a2faee4b59ff092d77eb9b06e1f3", func := "legatee/legateelaw03.CodecOrders", spec := "codecOrders", unfollowed := true, recurses := true, apart := false, narrowed := true }
def CodecOrdersUptoSaid : Prop := codecOrdersUptoRow.holds Try.pinned (OpenSpec.upto codecOrdersSpec)

/-- 'legateelaw03.CodecNums', WHERE WHAT IT READS IS OF BULK AT MOST 1048576: true; the input reads as it did. -/
def codecNumsUptoRow : OpenClaim := { program := "ytlhpkgcchomndaa", sum := "00b5647559eac22719f424f84270f14cefe6a2faee4b59ff092d77eb9b06e1f3", func := "legatee/legateelaw03.CodecNums", spec := "codecNums", unfollowed := true, recurses := true, apart := false, narrowed := true }
def CodecNumsUptoSaid : Prop := codecNumsUptoRow.holds Try.pinned (OpenSpec.upto codecNumsSpec)

/-- 'legateelaw03.CodecAny', WHERE WHAT IT READS IS OF BULK AT MOST 1048576: true; the input reads as it did. -/
def codecAnyUptoRow : OpenClaim := { program := "ytlhpkgcchomndaa", sum := "00b5647559eac22719f424f84270f14cefe6a2faee4b59ff092d77eb9b06e1f3", func := "legatee/legateelaw03.CodecAny", spec := "codecAny", unfollowed := true, recurses := true, apart := false, narrowed := true }
def CodecAnyUptoSaid : Prop := codecAnyUptoRow.holds Try.pinned (OpenSpec.upto codecAnySpec)

/-- 'legateelaw03.CodecJoins', WHERE WHAT IT READS IS OF BULK AT MOST 1048576: true; the input reads as it did. -/
def codecJoinsUptoRow : OpenClaim := { program := "ytlhpkgcchomndaa", sum := "00b5647559eac22719f424f84270f14cefe6a2faee4b59ff092d77eb9b06e1f3", func := "legatee/legateelaw03.CodecJoins", spec := "codecJoins", unfollowed := true, recurses := true, apart := false, narrowed := true }
def CodecJoinsUptoSaid : Prop := codecJoinsUptoRow.holds Try.pinned (OpenSpec.upto codecJoinsSpec)

/-- 'legateelaw03.CodecSmall', WHERE WHAT IT READS IS OF BULK AT MOST 1048576: true; the input reads as it did. -/
def codecSmallUptoRow : OpenClaim := { program := "ytlhpkgcchomndaa", sum := "00b5647559eac22719f424f84270f14cefe6a2faee4b59ff092d77eb9b06e1f3", func := "legatee/legateelaw03.CodecSmall", spec := "codecSmall", unfollowed := true, recurses := true, apart := false, narrowed := true }
def CodecSmallUptoSaid : Prop := codecSmallUptoRow.holds Try.pinned (OpenSpec.upto codecSmallSpec)

/-- 'legateelaw03.CodecRows', WHERE WHAT IT READS IS OF BULK AT MOST 1048576: true; the input reads as it did. -/
def codecRowsUptoRow : OpenClaim := { program := "ytlhpkgcchomndaa", sum := "00b5647559eac22719f424f84270f14cefe6a2faee4b59ff092d77eb9b06e1f3", func := "legatee/legateelaw03.CodecRows", spec := "codecRows", unfollowed := true, recurses := true, apart := false, narrowed := true }
def CodecRowsUptoSaid : Prop := codecRowsUptoRow.holds Try.pinned (OpenSpec.upto codecRowsSpec)

end Rows
end Go.Proofs.Ytlhpkgcchomndaa

/-
  No cell of these rows narrows 'for every input' (looked for: loops, veiled, ifaces, maps, wideKeys, modest, calm, conditions, laid).
  DERIVED. THE GIVEN ROWS OF THIS SEAT. 6 by the template 'for every input the law returns true; each argument reads behind the call as it read before'; 0 by the template 'total and deterministic' (their statements: YtfceaphohlbnbaaGreatTotals.lean).
  GIVEN WITH THE SEED: the statements are not yours to turn. If you find one false, say at which input.
  Laid BY PROGRAM, IN A SANDBOX (cutbox-rows.mjs): the forced cells as the released guide's own fill.sh prints them over the translation d4671e52d7fe9378… (all of the seat's roots in one cut). By AI agents, Wed Nov 11 2026. No macro, syntax, notation, axiom, sorry.
-/
import Derived.Test.YtfceaphohlbnbaaGreatChecked
import GoSem.Claim
import GoSem.ClaimJoined
import GoSem.ClaimMapViews
import Derived.JoinedTies
import Derived.KernelRfl
namespace Go.Proofs.YtfceaphohlbnbaaGreat
/- THE CELL 'sum', in the pinned program and in every row, IS THE sha256 OF THE DUMP (.gsa) THAT YtfceaphohlbnbaaGreatProg.lean LOADS. Nothing in Lean hashes anything: it is a label: what it is worth is what the hold of that sum in a sandbox is worth. -/
noncomputable def Tryz.pinned : Pinned := { name := "ytfceaphohlbnbaagreat", sum := "d4671e52d7fe9378f1c8840e298eb8a338cc30cd37c0aba4f8294c02ccd47694", checked := Tryz.checked }
namespace Rows
def none {H : Type} : Left H := { results := [], args := [] }

/-- 'legateelaw16.ReplicaKept': WHATEVER THE INPUT: true; the input reads as it did. -/
def replicaKeptSpec : ChangeSpec := { name := "replicaKept", fn := fun _ => fun
  | [d] => { results := [.lit (.bool true)], args := [d] }
  | _ => none }
def replicaKeptRow : OpenClaim := { program := "ytfceaphohlbnbaagreat", sum := "d4671e52d7fe9378f1c8840e298eb8a338cc30cd37c0aba4f8294c02ccd47694", func := "legatee/legateelaw16.ReplicaKept", spec := "replicaKept", unfollowed := true, recurses := true, apart := false }
def ReplicaKeptSaid : Prop := replicaKeptRow.holds Tryz.pinned (OpenSpec.ofChange replicaKeptSpec)

/-- ITS FALSE NEIGHBOUR: 'it returns false'. Refute it at one input. -/
def replicaKeptWrong : ChangeSpec := { name := "replicaKept", fn := fun _ => fun
  | [d] => { results := [.lit (.bool false)], args := [d] }
  | _ => none }
def ReplicaKeptWrongFalsely : Prop := replicaKeptRow.holds Tryz.pinned (OpenSpec.ofChange replicaKeptWrong)

/-- 'legateelaw16.ReplicaRuns': WHATEVER THE INPUT: true; the input reads as it did. -/
def replicaRunsSpec : ChangeSpec := { name := "replicaRuns", fn := fun _ => fun
  | [d] => { results := [.lit (.bool true)], args := [d] }
  | _ => none }
def replicaRunsRow : OpenClaim := { program := "ytfceaphohlbnbaagreat", sum := "d4671e52d7fe9378f1c8840e298eb8a338cc30cd37c0aba4f8294c02ccd47694", func := "legatee/legateelaw16.ReplicaRuns", spec := "replicaRuns", unfollowed := true, recurses := true, apart := false }
def ReplicaRunsSaid : Prop := replicaRunsRow.holds Tryz.pinned (OpenSpec.ofChange replicaRunsSpec)

/-- ITS FALSE NEIGHBOUR: 'it returns false'. Refute it at one input. -/
def replicaRunsWrong : ChangeSpec := { name := "replicaRuns", fn := fun _ => fun
  | [d] => { results := [.lit (.bool false)], args := [d] }
  | _ => none }
def ReplicaRunsWrongFalsely : Prop := replicaRunsRow.holds Tryz.pinned (OpenSpec.ofChange replicaRunsWrong)

/-- 'legateelaw16.ReplicaNews': WHATEVER THE INPUT: true; the input reads as it did. -/
def replicaNewsSpec : ChangeSpec := { name := "replicaNews", fn := fun _ => fun
  | [d1, d2] => { results := [.lit (.bool true)], args := [d1, d2] }
  | _ => none }
def replicaNewsRow : OpenClaim := { program := "ytfceaphohlbnbaagreat", sum := "d4671e52d7fe9378f1c8840e298eb8a338cc30cd37c0aba4f8294c02ccd47694", func := "legatee/legateelaw16.ReplicaNews", spec := "replicaNews", unfollowed := true, recurses := true, apart := false }
def ReplicaNewsSaid : Prop := replicaNewsRow.holds Tryz.pinned (OpenSpec.ofChange replicaNewsSpec)

/-- ITS FALSE NEIGHBOUR: 'it returns false'. Refute it at one input. -/
def replicaNewsWrong : ChangeSpec := { name := "replicaNews", fn := fun _ => fun
  | [d1, d2] => { results := [.lit (.bool false)], args := [d1, d2] }
  | _ => none }
def ReplicaNewsWrongFalsely : Prop := replicaNewsRow.holds Tryz.pinned (OpenSpec.ofChange replicaNewsWrong)

/-- 'legateelaw16.ReplicaMirrors': WHATEVER THE INPUT: true; the input reads as it did. -/
def replicaMirrorsSpec : ChangeSpec := { name := "replicaMirrors", fn := fun _ => fun
  | [d1, d2, d3] => { results := [.lit (.bool true)], args := [d1, d2, d3] }
  | _ => none }
def replicaMirrorsRow : OpenClaim := { program := "ytfceaphohlbnbaagreat", sum := "d4671e52d7fe9378f1c8840e298eb8a338cc30cd37c0aba4f8294c02ccd47694", func := "legatee/legateelaw16.ReplicaMirrors", spec := "replicaMirrors", unfollowed := true, recurses := true, apart := false }
def ReplicaMirrorsSaid : Prop := replicaMirrorsRow.holds Tryz.pinned (OpenSpec.ofChange replicaMirrorsSpec)

/-- ITS FALSE NEIGHBOUR: 'it returns false'. Refute it at one input. -/
def replicaMirrorsWrong : ChangeSpec := { name := "replicaMirrors", fn := fun _ => fun
  | [d1, d2, d3] => { results := [.lit (.bool false)], args := [d1, d2, d3] }
  | _ => none }
def ReplicaMirrorsWrongFalsely : Prop := replicaMirrorsRow.holds Tryz.pinned (OpenSpec.ofChange replicaMirrorsWrong)

/-- 'legateelaw16.ReplicaStarts': WHATEVER THE INPUT: true; the input reads as it did. -/
def replicaStartsSpec : ChangeSpec := { name := "replicaStarts", fn := fun _ => fun
  | [d1, d2, d3] => { results := [.lit (.bool true)], args := [d1, d2, d3] }
  | _ => none }
def replicaStartsRow : OpenClaim := { program := "ytfceaphohlbnbaagreat", sum := "d4671e52d7fe9378f1c8840e298eb8a338cc30cd37c0aba4f8294c02ccd47694", func := "legatee/legateelaw16.ReplicaStarts", spec := "replicaStarts", unfollowed := true, recurses := true, apart := false }
def ReplicaStartsSaid : Prop := replicaStartsRow.holds Tryz.pinned (OpenSpec.ofChange replicaStartsSpec)

/-- ITS FALSE NEIGHBOUR: 'it returns false'. Refute it at one input. -/
def replicaStartsWrong : ChangeSpec := { name := "replicaStarts", fn := fun _ => fun
  | [d1, d2, d3] => { results := [.lit (.bool false)], args := [d1, d2, d3] }
  | _ => none }
def ReplicaStartsWrongFalsely : Prop := replicaStartsRow.holds Tryz.pinned (OpenSpec.ofChange replicaStartsWrong)

/-- 'legateelaw16.ReplicaOuts': WHATEVER THE INPUT: true; the input reads as it did. -/
def replicaOutsSpec : ChangeSpec := { name := "replicaOuts", fn := fun _ => fun
  | [d1, d2] => { results := [.lit (.bool true)], args := [d1, d2] }
  | _ => none }
def replicaOutsRow : OpenClaim := { program := "ytfceaphohlbnbaagreat", sum := "d4671e52d7fe9378f1c8840e298eb8a338cc30cd37c0aba4f8294c02ccd47694", func := "legatee/legateelaw16.ReplicaOuts", spec := "replicaOuts", unfollowed := true, recurses := true, apart := false }
def ReplicaOutsSaid : Prop := replicaOutsRow.holds Tryz.pinned (OpenSpec.ofChange replicaOutsSpec)

/-- ITS FALSE NEIGHBOUR: 'it returns false'. Refute it at one input. -/
def replicaOutsWrong : ChangeSpec := { name := "replicaOuts", fn := fun _ => fun
  | [d1, d2] => { results := [.lit (.bool false)], args := [d1, d2] }
  | _ => none }
def ReplicaOutsWrongFalsely : Prop := replicaOutsRow.holds Tryz.pinned (OpenSpec.ofChange replicaOutsWrong)

/- THE SECOND FORM. 'bulk': how many values and letters a reading holds, each counted each time it is reached (what is shared counts as often as it is met; a slice's spare places count too). A statement '..UptoSaid' is the law's where the arguments, and the package variables that the reading takes, are together of bulk at most 1048576: NARROWER than '..Said'. Prove '..Said' where nothing that the law and all that it calls make is longer than what came in: it says more and counts as full. Else prove '..UptoSaid'. A law counts once. -/
mutual
def uptoBulk {H : Type} : DataW H → Nat
  | .lit (.string bytes) => bytes.length + 1
  | .lit _ => 1
  | .nil => 1
  | .ptr d => uptoBulk d + 1
  | .slice elems spare => uptoBulkAll elems + uptoBulkAll spare + 1
  | .agg parts => uptoBulkAll parts + 1
  | .iface _ d => uptoBulk d + 1
  | .map entries => uptoBulkEntries entries + 1
  | .held _ => 1
def uptoBulkAll {H : Type} : List (DataW H) → Nat
  | [] => 0
  | d :: r => uptoBulk d + uptoBulkAll r
def uptoBulkEntries {H : Type} : List (Lit × DataW H) → Nat
  | [] => 0
  | x :: r => uptoBulkEntry x + uptoBulkEntries r
def uptoBulkEntry {H : Type} : Lit × DataW H → Nat
  | (.string bytes, d) => bytes.length + uptoBulk d + 1
  | (_, d) => uptoBulk d + 1
 end
def uptoSmall : (H : Type) → List (DataW H) → Bool := fun _ ds => decide (uptoBulkAll ds ≤ 1048576)
def OpenSpec.upto (s : _root_.Go.ChangeSpec) : _root_.Go.OpenSpec := { _root_.Go.OpenSpec.ofChange s with cond := some uptoSmall }

/-- 'legateelaw16.ReplicaKept', WHERE WHAT IT READS IS OF BULK AT MOST 1048576: true; the input reads as it did. -/
def replicaKeptUptoRow : OpenClaim := { program := "ytfceaphohlbnbaagreat", sum := "d4671e52d7fe9378f1c8840e298eb8a338cc30cd37c0aba4f8294c02ccd47694", func := "legatee/legateelaw16.ReplicaKept", spec := "replicaKept", unfollowed := true, recurses := true, apart := false, narrowed := true }
def ReplicaKeptUptoSaid : Prop := replicaKeptUptoRow.holds Tryz.pinned (OpenSpec.upto replicaKeptSpec)

/-- 'legateelaw16.ReplicaRuns', WHERE WHAT IT READS IS OF BULK AT MOST 1048576: true; the input reads as it did. -/
def replicaRunsUptoRow : OpenClaim := { program := "ytfceaphohlbnbaagreat", sum := "d4671e52d7fe9378f1c8840e298eb8a338cc30cd37c0aba4f8294c02ccd47694", func := "legatee/legateelaw16.ReplicaRuns", spec := "replicaRuns", unfollowed := true, recurses := true, apart := false, narrowed := true }
def ReplicaRunsUptoSaid : Prop := replicaRunsUptoRow.holds Tryz.pinned (OpenSpec.upto replicaRunsSpec)

/-- 'legateelaw16.ReplicaNews', WHERE WHAT IT READS IS OF BULK AT MOST 1048576: true; the input reads as it did. -/
def replicaNewsUptoRow : OpenClaim := { program := "ytfceaphohlbnbaagreat", sum := "d4671e52d7fe9378f1c8840e298eb8a338cc30cd37c0aba4f8294c02ccd47694", func := "legatee/legateelaw16.ReplicaNews", spec := "replicaNews", unfollowed := true, recurses := true, apart := false, narrowed := true }
def ReplicaNewsUptoSaid : Prop := replicaNewsUptoRow.holds Tryz.pinned (OpenSpec.upto replicaNewsSpec)

/-- 'legateelaw16.ReplicaMirrors', WHERE WHAT IT READS IS OF BULK AT MOST 1048576: true; the input reads as it did. -/
def replicaMirrorsUptoRow : OpenClaim := { program := "ytfceaphohlbnbaagreat", sum := "d4671e52d7fe9378f1c8840e298eb8a338cc30cd37c0aba4f8294c02ccd47694", func := "legatee/legateelaw16.ReplicaMirrors", spec := "replicaMirrors", unfollowed := true, recurses := true, apart := false, narrowed := true }
def ReplicaMirrorsUptoSaid : Prop := replicaMirrorsUptoRow.holds Tryz.pinned (OpenSpec.upto replicaMirrorsSpec)

/-- 'legateelaw16.ReplicaStarts', WHERE WHAT IT READS IS OF BULK AT MOST 1048576: true; the input reads as it did. -/
def replicaStartsUptoRow : OpenClaim := { program := "ytfceaphohlbnbaagreat", sum := "d4671e52d7fe9378f1c8840e298eb8a338cc30cd37c0aba4f8294c02ccd47694", func := "legatee/legateelaw16.ReplicaStarts", spec := "replicaStarts", unfollowed := true, recurses := true, apart := false, narrowed := true }
def ReplicaStartsUptoSaid : Prop := replicaStartsUptoRow.holds Tryz.pinned (OpenSpec.upto replicaStartsSpec)

/-- 'legateelaw16.ReplicaOuts', WHERE WHAT IT READS IS OF BULK AT MOST 1048576: true; the input reads as it did. -/
def replicaOutsUptoRow : OpenClaim := { program := "ytfceaphohlbnbaagreat", sum := "d4671e52d7fe9378f1c8840e298eb8a338cc30cd37c0aba4f8294c02ccd47694", func := "legatee/legateelaw16.ReplicaOuts", spec := "replicaOuts", unfollowed := true, recurses := true, apart := false, narrowed := true }
def ReplicaOutsUptoSaid : Prop := replicaOutsUptoRow.holds Tryz.pinned (OpenSpec.upto replicaOutsSpec)

end Rows
end Go.Proofs.YtfceaphohlbnbaaGreat

/-
  No cell of these rows narrows 'for every input' (looked for: loops, veiled, ifaces, maps, wideKeys, modest, calm, conditions, laid).
  DERIVED. THE GIVEN ROWS OF THIS SEAT. 9 by the template 'for every input the law returns true; each argument reads behind the call as it read before'; 0 by the template 'total and deterministic' (their statements: YtjblgopghhgflaaGreatTotals.lean).
  GIVEN WITH THE SEED: the statements are not yours to turn. If you find one false, say at which input.
  Laid BY PROGRAM, IN A SANDBOX (cutbox-rows.mjs): the forced cells as the released guide's own fill.sh prints them over the translation a12882561cc555a3… (all of the seat's roots in one cut). By AI agents, Wed Nov 11 2026. No macro, syntax, notation, axiom, sorry.
-/
import Derived.Test.YtjblgopghhgflaaGreatChecked
import GoSem.Claim
import GoSem.ClaimJoined
import GoSem.ClaimMapViews
import Derived.JoinedTies
import Derived.KernelRfl
namespace Go.Proofs.YtjblgopghhgflaaGreat
/- THE CELL 'sum', in the pinned program and in every row, IS THE sha256 OF THE DUMP (.gsa) THAT YtjblgopghhgflaaGreatProg.lean LOADS. Nothing in Lean hashes anything: it is a label: what it is worth is what the hold of that sum in a sandbox is worth. -/
noncomputable def Tryz.pinned : Pinned := { name := "ytjblgopghhgflaagreat", sum := "a12882561cc555a38dccea88dda80588c9bf22c5b56639fb2dcd3b35108e4f31", checked := Tryz.checked }
namespace Rows
def none {H : Type} : Left H := { results := [], args := [] }

/-- 'legateelaw17.ClusterReplies': WHATEVER THE INPUT: true; the input reads as it did. -/
def clusterRepliesSpec : ChangeSpec := { name := "clusterReplies", fn := fun _ => fun
  | [d] => { results := [.lit (.bool true)], args := [d] }
  | _ => none }
def clusterRepliesRow : OpenClaim := { program := "ytjblgopghhgflaagreat", sum := "a12882561cc555a38dccea88dda80588c9bf22c5b56639fb2dcd3b35108e4f31", func := "legatee/legateelaw17.ClusterReplies", spec := "clusterReplies", unfollowed := true, recurses := true, apart := false }
def ClusterRepliesSaid : Prop := clusterRepliesRow.holds Tryz.pinned (OpenSpec.ofChange clusterRepliesSpec)

/-- ITS FALSE NEIGHBOUR: 'it returns false'. Refute it at one input. -/
def clusterRepliesWrong : ChangeSpec := { name := "clusterReplies", fn := fun _ => fun
  | [d] => { results := [.lit (.bool false)], args := [d] }
  | _ => none }
def ClusterRepliesWrongFalsely : Prop := clusterRepliesRow.holds Tryz.pinned (OpenSpec.ofChange clusterRepliesWrong)

/-- 'legateelaw17.ClusterChain': WHATEVER THE INPUT: true; the input reads as it did. -/
def clusterChainSpec : ChangeSpec := { name := "clusterChain", fn := fun _ => fun
  | [d] => { results := [.lit (.bool true)], args := [d] }
  | _ => none }
def clusterChainRow : OpenClaim := { program := "ytjblgopghhgflaagreat", sum := "a12882561cc555a38dccea88dda80588c9bf22c5b56639fb2dcd3b35108e4f31", func := "legatee/legateelaw17.ClusterChain", spec := "clusterChain", unfollowed := true, recurses := true, apart := false }
def ClusterChainSaid : Prop := clusterChainRow.holds Tryz.pinned (OpenSpec.ofChange clusterChainSpec)

/-- ITS FALSE NEIGHBOUR: 'it returns false'. Refute it at one input. -/
def clusterChainWrong : ChangeSpec := { name := "clusterChain", fn := fun _ => fun
  | [d] => { results := [.lit (.bool false)], args := [d] }
  | _ => none }
def ClusterChainWrongFalsely : Prop := clusterChainRow.holds Tryz.pinned (OpenSpec.ofChange clusterChainWrong)

/-- 'legateelaw18.ScriptRuns': WHATEVER THE INPUT: true; the input reads as it did. -/
def scriptRunsSpec : ChangeSpec := { name := "scriptRuns", fn := fun _ => fun
  | [d] => { results := [.lit (.bool true)], args := [d] }
  | _ => none }
def scriptRunsRow : OpenClaim := { program := "ytjblgopghhgflaagreat", sum := "a12882561cc555a38dccea88dda80588c9bf22c5b56639fb2dcd3b35108e4f31", func := "legatee/legateelaw18.ScriptRuns", spec := "scriptRuns", unfollowed := true, recurses := true, apart := false }
def ScriptRunsSaid : Prop := scriptRunsRow.holds Tryz.pinned (OpenSpec.ofChange scriptRunsSpec)

/-- ITS FALSE NEIGHBOUR: 'it returns false'. Refute it at one input. -/
def scriptRunsWrong : ChangeSpec := { name := "scriptRuns", fn := fun _ => fun
  | [d] => { results := [.lit (.bool false)], args := [d] }
  | _ => none }
def ScriptRunsWrongFalsely : Prop := scriptRunsRow.holds Tryz.pinned (OpenSpec.ofChange scriptRunsWrong)

/-- 'legateelaw17.ClusterTwice': WHATEVER THE INPUT: true; the input reads as it did. -/
def clusterTwiceSpec : ChangeSpec := { name := "clusterTwice", fn := fun _ => fun
  | [d] => { results := [.lit (.bool true)], args := [d] }
  | _ => none }
def clusterTwiceRow : OpenClaim := { program := "ytjblgopghhgflaagreat", sum := "a12882561cc555a38dccea88dda80588c9bf22c5b56639fb2dcd3b35108e4f31", func := "legatee/legateelaw17.ClusterTwice", spec := "clusterTwice", unfollowed := true, recurses := true, apart := false }
def ClusterTwiceSaid : Prop := clusterTwiceRow.holds Tryz.pinned (OpenSpec.ofChange clusterTwiceSpec)

/-- ITS FALSE NEIGHBOUR: 'it returns false'. Refute it at one input. -/
def clusterTwiceWrong : ChangeSpec := { name := "clusterTwice", fn := fun _ => fun
  | [d] => { results := [.lit (.bool false)], args := [d] }
  | _ => none }
def ClusterTwiceWrongFalsely : Prop := clusterTwiceRow.holds Tryz.pinned (OpenSpec.ofChange clusterTwiceWrong)

/-- 'legateelaw17.ClusterZombie': WHATEVER THE INPUT: true; the input reads as it did. -/
def clusterZombieSpec : ChangeSpec := { name := "clusterZombie", fn := fun _ => fun
  | [d1, d2, d3] => { results := [.lit (.bool true)], args := [d1, d2, d3] }
  | _ => none }
def clusterZombieRow : OpenClaim := { program := "ytjblgopghhgflaagreat", sum := "a12882561cc555a38dccea88dda80588c9bf22c5b56639fb2dcd3b35108e4f31", func := "legatee/legateelaw17.ClusterZombie", spec := "clusterZombie", unfollowed := true, recurses := true, apart := false }
def ClusterZombieSaid : Prop := clusterZombieRow.holds Tryz.pinned (OpenSpec.ofChange clusterZombieSpec)

/-- ITS FALSE NEIGHBOUR: 'it returns false'. Refute it at one input. -/
def clusterZombieWrong : ChangeSpec := { name := "clusterZombie", fn := fun _ => fun
  | [d1, d2, d3] => { results := [.lit (.bool false)], args := [d1, d2, d3] }
  | _ => none }
def ClusterZombieWrongFalsely : Prop := clusterZombieRow.holds Tryz.pinned (OpenSpec.ofChange clusterZombieWrong)

/-- 'legateelaw19.AuditKeys': WHATEVER THE INPUT: true; the input reads as it did. -/
def auditKeysSpec : ChangeSpec := { name := "auditKeys", fn := fun _ => fun
  | [d1, d2] => { results := [.lit (.bool true)], args := [d1, d2] }
  | _ => none }
def auditKeysRow : OpenClaim := { program := "ytjblgopghhgflaagreat", sum := "a12882561cc555a38dccea88dda80588c9bf22c5b56639fb2dcd3b35108e4f31", func := "legatee/legateelaw19.AuditKeys", spec := "auditKeys", unfollowed := true, recurses := true, apart := false }
def AuditKeysSaid : Prop := auditKeysRow.holds Tryz.pinned (OpenSpec.ofChange auditKeysSpec)

/-- ITS FALSE NEIGHBOUR: 'it returns false'. Refute it at one input. -/
def auditKeysWrong : ChangeSpec := { name := "auditKeys", fn := fun _ => fun
  | [d1, d2] => { results := [.lit (.bool false)], args := [d1, d2] }
  | _ => none }
def AuditKeysWrongFalsely : Prop := auditKeysRow.holds Tryz.pinned (OpenSpec.ofChange auditKeysWrong)

/-- 'legateelaw19.AuditTruths': WHATEVER THE INPUT: true; the input reads as it did. -/
def auditTruthsSpec : ChangeSpec := { name := "auditTruths", fn := fun _ => fun
  | [d] => { results := [.lit (.bool true)], args := [d] }
  | _ => none }
def auditTruthsRow : OpenClaim := { program := "ytjblgopghhgflaagreat", sum := "a12882561cc555a38dccea88dda80588c9bf22c5b56639fb2dcd3b35108e4f31", func := "legatee/legateelaw19.AuditTruths", spec := "auditTruths", unfollowed := true, recurses := true, apart := false }
def AuditTruthsSaid : Prop := auditTruthsRow.holds Tryz.pinned (OpenSpec.ofChange auditTruthsSpec)

/-- ITS FALSE NEIGHBOUR: 'it returns false'. Refute it at one input. -/
def auditTruthsWrong : ChangeSpec := { name := "auditTruths", fn := fun _ => fun
  | [d] => { results := [.lit (.bool false)], args := [d] }
  | _ => none }
def AuditTruthsWrongFalsely : Prop := auditTruthsRow.holds Tryz.pinned (OpenSpec.ofChange auditTruthsWrong)

/-- 'legateelaw19.AuditOwners': WHATEVER THE INPUT: true; the input reads as it did. -/
def auditOwnersSpec : ChangeSpec := { name := "auditOwners", fn := fun _ => fun
  | [d1, d2] => { results := [.lit (.bool true)], args := [d1, d2] }
  | _ => none }
def auditOwnersRow : OpenClaim := { program := "ytjblgopghhgflaagreat", sum := "a12882561cc555a38dccea88dda80588c9bf22c5b56639fb2dcd3b35108e4f31", func := "legatee/legateelaw19.AuditOwners", spec := "auditOwners", unfollowed := true, recurses := true, apart := false }
def AuditOwnersSaid : Prop := auditOwnersRow.holds Tryz.pinned (OpenSpec.ofChange auditOwnersSpec)

/-- ITS FALSE NEIGHBOUR: 'it returns false'. Refute it at one input. -/
def auditOwnersWrong : ChangeSpec := { name := "auditOwners", fn := fun _ => fun
  | [d1, d2] => { results := [.lit (.bool false)], args := [d1, d2] }
  | _ => none }
def AuditOwnersWrongFalsely : Prop := auditOwnersRow.holds Tryz.pinned (OpenSpec.ofChange auditOwnersWrong)

/-- 'legateelaw19.AuditLooks': WHATEVER THE INPUT: true; the input reads as it did. -/
def auditLooksSpec : ChangeSpec := { name := "auditLooks", fn := fun _ => fun
  | [d] => { results := [.lit (.bool true)], args := [d] }
  | _ => none }
def auditLooksRow : OpenClaim := { program := "ytjblgopghhgflaagreat", sum := "a12882561cc555a38dccea88dda80588c9bf22c5b56639fb2dcd3b35108e4f31", func := "legatee/legateelaw19.AuditLooks", spec := "auditLooks", unfollowed := true, recurses := true, apart := false }
def AuditLooksSaid : Prop := auditLooksRow.holds Tryz.pinned (OpenSpec.ofChange auditLooksSpec)

/-- ITS FALSE NEIGHBOUR: 'it returns false'. Refute it at one input. -/
def auditLooksWrong : ChangeSpec := { name := "auditLooks", fn := fun _ => fun
  | [d] => { results := [.lit (.bool false)], args := [d] }
  | _ => none }
def AuditLooksWrongFalsely : Prop := auditLooksRow.holds Tryz.pinned (OpenSpec.ofChange auditLooksWrong)

/- THE SECOND FORM. 'bulk': how many values and letters a reading holds, each counted each time it is reached (what is shared counts as often as it is met; a slice's spare places count too). A statement '..UptoSaid' is the law's where the arguments, and the package variables that the reading takes, are together of bulk at most 1048576: NARROWER than '..Said'. Prove '..Said' where nothing that the law and all that it calls make is longer than what came in: it says more and counts as full. Else prove '..UptoSaid'. A law counts once. -/
mutual
def uptoBulk {H : Type} : DataW H → Nat
  | .lit (.string bytes) => bytes.length + 1
  | .lit _ => 1
  | .nil => 1
  | .ptr d => uptoBulk d + 1
  | .slice elems spare => uptoBulkAll elems + uptoBulkAll spare + 1
  | .agg parts => uptoBulkAll parts + 1
  | .iface _ d => uptoBulk d + 1
  | .map entries => uptoBulkEntries entries + 1
  | .held _ => 1
def uptoBulkAll {H : Type} : List (DataW H) → Nat
  | [] => 0
  | d :: r => uptoBulk d + uptoBulkAll r
def uptoBulkEntries {H : Type} : List (Lit × DataW H) → Nat
  | [] => 0
  | x :: r => uptoBulkEntry x + uptoBulkEntries r
def uptoBulkEntry {H : Type} : Lit × DataW H → Nat
  | (.string bytes, d) => bytes.length + uptoBulk d + 1
  | (_, d) => uptoBulk d + 1
 end
def uptoSmall : (H : Type) → List (DataW H) → Bool := fun _ ds => decide (uptoBulkAll ds ≤ 1048576)
def OpenSpec.upto (s : _root_.Go.ChangeSpec) : _root_.Go.OpenSpec := { _root_.Go.OpenSpec.ofChange s with cond := some uptoSmall }

/-- 'legateelaw17.ClusterReplies', WHERE WHAT IT READS IS OF BULK AT MOST 1048576: true; the input reads as it did. -/
def clusterRepliesUptoRow : OpenClaim := { program := "ytjblgopghhgflaagreat", sum := "a12882561cc555a38dccea88dda80588c9bf22c5b56639fb2dcd3b35108e4f31", func := "legatee/legateelaw17.ClusterReplies", spec := "clusterReplies", unfollowed := true, recurses := true, apart := false, narrowed := true }
def ClusterRepliesUptoSaid : Prop := clusterRepliesUptoRow.holds Tryz.pinned (OpenSpec.upto clusterRepliesSpec)

/-- 'legateelaw17.ClusterChain', WHERE WHAT IT READS IS OF BULK AT MOST 1048576: true; the input reads as it did. -/
def clusterChainUptoRow : OpenClaim := { program := "ytjblgopghhgflaagreat", sum := "a12882561cc555a38dccea88dda80588c9bf22c5b56639fb2dcd3b35108e4f31", func := "legatee/legateelaw17.ClusterChain", spec := "clusterChain", unfollowed := true, recurses := true, apart := false, narrowed := true }
def ClusterChainUptoSaid : Prop := clusterChainUptoRow.holds Tryz.pinned (OpenSpec.upto clusterChainSpec)

/-- 'legateelaw18.ScriptRuns', WHERE WHAT IT READS IS OF BULK AT MOST 1048576: true; the input reads as it did. -/
def scriptRunsUptoRow : OpenClaim := { program := "ytjblgopghhgflaagreat", sum := "a12882561cc555a38dccea88dda80588c9bf22c5b56639fb2dcd3b35108e4f31", func := "legatee/legateelaw18.ScriptRuns", spec := "scriptRuns", unfollowed := true, recurses := true, apart := false, narrowed := true }
def ScriptRunsUptoSaid : Prop := scriptRunsUptoRow.holds Tryz.pinned (OpenSpec.upto scriptRunsSpec)

/-- 'legateelaw17.ClusterTwice', WHERE WHAT IT READS IS OF BULK AT MOST 1048576: true; the input reads as it did. -/
def clusterTwiceUptoRow : OpenClaim := { program := "ytjblgopghhgflaagreat", sum := "a12882561cc555a38dccea88dda80588c9bf22c5b56639fb2dcd3b35108e4f31", func := "legatee/legateelaw17.ClusterTwice", spec := "clusterTwice", unfollowed := true, recurses := true, apart := false, narrowed := true }
def ClusterTwiceUptoSaid : Prop := clusterTwiceUptoRow.holds Tryz.pinned (OpenSpec.upto clusterTwiceSpec)

/-- 'legateelaw17.ClusterZombie', WHERE WHAT IT READS IS OF BULK AT MOST 1048576: true; the input reads as it did. -/
def clusterZombieUptoRow : OpenClaim := { program := "ytjblgopghhgflaagreat", sum := "a12882561cc555a38dccea88dda80588c9bf22c5b56639fb2dcd3b35108e4f31", func := "legatee/legateelaw17.ClusterZombie", spec := "clusterZombie", unfollowed := true, recurses := true, apart := false, narrowed := true }
def ClusterZombieUptoSaid : Prop := clusterZombieUptoRow.holds Tryz.pinned (OpenSpec.upto clusterZombieSpec)

/-- 'legateelaw19.AuditKeys', WHERE WHAT IT READS IS OF BULK AT MOST 1048576: true; the input reads as it did. -/
def auditKeysUptoRow : OpenClaim := { program := "ytjblgopghhgflaagreat", sum := "a12882561cc555a38dccea88dda80588c9bf22c5b56639fb2dcd3b35108e4f31", func := "legatee/legateelaw19.AuditKeys", spec := "auditKeys", unfollowed := true, recurses := true, apart := false, narrowed := true }
def AuditKeysUptoSaid : Prop := auditKeysUptoRow.holds Tryz.pinned (OpenSpec.upto auditKeysSpec)

/-- 'legateelaw19.AuditTruths', WHERE WHAT IT READS IS OF BULK AT MOST 1048576: true; the input reads as it did. -/
def auditTruthsUptoRow : OpenClaim := { program := "ytjblgopghhgflaagreat", sum := "a12882561cc555a38dccea88dda80588c9bf22c5b56639fb2dcd3b35108e4f31", func := "legatee/legateelaw19.AuditTruths", spec := "auditTruths", unfollowed := true, recurses := true, apart := false, narrowed := true }
def AuditTruthsUptoSaid : Prop := auditTruthsUptoRow.holds Tryz.pinned (OpenSpec.upto auditTruthsSpec)

/-- 'legateelaw19.AuditOwners', WHERE WHAT IT READS IS OF BULK AT MOST 1048576: true; the input reads as it did. -/
def auditOwnersUptoRow : OpenClaim := { program := "ytjblgopghhgflaagreat", sum := "a12882561cc555a38dccea88dda80588c9bf22c5b56639fb2dcd3b35108e4f31", func := "legatee/legateelaw19.AuditOwners", spec := "auditOwners", unfollowed := true, recurses := true, apart := false, narrowed := true }
def AuditOwnersUptoSaid : Prop := auditOwnersUptoRow.holds Tryz.pinned (OpenSpec.upto auditOwnersSpec)

/-- 'legateelaw19.AuditLooks', WHERE WHAT IT READS IS OF BULK AT MOST 1048576: true; the input reads as it did. -/
def auditLooksUptoRow : OpenClaim := { program := "ytjblgopghhgflaagreat", sum := "a12882561cc555a38dccea88dda80588c9bf22c5b56639fb2dcd3b35108e4f31", func := "legatee/legateelaw19.AuditLooks", spec := "auditLooks", unfollowed := true, recurses := true, apart := false, narrowed := true }
def AuditLooksUptoSaid : Prop := auditLooksUptoRow.holds Tryz.pinned (OpenSpec.upto auditLooksSpec)

end Rows
end Go.Proofs.YtjblgopghhgflaaGreat

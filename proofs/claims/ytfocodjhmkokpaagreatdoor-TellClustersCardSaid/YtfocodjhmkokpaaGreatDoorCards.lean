/-
  DERIVED. GIVEN WITH THE SEED: THE CARDS: each row of YtfocodjhmkokpaaGreatDoorRows.lean that lists a variable, with what it lists TIED to the program's text (the seventh form; the later family's looks); each row that meets fmt, with fmt's text TOLD by the authors' own Lean function (tested against real Go, not proved from fmt's source: count such statements apart). THE CARD IS WHAT COUNTS. Prove the row's statement (the work); the ties are given (YtfocodjhmkokpaaGreatDoorTie.lean); close each card by the builder's one call (the guide's Derived/Test/ToyasCard.lean, 'card_holds'). Laid BY PROGRAM, IN A SANDBOX (cutbox-door.mjs). By AI agents, Wed Nov 11 2026. No macro, syntax, notation, axiom, sorry.
-/
import Derived.Test.YtfocodjhmkokpaaGreatDoorRows
import GoSem.ClaimSeven
namespace Go.Proofs.YtfocodjhmkokpaaGreatDoor
namespace Rows

/-- THE TIED CARD OF 'legateelaw20.TellClusters'. -/
def tellClustersCard : Claim7 := { stood := { row := tellClustersRow, standIns := [], harness := (true, "7f4c80b741f7b6ebadf020a5f28dfc42ed8111a7d9ec9d529dafda72a2752cdf"), looks := true }, kinds := [], alts := [], laidByText := true, laidKinds := [.data, .data, .data], laidTests := true, laidLooks := .later }
def TellClustersCardSaid : Prop := Claim7.holds Tryz.pinned (.plain (OpenSpec.ofChange tellClustersSpec)) tellClustersCard

/-- THE TIED CARD OF 'legateelaw20.TellRuns'. -/
def tellRunsCard : Claim7 := { stood := { row := tellRunsRow, standIns := [], harness := (true, "7f4c80b741f7b6ebadf020a5f28dfc42ed8111a7d9ec9d529dafda72a2752cdf"), looks := true }, kinds := [], alts := [], laidByText := true, laidKinds := [.data, .data, .data], laidTests := true, laidLooks := .later }
def TellRunsCardSaid : Prop := Claim7.holds Tryz.pinned (.plain (OpenSpec.ofChange tellRunsSpec)) tellRunsCard

/-- THE TIED CARD OF 'legateelaw20.TellLines'. -/
def tellLinesCard : Claim7 := { stood := { row := tellLinesRow, standIns := [], harness := (true, "7f4c80b741f7b6ebadf020a5f28dfc42ed8111a7d9ec9d529dafda72a2752cdf"), looks := true }, kinds := [], alts := [], laidByText := true, laidKinds := [.data, .data, .data], laidTests := true, laidLooks := .later }
def TellLinesCardSaid : Prop := Claim7.holds Tryz.pinned (.plain (OpenSpec.ofChange tellLinesSpec)) tellLinesCard

/-- THE TIED CARD OF 'legateetop.WholeBusy'. -/
def wholeBusyCard : Claim7 := { stood := { row := wholeBusyRow, standIns := [], harness := (true, "7f4c80b741f7b6ebadf020a5f28dfc42ed8111a7d9ec9d529dafda72a2752cdf"), looks := true }, kinds := [], alts := [], laidByText := true, laidKinds := [.data, .data, .data], laidTests := true, laidLooks := .later }
def WholeBusyCardSaid : Prop := Claim7.holds Tryz.pinned (.plain (OpenSpec.ofChange wholeBusySpec)) wholeBusyCard

/-- THE SECOND FORM's CARD OF 'legateelaw20.TellClusters'. -/
def tellClustersUptoCard : Claim7 := { stood := { row := tellClustersUptoRow, standIns := [], harness := (true, "7f4c80b741f7b6ebadf020a5f28dfc42ed8111a7d9ec9d529dafda72a2752cdf"), looks := true }, kinds := [], alts := [], laidByText := true, laidKinds := [.data, .data, .data], laidTests := true, laidLooks := .later }
def TellClustersUptoCardSaid : Prop := Claim7.holds Tryz.pinned (.plain (OpenSpec.upto tellClustersSpec)) tellClustersUptoCard

/-- THE SECOND FORM's CARD OF 'legateelaw20.TellRuns'. -/
def tellRunsUptoCard : Claim7 := { stood := { row := tellRunsUptoRow, standIns := [], harness := (true, "7f4c80b741f7b6ebadf020a5f28dfc42ed8111a7d9ec9d529dafda72a2752cdf"), looks := true }, kinds := [], alts := [], laidByText := true, laidKinds := [.data, .data, .data], laidTests := true, laidLooks := .later }
def TellRunsUptoCardSaid : Prop := Claim7.holds Tryz.pinned (.plain (OpenSpec.upto tellRunsSpec)) tellRunsUptoCard

/-- THE SECOND FORM's CARD OF 'legateelaw20.TellLines'. -/
def tellLinesUptoCard : Claim7 := { stood := { row := tellLinesUptoRow, standIns := [], harness := (true, "7f4c80b741f7b6ebadf020a5f28dfc42ed8111a7d9ec9d529dafda72a2752cdf"), looks := true }, kinds := [], alts := [], laidByText := true, laidKinds := [.data, .data, .data], laidTests := true, laidLooks := .later }
def TellLinesUptoCardSaid : Prop := Claim7.holds Tryz.pinned (.plain (OpenSpec.upto tellLinesSpec)) tellLinesUptoCard

/-- THE SECOND FORM's CARD OF 'legateetop.WholeBusy'. -/
def wholeBusyUptoCard : Claim7 := { stood := { row := wholeBusyUptoRow, standIns := [], harness := (true, "7f4c80b741f7b6ebadf020a5f28dfc42ed8111a7d9ec9d529dafda72a2752cdf"), looks := true }, kinds := [], alts := [], laidByText := true, laidKinds := [.data, .data, .data], laidTests := true, laidLooks := .later }
def WholeBusyUptoCardSaid : Prop := Claim7.holds Tryz.pinned (.plain (OpenSpec.upto wholeBusySpec)) wholeBusyUptoCard
end Rows
end Go.Proofs.YtfocodjhmkokpaaGreatDoor

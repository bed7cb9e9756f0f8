/-
  DERIVED. GIVEN WITH THE SEED: THE CARDS: each row of YtkhjnolhhidecaaGreatDoorRows.lean that lists a variable, with what it lists TIED to the program's text (the seventh form; the later family's looks); each row that meets fmt, with fmt's text TOLD by the authors' own Lean function (tested against real Go, not proved from fmt's source: count such statements apart). THE CARD IS WHAT COUNTS. Prove the row's statement (the work); the ties are given (YtkhjnolhhidecaaGreatDoorTie.lean); close each card by the builder's one call (the guide's Derived/Test/ToyasCard.lean, 'card_holds'). Laid BY PROGRAM, IN A SANDBOX (cutbox-door.mjs). By AI agents, Wed Nov 11 2026. No macro, syntax, notation, axiom, sorry.
-/
import Derived.Test.YtkhjnolhhidecaaGreatDoorRows
import GoSem.ClaimSeven
namespace Go.Proofs.YtkhjnolhhidecaaGreatDoor
namespace Rows

/-- THE TIED CARD OF 'legateetop.WholeJoins'. -/
def wholeJoinsCard : Claim7 := { stood := { row := wholeJoinsRow, standIns := [], harness := (true, "32ce75f5253f2c1fdbefb7c958959c11816e79257b25e03de970f8bce3c1a744"), looks := true }, kinds := [], alts := [], laidByText := true, laidKinds := [.data, .data, .data], laidTests := true, laidLooks := .later }
def WholeJoinsCardSaid : Prop := Claim7.holds Tryz.pinned (.plain (OpenSpec.ofChange wholeJoinsSpec)) wholeJoinsCard

/-- THE TIED CARD OF 'legateetop.WholeChainOfHeirs'. -/
def wholeChainOfHeirsCard : Claim7 := { stood := { row := wholeChainOfHeirsRow, standIns := [], harness := (true, "32ce75f5253f2c1fdbefb7c958959c11816e79257b25e03de970f8bce3c1a744"), looks := true }, kinds := [], alts := [], laidByText := true, laidKinds := [.data, .data, .data], laidTests := true, laidLooks := .later }
def WholeChainOfHeirsCardSaid : Prop := Claim7.holds Tryz.pinned (.plain (OpenSpec.ofChange wholeChainOfHeirsSpec)) wholeChainOfHeirsCard

/-- THE TIED CARD OF 'legateetop.WholeLateGift'. -/
def wholeLateGiftCard : Claim7 := { stood := { row := wholeLateGiftRow, standIns := [], harness := (true, "32ce75f5253f2c1fdbefb7c958959c11816e79257b25e03de970f8bce3c1a744"), looks := true }, kinds := [], alts := [], laidByText := true, laidKinds := [.data, .data, .data], laidTests := true, laidLooks := .later }
def WholeLateGiftCardSaid : Prop := Claim7.holds Tryz.pinned (.plain (OpenSpec.ofChange wholeLateGiftSpec)) wholeLateGiftCard

/-- THE TIED CARD OF 'legateetop.WholeBusy'. -/
def wholeBusyCard : Claim7 := { stood := { row := wholeBusyRow, standIns := [], harness := (true, "32ce75f5253f2c1fdbefb7c958959c11816e79257b25e03de970f8bce3c1a744"), looks := true }, kinds := [], alts := [], laidByText := true, laidKinds := [.data, .data, .data], laidTests := true, laidLooks := .later }
def WholeBusyCardSaid : Prop := Claim7.holds Tryz.pinned (.plain (OpenSpec.ofChange wholeBusySpec)) wholeBusyCard

/-- THE SECOND FORM's CARD OF 'legateetop.WholeJoins'. -/
def wholeJoinsUptoCard : Claim7 := { stood := { row := wholeJoinsUptoRow, standIns := [], harness := (true, "32ce75f5253f2c1fdbefb7c958959c11816e79257b25e03de970f8bce3c1a744"), looks := true }, kinds := [], alts := [], laidByText := true, laidKinds := [.data, .data, .data], laidTests := true, laidLooks := .later }
def WholeJoinsUptoCardSaid : Prop := Claim7.holds Tryz.pinned (.plain (OpenSpec.upto wholeJoinsSpec)) wholeJoinsUptoCard

/-- THE SECOND FORM's CARD OF 'legateetop.WholeChainOfHeirs'. -/
def wholeChainOfHeirsUptoCard : Claim7 := { stood := { row := wholeChainOfHeirsUptoRow, standIns := [], harness := (true, "32ce75f5253f2c1fdbefb7c958959c11816e79257b25e03de970f8bce3c1a744"), looks := true }, kinds := [], alts := [], laidByText := true, laidKinds := [.data, .data, .data], laidTests := true, laidLooks := .later }
def WholeChainOfHeirsUptoCardSaid : Prop := Claim7.holds Tryz.pinned (.plain (OpenSpec.upto wholeChainOfHeirsSpec)) wholeChainOfHeirsUptoCard

/-- THE SECOND FORM's CARD OF 'legateetop.WholeLateGift'. -/
def wholeLateGiftUptoCard : Claim7 := { stood := { row := wholeLateGiftUptoRow, standIns := [], harness := (true, "32ce75f5253f2c1fdbefb7c958959c11816e79257b25e03de970f8bce3c1a744"), looks := true }, kinds := [], alts := [], laidByText := true, laidKinds := [.data, .data, .data], laidTests := true, laidLooks := .later }
def WholeLateGiftUptoCardSaid : Prop := Claim7.holds Tryz.pinned (.plain (OpenSpec.upto wholeLateGiftSpec)) wholeLateGiftUptoCard

/-- THE SECOND FORM's CARD OF 'legateetop.WholeBusy'. -/
def wholeBusyUptoCard : Claim7 := { stood := { row := wholeBusyUptoRow, standIns := [], harness := (true, "32ce75f5253f2c1fdbefb7c958959c11816e79257b25e03de970f8bce3c1a744"), looks := true }, kinds := [], alts := [], laidByText := true, laidKinds := [.data, .data, .data], laidTests := true, laidLooks := .later }
def WholeBusyUptoCardSaid : Prop := Claim7.holds Tryz.pinned (.plain (OpenSpec.upto wholeBusySpec)) wholeBusyUptoCard
end Rows
end Go.Proofs.YtkhjnolhhidecaaGreatDoor

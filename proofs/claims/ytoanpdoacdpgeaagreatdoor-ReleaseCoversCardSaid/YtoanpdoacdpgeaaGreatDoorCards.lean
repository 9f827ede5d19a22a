/-
  DERIVED. GIVEN WITH THE SEED: THE CARDS: each row of YtoanpdoacdpgeaaGreatDoorRows.lean that lists a variable, with what it lists TIED to the program's text (the seventh form; the later family's looks); each row that meets fmt, with fmt's text TOLD by the authors' own Lean function (tested against real Go, not proved from fmt's source: count such statements apart). THE CARD IS WHAT COUNTS. Prove the row's statement (the work); the ties are given (YtoanpdoacdpgeaaGreatDoorTie.lean); close each card by the builder's one call (the guide's Derived/Test/ToyasCard.lean, 'card_holds'). Laid BY PROGRAM, IN A SANDBOX (cutbox-door.mjs). By AI agents, Wed Nov 11 2026. No macro, syntax, notation, axiom, sorry.
-/
import Derived.Test.YtoanpdoacdpgeaaGreatDoorRows
import GoSem.ClaimSeven
namespace Go.Proofs.YtoanpdoacdpgeaaGreatDoor
namespace Rows

/-- THE TIED CARD OF 'louvrelaw31.BookApplies'. -/
def bookAppliesCard : Claim7 := { stood := { row := bookAppliesRow, standIns := [], harness := (true, "fc3edb6548063e244778e537024da02a2b6624ff068467140e1145bd60a0ba00"), looks := true }, kinds := [], alts := [], laidByText := true, laidKinds := [.data], laidTests := true, laidLooks := .later }
def BookAppliesCardSaid : Prop := Claim7.holds Tryz.pinned (.plain (OpenSpec.ofChange bookAppliesSpec)) bookAppliesCard

/-- THE TIED CARD OF 'louvrelaw31.BookChecks'. -/
def bookChecksCard : Claim7 := { stood := { row := bookChecksRow, standIns := [], harness := (true, "fc3edb6548063e244778e537024da02a2b6624ff068467140e1145bd60a0ba00"), looks := true }, kinds := [], alts := [], laidByText := true, laidKinds := [.data], laidTests := true, laidLooks := .later }
def BookChecksCardSaid : Prop := Claim7.holds Tryz.pinned (.plain (OpenSpec.ofChange bookChecksSpec)) bookChecksCard

/-- THE TIED CARD OF 'louvrelaw34.ReleaseMatches'. -/
def releaseMatchesCard : Claim7 := { stood := { row := releaseMatchesRow, standIns := [], harness := (true, "fc3edb6548063e244778e537024da02a2b6624ff068467140e1145bd60a0ba00"), looks := true }, kinds := [], alts := [], laidByText := true, laidKinds := [.data], laidTests := true, laidLooks := .later }
def ReleaseMatchesCardSaid : Prop := Claim7.holds Tryz.pinned (.plain (OpenSpec.ofChange releaseMatchesSpec)) releaseMatchesCard

/-- THE TIED CARD OF 'louvrelaw34.ReleaseExamples'. -/
def releaseExamplesCard : Claim7 := { stood := { row := releaseExamplesRow, standIns := [], harness := (true, "fc3edb6548063e244778e537024da02a2b6624ff068467140e1145bd60a0ba00"), looks := true }, kinds := [], alts := [], laidByText := true, laidKinds := [.data], laidTests := true, laidLooks := .later }
def ReleaseExamplesCardSaid : Prop := Claim7.holds Tryz.pinned (.plain (OpenSpec.ofChange releaseExamplesSpec)) releaseExamplesCard

/-- THE TIED CARD OF 'louvrelaw34.ReleaseStays'. -/
def releaseStaysCard : Claim7 := { stood := { row := releaseStaysRow, standIns := [], harness := (true, "fc3edb6548063e244778e537024da02a2b6624ff068467140e1145bd60a0ba00"), looks := true }, kinds := [], alts := [], laidByText := true, laidKinds := [.data], laidTests := true, laidLooks := .later }
def ReleaseStaysCardSaid : Prop := Claim7.holds Tryz.pinned (.plain (OpenSpec.ofChange releaseStaysSpec)) releaseStaysCard

/-- THE TIED CARD OF 'louvrelaw34.ReleaseCovers'. -/
def releaseCoversCard : Claim7 := { stood := { row := releaseCoversRow, standIns := [], harness := (true, "fc3edb6548063e244778e537024da02a2b6624ff068467140e1145bd60a0ba00"), looks := true }, kinds := [], alts := [], laidByText := true, laidKinds := [.data], laidTests := true, laidLooks := .later }
def ReleaseCoversCardSaid : Prop := Claim7.holds Tryz.pinned (.plain (OpenSpec.ofChange releaseCoversSpec)) releaseCoversCard

/-- THE SECOND FORM's CARD OF 'louvrelaw31.BookApplies'. -/
def bookAppliesUptoCard : Claim7 := { stood := { row := bookAppliesUptoRow, standIns := [], harness := (true, "fc3edb6548063e244778e537024da02a2b6624ff068467140e1145bd60a0ba00"), looks := true }, kinds := [], alts := [], laidByText := true, laidKinds := [.data], laidTests := true, laidLooks := .later }
def BookAppliesUptoCardSaid : Prop := Claim7.holds Tryz.pinned (.plain (OpenSpec.upto bookAppliesSpec)) bookAppliesUptoCard

/-- THE SECOND FORM's CARD OF 'louvrelaw31.BookChecks'. -/
def bookChecksUptoCard : Claim7 := { stood := { row := bookChecksUptoRow, standIns := [], harness := (true, "fc3edb6548063e244778e537024da02a2b6624ff068467140e1145bd60a0ba00"), looks := true }, kinds := [], alts := [], laidByText := true, laidKinds := [.data], laidTests := true, laidLooks := .later }
def BookChecksUptoCardSaid : Prop := Claim7.holds Tryz.pinned (.plain (OpenSpec.upto bookChecksSpec)) bookChecksUptoCard

/-- THE SECOND FORM's CARD OF 'louvrelaw34.ReleaseMatches'. -/
def releaseMatchesUptoCard : Claim7 := { stood := { row := releaseMatchesUptoRow, standIns := [], harness := (true, "fc3edb6548063e244778e537024da02a2b6624ff068467140e1145bd60a0ba00"), looks := true }, kinds := [], alts := [], laidByText := true, laidKinds := [.data], laidTests := true, laidLooks := .later }
def ReleaseMatchesUptoCardSaid : Prop := Claim7.holds Tryz.pinned (.plain (OpenSpec.upto releaseMatchesSpec)) releaseMatchesUptoCard

/-- THE SECOND FORM's CARD OF 'louvrelaw34.ReleaseExamples'. -/
def releaseExamplesUptoCard : Claim7 := { stood := { row := releaseExamplesUptoRow, standIns := [], harness := (true, "fc3edb6548063e244778e537024da02a2b6624ff068467140e1145bd60a0ba00"), looks := true }, kinds := [], alts := [], laidByText := true, laidKinds := [.data], laidTests := true, laidLooks := .later }
def ReleaseExamplesUptoCardSaid : Prop := Claim7.holds Tryz.pinned (.plain (OpenSpec.upto releaseExamplesSpec)) releaseExamplesUptoCard

/-- THE SECOND FORM's CARD OF 'louvrelaw34.ReleaseStays'. -/
def releaseStaysUptoCard : Claim7 := { stood := { row := releaseStaysUptoRow, standIns := [], harness := (true, "fc3edb6548063e244778e537024da02a2b6624ff068467140e1145bd60a0ba00"), looks := true }, kinds := [], alts := [], laidByText := true, laidKinds := [.data], laidTests := true, laidLooks := .later }
def ReleaseStaysUptoCardSaid : Prop := Claim7.holds Tryz.pinned (.plain (OpenSpec.upto releaseStaysSpec)) releaseStaysUptoCard

/-- THE SECOND FORM's CARD OF 'louvrelaw34.ReleaseCovers'. -/
def releaseCoversUptoCard : Claim7 := { stood := { row := releaseCoversUptoRow, standIns := [], harness := (true, "fc3edb6548063e244778e537024da02a2b6624ff068467140e1145bd60a0ba00"), looks := true }, kinds := [], alts := [], laidByText := true, laidKinds := [.data], laidTests := true, laidLooks := .later }
def ReleaseCoversUptoCardSaid : Prop := Claim7.holds Tryz.pinned (.plain (OpenSpec.upto releaseCoversSpec)) releaseCoversUptoCard
end Rows
end Go.Proofs.YtoanpdoacdpgeaaGreatDoor

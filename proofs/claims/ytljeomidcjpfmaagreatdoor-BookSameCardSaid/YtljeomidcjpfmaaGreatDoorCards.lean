/-
  DERIVED. GIVEN WITH THE SEED: THE CARDS: each row of YtljeomidcjpfmaaGreatDoorRows.lean that lists a variable, with what it lists TIED to the program's text (the seventh form; the later family's looks); each row that meets fmt, with fmt's text TOLD by the authors' own Lean function (tested against real Go, not proved from fmt's source: count such statements apart). THE CARD IS WHAT COUNTS. Prove the row's statement (the work); the ties are given (YtljeomidcjpfmaaGreatDoorTie.lean); close each card by the builder's one call (the guide's Derived/Test/ToyasCard.lean, 'card_holds'). Laid BY PROGRAM, IN A SANDBOX (cutbox-door.mjs). By AI agents, Wed Nov 11 2026. No macro, syntax, notation, axiom, sorry.
-/
import Derived.Test.YtljeomidcjpfmaaGreatDoorRows
import GoSem.ClaimSeven
namespace Go.Proofs.YtljeomidcjpfmaaGreatDoor
namespace Rows

/-- THE TIED CARD OF 'louvrelaw31.BookExamples'. -/
def bookExamplesCard : Claim7 := { stood := { row := bookExamplesRow, standIns := [], harness := (true, "6f895288220831aa6b35639958064a1ebe3ffb384e1a584035852b3ce119bc8a"), looks := true }, kinds := [], alts := [], laidByText := true, laidKinds := [.data], laidTests := true, laidLooks := .later }
def BookExamplesCardSaid : Prop := Claim7.holds Tryz.pinned (.plain (OpenSpec.ofChange bookExamplesSpec)) bookExamplesCard

/-- THE TIED CARD OF 'louvrelaw31.BookSame'. -/
def bookSameCard : Claim7 := { stood := { row := bookSameRow, standIns := [], harness := (true, "6f895288220831aa6b35639958064a1ebe3ffb384e1a584035852b3ce119bc8a"), looks := true }, kinds := [], alts := [], laidByText := true, laidKinds := [.data], laidTests := true, laidLooks := .later }
def BookSameCardSaid : Prop := Claim7.holds Tryz.pinned (.plain (OpenSpec.ofChange bookSameSpec)) bookSameCard

/-- THE TIED CARD OF 'louvrelaw26.CycleNames'. -/
def cycleNamesCard : Claim7 := { stood := { row := cycleNamesRow, standIns := [], harness := (true, "6f895288220831aa6b35639958064a1ebe3ffb384e1a584035852b3ce119bc8a"), looks := true }, kinds := [], alts := [], laidByText := true, laidKinds := [.data], laidTests := true, laidLooks := .later }
def CycleNamesCardSaid : Prop := Claim7.holds Tryz.pinned (.plain (OpenSpec.ofChange cycleNamesSpec)) cycleNamesCard

/-- THE TIED CARD OF 'louvrelaw34.ReleaseExamples'. -/
def releaseExamplesCard : Claim7 := { stood := { row := releaseExamplesRow, standIns := [], harness := (true, "6f895288220831aa6b35639958064a1ebe3ffb384e1a584035852b3ce119bc8a"), looks := true }, kinds := [], alts := [], laidByText := true, laidKinds := [.data], laidTests := true, laidLooks := .later }
def ReleaseExamplesCardSaid : Prop := Claim7.holds Tryz.pinned (.plain (OpenSpec.ofChange releaseExamplesSpec)) releaseExamplesCard

/-- THE TIED CARD OF 'louvrelaw27.FlowExamples'. -/
def flowExamplesCard : Claim7 := { stood := { row := flowExamplesRow, standIns := [], harness := (true, "6f895288220831aa6b35639958064a1ebe3ffb384e1a584035852b3ce119bc8a"), looks := true }, kinds := [], alts := [], laidByText := true, laidKinds := [.data], laidTests := true, laidLooks := .later }
def FlowExamplesCardSaid : Prop := Claim7.holds Tryz.pinned (.plain (OpenSpec.ofChange flowExamplesSpec)) flowExamplesCard

/-- THE TIED CARD OF 'louvrelaw35.VisibleNames'. -/
def visibleNamesCard : Claim7 := { stood := { row := visibleNamesRow, standIns := [], harness := (true, "6f895288220831aa6b35639958064a1ebe3ffb384e1a584035852b3ce119bc8a"), looks := true }, kinds := [], alts := [], laidByText := true, laidKinds := [.data], laidTests := true, laidLooks := .later }
def VisibleNamesCardSaid : Prop := Claim7.holds Tryz.pinned (.plain (OpenSpec.ofChange visibleNamesSpec)) visibleNamesCard

/-- THE TIED CARD OF 'louvrelaw40.WhyAgrees'. -/
def whyAgreesCard : Claim7 := { stood := { row := whyAgreesRow, standIns := [], harness := (true, "6f895288220831aa6b35639958064a1ebe3ffb384e1a584035852b3ce119bc8a"), looks := true }, kinds := [], alts := [], laidByText := true, laidKinds := [.data], laidTests := true, laidLooks := .later }
def WhyAgreesCardSaid : Prop := Claim7.holds Tryz.pinned (.plain (OpenSpec.ofChange whyAgreesSpec)) whyAgreesCard

/-- THE TIED CARD OF 'louvrelaw40.WhyShort'. -/
def whyShortCard : Claim7 := { stood := { row := whyShortRow, standIns := [], harness := (true, "6f895288220831aa6b35639958064a1ebe3ffb384e1a584035852b3ce119bc8a"), looks := true }, kinds := [], alts := [], laidByText := true, laidKinds := [.data], laidTests := true, laidLooks := .later }
def WhyShortCardSaid : Prop := Claim7.holds Tryz.pinned (.plain (OpenSpec.ofChange whyShortSpec)) whyShortCard

/-- THE TIED CARD OF 'louvrelaw40.WhyCovers'. -/
def whyCoversCard : Claim7 := { stood := { row := whyCoversRow, standIns := [], harness := (true, "6f895288220831aa6b35639958064a1ebe3ffb384e1a584035852b3ce119bc8a"), looks := true }, kinds := [], alts := [], laidByText := true, laidKinds := [.data], laidTests := true, laidLooks := .later }
def WhyCoversCardSaid : Prop := Claim7.holds Tryz.pinned (.plain (OpenSpec.ofChange whyCoversSpec)) whyCoversCard

/-- THE TIED CARD OF 'louvrelaw40.WhyExact'. -/
def whyExactCard : Claim7 := { stood := { row := whyExactRow, standIns := [], harness := (true, "6f895288220831aa6b35639958064a1ebe3ffb384e1a584035852b3ce119bc8a"), looks := true }, kinds := [], alts := [], laidByText := true, laidKinds := [.data], laidTests := true, laidLooks := .later }
def WhyExactCardSaid : Prop := Claim7.holds Tryz.pinned (.plain (OpenSpec.ofChange whyExactSpec)) whyExactCard

/-- THE SECOND FORM's CARD OF 'louvrelaw31.BookExamples'. -/
def bookExamplesUptoCard : Claim7 := { stood := { row := bookExamplesUptoRow, standIns := [], harness := (true, "6f895288220831aa6b35639958064a1ebe3ffb384e1a584035852b3ce119bc8a"), looks := true }, kinds := [], alts := [], laidByText := true, laidKinds := [.data], laidTests := true, laidLooks := .later }
def BookExamplesUptoCardSaid : Prop := Claim7.holds Tryz.pinned (.plain (OpenSpec.upto bookExamplesSpec)) bookExamplesUptoCard

/-- THE SECOND FORM's CARD OF 'louvrelaw31.BookSame'. -/
def bookSameUptoCard : Claim7 := { stood := { row := bookSameUptoRow, standIns := [], harness := (true, "6f895288220831aa6b35639958064a1ebe3ffb384e1a584035852b3ce119bc8a"), looks := true }, kinds := [], alts := [], laidByText := true, laidKinds := [.data], laidTests := true, laidLooks := .later }
def BookSameUptoCardSaid : Prop := Claim7.holds Tryz.pinned (.plain (OpenSpec.upto bookSameSpec)) bookSameUptoCard

/-- THE SECOND FORM's CARD OF 'louvrelaw26.CycleNames'. -/
def cycleNamesUptoCard : Claim7 := { stood := { row := cycleNamesUptoRow, standIns := [], harness := (true, "6f895288220831aa6b35639958064a1ebe3ffb384e1a584035852b3ce119bc8a"), looks := true }, kinds := [], alts := [], laidByText := true, laidKinds := [.data], laidTests := true, laidLooks := .later }
def CycleNamesUptoCardSaid : Prop := Claim7.holds Tryz.pinned (.plain (OpenSpec.upto cycleNamesSpec)) cycleNamesUptoCard

/-- THE SECOND FORM's CARD OF 'louvrelaw34.ReleaseExamples'. -/
def releaseExamplesUptoCard : Claim7 := { stood := { row := releaseExamplesUptoRow, standIns := [], harness := (true, "6f895288220831aa6b35639958064a1ebe3ffb384e1a584035852b3ce119bc8a"), looks := true }, kinds := [], alts := [], laidByText := true, laidKinds := [.data], laidTests := true, laidLooks := .later }
def ReleaseExamplesUptoCardSaid : Prop := Claim7.holds Tryz.pinned (.plain (OpenSpec.upto releaseExamplesSpec)) releaseExamplesUptoCard

/-- THE SECOND FORM's CARD OF 'louvrelaw27.FlowExamples'. -/
def flowExamplesUptoCard : Claim7 := { stood := { row := flowExamplesUptoRow, standIns := [], harness := (true, "6f895288220831aa6b35639958064a1ebe3ffb384e1a584035852b3ce119bc8a"), looks := true }, kinds := [], alts := [], laidByText := true, laidKinds := [.data], laidTests := true, laidLooks := .later }
def FlowExamplesUptoCardSaid : Prop := Claim7.holds Tryz.pinned (.plain (OpenSpec.upto flowExamplesSpec)) flowExamplesUptoCard

/-- THE SECOND FORM's CARD OF 'louvrelaw35.VisibleNames'. -/
def visibleNamesUptoCard : Claim7 := { stood := { row := visibleNamesUptoRow, standIns := [], harness := (true, "6f895288220831aa6b35639958064a1ebe3ffb384e1a584035852b3ce119bc8a"), looks := true }, kinds := [], alts := [], laidByText := true, laidKinds := [.data], laidTests := true, laidLooks := .later }
def VisibleNamesUptoCardSaid : Prop := Claim7.holds Tryz.pinned (.plain (OpenSpec.upto visibleNamesSpec)) visibleNamesUptoCard

/-- THE SECOND FORM's CARD OF 'louvrelaw40.WhyAgrees'. -/
def whyAgreesUptoCard : Claim7 := { stood := { row := whyAgreesUptoRow, standIns := [], harness := (true, "6f895288220831aa6b35639958064a1ebe3ffb384e1a584035852b3ce119bc8a"), looks := true }, kinds := [], alts := [], laidByText := true, laidKinds := [.data], laidTests := true, laidLooks := .later }
def WhyAgreesUptoCardSaid : Prop := Claim7.holds Tryz.pinned (.plain (OpenSpec.upto whyAgreesSpec)) whyAgreesUptoCard

/-- THE SECOND FORM's CARD OF 'louvrelaw40.WhyShort'. -/
def whyShortUptoCard : Claim7 := { stood := { row := whyShortUptoRow, standIns := [], harness := (true, "6f895288220831aa6b35639958064a1ebe3ffb384e1a584035852b3ce119bc8a"), looks := true }, kinds := [], alts := [], laidByText := true, laidKinds := [.data], laidTests := true, laidLooks := .later }
def WhyShortUptoCardSaid : Prop := Claim7.holds Tryz.pinned (.plain (OpenSpec.upto whyShortSpec)) whyShortUptoCard

/-- THE SECOND FORM's CARD OF 'louvrelaw40.WhyCovers'. -/
def whyCoversUptoCard : Claim7 := { stood := { row := whyCoversUptoRow, standIns := [], harness := (true, "6f895288220831aa6b35639958064a1ebe3ffb384e1a584035852b3ce119bc8a"), looks := true }, kinds := [], alts := [], laidByText := true, laidKinds := [.data], laidTests := true, laidLooks := .later }
def WhyCoversUptoCardSaid : Prop := Claim7.holds Tryz.pinned (.plain (OpenSpec.upto whyCoversSpec)) whyCoversUptoCard

/-- THE SECOND FORM's CARD OF 'louvrelaw40.WhyExact'. -/
def whyExactUptoCard : Claim7 := { stood := { row := whyExactUptoRow, standIns := [], harness := (true, "6f895288220831aa6b35639958064a1ebe3ffb384e1a584035852b3ce119bc8a"), looks := true }, kinds := [], alts := [], laidByText := true, laidKinds := [.data], laidTests := true, laidLooks := .later }
def WhyExactUptoCardSaid : Prop := Claim7.holds Tryz.pinned (.plain (OpenSpec.upto whyExactSpec)) whyExactUptoCard
end Rows
end Go.Proofs.YtljeomidcjpfmaaGreatDoor

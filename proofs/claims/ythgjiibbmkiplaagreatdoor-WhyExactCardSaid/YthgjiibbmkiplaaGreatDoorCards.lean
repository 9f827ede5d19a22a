/-
  DERIVED. GIVEN WITH THE SEED: THE CARDS: each row of YthgjiibbmkiplaaGreatDoorRows.lean that lists a variable, with what it lists TIED to the program's text (the seventh form; the later family's looks); each row that meets fmt, with fmt's text TOLD by the authors' own Lean function (tested against real Go, not proved from fmt's source: count such statements apart). THE CARD IS WHAT COUNTS. Prove the row's statement (the work); the ties are given (YthgjiibbmkiplaaGreatDoorTie.lean); close each card by the builder's one call (the guide's Derived/Test/ToyasCard.lean, 'card_holds'). Laid BY PROGRAM, IN A SANDBOX (cutbox-door.mjs). By AI agents, Wed Nov 11 2026. No macro, syntax, notation, axiom, sorry.
-/
import Derived.Test.YthgjiibbmkiplaaGreatDoorRows
import GoSem.ClaimSeven
namespace Go.Proofs.YthgjiibbmkiplaaGreatDoor
namespace Rows

/-- THE TIED CARD OF 'louvrelaw35.VisibleNames'. -/
def visibleNamesCard : Claim7 := { stood := { row := visibleNamesRow, standIns := [], harness := (true, "6a93ec261334ab35d843de081f4d41d196502952b01acf77b09caa339a40ede3"), looks := true }, kinds := [], alts := [], laidByText := true, laidKinds := [.data], laidTests := true, laidLooks := .later }
def VisibleNamesCardSaid : Prop := Claim7.holds Tryz.pinned (.plain (OpenSpec.ofChange visibleNamesSpec)) visibleNamesCard

/-- THE TIED CARD OF 'louvrelaw40.WhyAgrees'. -/
def whyAgreesCard : Claim7 := { stood := { row := whyAgreesRow, standIns := [], harness := (true, "6a93ec261334ab35d843de081f4d41d196502952b01acf77b09caa339a40ede3"), looks := true }, kinds := [], alts := [], laidByText := true, laidKinds := [.data], laidTests := true, laidLooks := .later }
def WhyAgreesCardSaid : Prop := Claim7.holds Tryz.pinned (.plain (OpenSpec.ofChange whyAgreesSpec)) whyAgreesCard

/-- THE TIED CARD OF 'louvrelaw40.WhyShort'. -/
def whyShortCard : Claim7 := { stood := { row := whyShortRow, standIns := [], harness := (true, "6a93ec261334ab35d843de081f4d41d196502952b01acf77b09caa339a40ede3"), looks := true }, kinds := [], alts := [], laidByText := true, laidKinds := [.data], laidTests := true, laidLooks := .later }
def WhyShortCardSaid : Prop := Claim7.holds Tryz.pinned (.plain (OpenSpec.ofChange whyShortSpec)) whyShortCard

/-- THE TIED CARD OF 'louvrelaw40.WhyCovers'. -/
def whyCoversCard : Claim7 := { stood := { row := whyCoversRow, standIns := [], harness := (true, "6a93ec261334ab35d843de081f4d41d196502952b01acf77b09caa339a40ede3"), looks := true }, kinds := [], alts := [], laidByText := true, laidKinds := [.data], laidTests := true, laidLooks := .later }
def WhyCoversCardSaid : Prop := Claim7.holds Tryz.pinned (.plain (OpenSpec.ofChange whyCoversSpec)) whyCoversCard

/-- THE TIED CARD OF 'louvrelaw40.WhyExact'. -/
def whyExactCard : Claim7 := { stood := { row := whyExactRow, standIns := [], harness := (true, "6a93ec261334ab35d843de081f4d41d196502952b01acf77b09caa339a40ede3"), looks := true }, kinds := [], alts := [], laidByText := true, laidKinds := [.data], laidTests := true, laidLooks := .later }
def WhyExactCardSaid : Prop := Claim7.holds Tryz.pinned (.plain (OpenSpec.ofChange whyExactSpec)) whyExactCard

/-- THE SECOND FORM's CARD OF 'louvrelaw35.VisibleNames'. -/
def visibleNamesUptoCard : Claim7 := { stood := { row := visibleNamesUptoRow, standIns := [], harness := (true, "6a93ec261334ab35d843de081f4d41d196502952b01acf77b09caa339a40ede3"), looks := true }, kinds := [], alts := [], laidByText := true, laidKinds := [.data], laidTests := true, laidLooks := .later }
def VisibleNamesUptoCardSaid : Prop := Claim7.holds Tryz.pinned (.plain (OpenSpec.upto visibleNamesSpec)) visibleNamesUptoCard

/-- THE SECOND FORM's CARD OF 'louvrelaw40.WhyAgrees'. -/
def whyAgreesUptoCard : Claim7 := { stood := { row := whyAgreesUptoRow, standIns := [], harness := (true, "6a93ec261334ab35d843de081f4d41d196502952b01acf77b09caa339a40ede3"), looks := true }, kinds := [], alts := [], laidByText := true, laidKinds := [.data], laidTests := true, laidLooks := .later }
def WhyAgreesUptoCardSaid : Prop := Claim7.holds Tryz.pinned (.plain (OpenSpec.upto whyAgreesSpec)) whyAgreesUptoCard

/-- THE SECOND FORM's CARD OF 'louvrelaw40.WhyShort'. -/
def whyShortUptoCard : Claim7 := { stood := { row := whyShortUptoRow, standIns := [], harness := (true, "6a93ec261334ab35d843de081f4d41d196502952b01acf77b09caa339a40ede3"), looks := true }, kinds := [], alts := [], laidByText := true, laidKinds := [.data], laidTests := true, laidLooks := .later }
def WhyShortUptoCardSaid : Prop := Claim7.holds Tryz.pinned (.plain (OpenSpec.upto whyShortSpec)) whyShortUptoCard

/-- THE SECOND FORM's CARD OF 'louvrelaw40.WhyCovers'. -/
def whyCoversUptoCard : Claim7 := { stood := { row := whyCoversUptoRow, standIns := [], harness := (true, "6a93ec261334ab35d843de081f4d41d196502952b01acf77b09caa339a40ede3"), looks := true }, kinds := [], alts := [], laidByText := true, laidKinds := [.data], laidTests := true, laidLooks := .later }
def WhyCoversUptoCardSaid : Prop := Claim7.holds Tryz.pinned (.plain (OpenSpec.upto whyCoversSpec)) whyCoversUptoCard

/-- THE SECOND FORM's CARD OF 'louvrelaw40.WhyExact'. -/
def whyExactUptoCard : Claim7 := { stood := { row := whyExactUptoRow, standIns := [], harness := (true, "6a93ec261334ab35d843de081f4d41d196502952b01acf77b09caa339a40ede3"), looks := true }, kinds := [], alts := [], laidByText := true, laidKinds := [.data], laidTests := true, laidLooks := .later }
def WhyExactUptoCardSaid : Prop := Claim7.holds Tryz.pinned (.plain (OpenSpec.upto whyExactSpec)) whyExactUptoCard
end Rows
end Go.Proofs.YthgjiibbmkiplaaGreatDoor

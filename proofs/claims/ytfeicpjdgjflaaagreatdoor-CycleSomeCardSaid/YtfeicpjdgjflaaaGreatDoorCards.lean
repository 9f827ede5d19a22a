/-
  DERIVED. GIVEN WITH THE SEED: THE CARDS: each row of YtfeicpjdgjflaaaGreatDoorRows.lean that lists a variable, with what it lists TIED to the program's text (the seventh form; the later family's looks); each row that meets fmt, with fmt's text TOLD by the authors' own Lean function (tested against real Go, not proved from fmt's source: count such statements apart). THE CARD IS WHAT COUNTS. Prove the row's statement (the work); the ties are given (YtfeicpjdgjflaaaGreatDoorTie.lean); close each card by the builder's one call (the guide's Derived/Test/ToyasCard.lean, 'card_holds'). Laid BY PROGRAM, IN A SANDBOX (cutbox-door.mjs). By AI agents, Wed Nov 11 2026. No macro, syntax, notation, axiom, sorry.
-/
import Derived.Test.YtfeicpjdgjflaaaGreatDoorRows
import GoSem.ClaimSeven
namespace Go.Proofs.YtfeicpjdgjflaaaGreatDoor
namespace Rows

/-- THE TIED CARD OF 'louvrelaw26.CycleAmongs'. -/
def cycleAmongsCard : Claim7 := { stood := { row := cycleAmongsRow, standIns := [], harness := (true, "f16eef0217c20f5b41e196ab2551f48186a45d4488b2bb518a8b4910cd5fef6a"), looks := true }, kinds := [], alts := [], laidByText := true, laidKinds := [.data], laidTests := true, laidLooks := .later }
def CycleAmongsCardSaid : Prop := Claim7.holds Tryz.pinned (.plain (OpenSpec.ofChange cycleAmongsSpec)) cycleAmongsCard

/-- THE TIED CARD OF 'louvrelaw26.CycleSome'. -/
def cycleSomeCard : Claim7 := { stood := { row := cycleSomeRow, standIns := [], harness := (true, "f16eef0217c20f5b41e196ab2551f48186a45d4488b2bb518a8b4910cd5fef6a"), looks := true }, kinds := [], alts := [], laidByText := true, laidKinds := [.data], laidTests := true, laidLooks := .later }
def CycleSomeCardSaid : Prop := Claim7.holds Tryz.pinned (.plain (OpenSpec.ofChange cycleSomeSpec)) cycleSomeCard

/-- THE TIED CARD OF 'louvrelaw26.CycleParts'. -/
def cyclePartsCard : Claim7 := { stood := { row := cyclePartsRow, standIns := [], harness := (true, "f16eef0217c20f5b41e196ab2551f48186a45d4488b2bb518a8b4910cd5fef6a"), looks := true }, kinds := [], alts := [], laidByText := true, laidKinds := [.data], laidTests := true, laidLooks := .later }
def CyclePartsCardSaid : Prop := Claim7.holds Tryz.pinned (.plain (OpenSpec.ofChange cyclePartsSpec)) cyclePartsCard

/-- THE TIED CARD OF 'louvrelaw40.WhyAgrees'. -/
def whyAgreesCard : Claim7 := { stood := { row := whyAgreesRow, standIns := [], harness := (true, "f16eef0217c20f5b41e196ab2551f48186a45d4488b2bb518a8b4910cd5fef6a"), looks := true }, kinds := [], alts := [], laidByText := true, laidKinds := [.data], laidTests := true, laidLooks := .later }
def WhyAgreesCardSaid : Prop := Claim7.holds Tryz.pinned (.plain (OpenSpec.ofChange whyAgreesSpec)) whyAgreesCard

/-- THE TIED CARD OF 'louvrelaw40.WhyShort'. -/
def whyShortCard : Claim7 := { stood := { row := whyShortRow, standIns := [], harness := (true, "f16eef0217c20f5b41e196ab2551f48186a45d4488b2bb518a8b4910cd5fef6a"), looks := true }, kinds := [], alts := [], laidByText := true, laidKinds := [.data], laidTests := true, laidLooks := .later }
def WhyShortCardSaid : Prop := Claim7.holds Tryz.pinned (.plain (OpenSpec.ofChange whyShortSpec)) whyShortCard

/-- THE TIED CARD OF 'louvrelaw40.WhyCovers'. -/
def whyCoversCard : Claim7 := { stood := { row := whyCoversRow, standIns := [], harness := (true, "f16eef0217c20f5b41e196ab2551f48186a45d4488b2bb518a8b4910cd5fef6a"), looks := true }, kinds := [], alts := [], laidByText := true, laidKinds := [.data], laidTests := true, laidLooks := .later }
def WhyCoversCardSaid : Prop := Claim7.holds Tryz.pinned (.plain (OpenSpec.ofChange whyCoversSpec)) whyCoversCard

/-- THE TIED CARD OF 'louvrelaw40.WhyExact'. -/
def whyExactCard : Claim7 := { stood := { row := whyExactRow, standIns := [], harness := (true, "f16eef0217c20f5b41e196ab2551f48186a45d4488b2bb518a8b4910cd5fef6a"), looks := true }, kinds := [], alts := [], laidByText := true, laidKinds := [.data], laidTests := true, laidLooks := .later }
def WhyExactCardSaid : Prop := Claim7.holds Tryz.pinned (.plain (OpenSpec.ofChange whyExactSpec)) whyExactCard

/-- THE SECOND FORM's CARD OF 'louvrelaw26.CycleAmongs'. -/
def cycleAmongsUptoCard : Claim7 := { stood := { row := cycleAmongsUptoRow, standIns := [], harness := (true, "f16eef0217c20f5b41e196ab2551f48186a45d4488b2bb518a8b4910cd5fef6a"), looks := true }, kinds := [], alts := [], laidByText := true, laidKinds := [.data], laidTests := true, laidLooks := .later }
def CycleAmongsUptoCardSaid : Prop := Claim7.holds Tryz.pinned (.plain (OpenSpec.upto cycleAmongsSpec)) cycleAmongsUptoCard

/-- THE SECOND FORM's CARD OF 'louvrelaw26.CycleSome'. -/
def cycleSomeUptoCard : Claim7 := { stood := { row := cycleSomeUptoRow, standIns := [], harness := (true, "f16eef0217c20f5b41e196ab2551f48186a45d4488b2bb518a8b4910cd5fef6a"), looks := true }, kinds := [], alts := [], laidByText := true, laidKinds := [.data], laidTests := true, laidLooks := .later }
def CycleSomeUptoCardSaid : Prop := Claim7.holds Tryz.pinned (.plain (OpenSpec.upto cycleSomeSpec)) cycleSomeUptoCard

/-- THE SECOND FORM's CARD OF 'louvrelaw26.CycleParts'. -/
def cyclePartsUptoCard : Claim7 := { stood := { row := cyclePartsUptoRow, standIns := [], harness := (true, "f16eef0217c20f5b41e196ab2551f48186a45d4488b2bb518a8b4910cd5fef6a"), looks := true }, kinds := [], alts := [], laidByText := true, laidKinds := [.data], laidTests := true, laidLooks := .later }
def CyclePartsUptoCardSaid : Prop := Claim7.holds Tryz.pinned (.plain (OpenSpec.upto cyclePartsSpec)) cyclePartsUptoCard

/-- THE SECOND FORM's CARD OF 'louvrelaw40.WhyAgrees'. -/
def whyAgreesUptoCard : Claim7 := { stood := { row := whyAgreesUptoRow, standIns := [], harness := (true, "f16eef0217c20f5b41e196ab2551f48186a45d4488b2bb518a8b4910cd5fef6a"), looks := true }, kinds := [], alts := [], laidByText := true, laidKinds := [.data], laidTests := true, laidLooks := .later }
def WhyAgreesUptoCardSaid : Prop := Claim7.holds Tryz.pinned (.plain (OpenSpec.upto whyAgreesSpec)) whyAgreesUptoCard

/-- THE SECOND FORM's CARD OF 'louvrelaw40.WhyShort'. -/
def whyShortUptoCard : Claim7 := { stood := { row := whyShortUptoRow, standIns := [], harness := (true, "f16eef0217c20f5b41e196ab2551f48186a45d4488b2bb518a8b4910cd5fef6a"), looks := true }, kinds := [], alts := [], laidByText := true, laidKinds := [.data], laidTests := true, laidLooks := .later }
def WhyShortUptoCardSaid : Prop := Claim7.holds Tryz.pinned (.plain (OpenSpec.upto whyShortSpec)) whyShortUptoCard

/-- THE SECOND FORM's CARD OF 'louvrelaw40.WhyCovers'. -/
def whyCoversUptoCard : Claim7 := { stood := { row := whyCoversUptoRow, standIns := [], harness := (true, "f16eef0217c20f5b41e196ab2551f48186a45d4488b2bb518a8b4910cd5fef6a"), looks := true }, kinds := [], alts := [], laidByText := true, laidKinds := [.data], laidTests := true, laidLooks := .later }
def WhyCoversUptoCardSaid : Prop := Claim7.holds Tryz.pinned (.plain (OpenSpec.upto whyCoversSpec)) whyCoversUptoCard

/-- THE SECOND FORM's CARD OF 'louvrelaw40.WhyExact'. -/
def whyExactUptoCard : Claim7 := { stood := { row := whyExactUptoRow, standIns := [], harness := (true, "f16eef0217c20f5b41e196ab2551f48186a45d4488b2bb518a8b4910cd5fef6a"), looks := true }, kinds := [], alts := [], laidByText := true, laidKinds := [.data], laidTests := true, laidLooks := .later }
def WhyExactUptoCardSaid : Prop := Claim7.holds Tryz.pinned (.plain (OpenSpec.upto whyExactSpec)) whyExactUptoCard
end Rows
end Go.Proofs.YtfeicpjdgjflaaaGreatDoor

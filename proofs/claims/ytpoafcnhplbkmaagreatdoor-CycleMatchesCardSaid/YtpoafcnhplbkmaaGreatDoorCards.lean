/-
  DERIVED. GIVEN WITH THE SEED: THE CARDS: each row of YtpoafcnhplbkmaaGreatDoorRows.lean that lists a variable, with what it lists TIED to the program's text (the seventh form; the later family's looks); each row that meets fmt, with fmt's text TOLD by the authors' own Lean function (tested against real Go, not proved from fmt's source: count such statements apart). THE CARD IS WHAT COUNTS. Prove the row's statement (the work); the ties are given (YtpoafcnhplbkmaaGreatDoorTie.lean); close each card by the builder's one call (the guide's Derived/Test/ToyasCard.lean, 'card_holds'). Laid BY PROGRAM, IN A SANDBOX (cutbox-door.mjs). By AI agents, Wed Nov 11 2026. No macro, syntax, notation, axiom, sorry.
-/
import Derived.Test.YtpoafcnhplbkmaaGreatDoorRows
import GoSem.ClaimSeven
namespace Go.Proofs.YtpoafcnhplbkmaaGreatDoor
namespace Rows

/-- THE TIED CARD OF 'louvrelaw26.CycleNames'. -/
def cycleNamesCard : Claim7 := { stood := { row := cycleNamesRow, standIns := [], harness := (true, "547546211ca97e268ef082bb2fc139c6313c06bfbf265a1964e786b192fa54a6"), looks := true }, kinds := [], alts := [], laidByText := true, laidKinds := [.data], laidTests := true, laidLooks := .later }
def CycleNamesCardSaid : Prop := Claim7.holds Tryz.pinned (.plain (OpenSpec.ofChange cycleNamesSpec)) cycleNamesCard

/-- THE TIED CARD OF 'louvrelaw26.CycleMatches'. -/
def cycleMatchesCard : Claim7 := { stood := { row := cycleMatchesRow, standIns := [], harness := (true, "547546211ca97e268ef082bb2fc139c6313c06bfbf265a1964e786b192fa54a6"), looks := true }, kinds := [], alts := [], laidByText := true, laidKinds := [.data], laidTests := true, laidLooks := .later }
def CycleMatchesCardSaid : Prop := Claim7.holds Tryz.pinned (.plain (OpenSpec.ofChange cycleMatchesSpec)) cycleMatchesCard

/-- THE TIED CARD OF 'louvrelaw26.CycleAmongs'. -/
def cycleAmongsCard : Claim7 := { stood := { row := cycleAmongsRow, standIns := [], harness := (true, "547546211ca97e268ef082bb2fc139c6313c06bfbf265a1964e786b192fa54a6"), looks := true }, kinds := [], alts := [], laidByText := true, laidKinds := [.data], laidTests := true, laidLooks := .later }
def CycleAmongsCardSaid : Prop := Claim7.holds Tryz.pinned (.plain (OpenSpec.ofChange cycleAmongsSpec)) cycleAmongsCard

/-- THE TIED CARD OF 'louvrelaw26.CycleSome'. -/
def cycleSomeCard : Claim7 := { stood := { row := cycleSomeRow, standIns := [], harness := (true, "547546211ca97e268ef082bb2fc139c6313c06bfbf265a1964e786b192fa54a6"), looks := true }, kinds := [], alts := [], laidByText := true, laidKinds := [.data], laidTests := true, laidLooks := .later }
def CycleSomeCardSaid : Prop := Claim7.holds Tryz.pinned (.plain (OpenSpec.ofChange cycleSomeSpec)) cycleSomeCard

/-- THE TIED CARD OF 'louvrelaw26.CycleParts'. -/
def cyclePartsCard : Claim7 := { stood := { row := cyclePartsRow, standIns := [], harness := (true, "547546211ca97e268ef082bb2fc139c6313c06bfbf265a1964e786b192fa54a6"), looks := true }, kinds := [], alts := [], laidByText := true, laidKinds := [.data], laidTests := true, laidLooks := .later }
def CyclePartsCardSaid : Prop := Claim7.holds Tryz.pinned (.plain (OpenSpec.ofChange cyclePartsSpec)) cyclePartsCard

/-- THE SECOND FORM's CARD OF 'louvrelaw26.CycleNames'. -/
def cycleNamesUptoCard : Claim7 := { stood := { row := cycleNamesUptoRow, standIns := [], harness := (true, "547546211ca97e268ef082bb2fc139c6313c06bfbf265a1964e786b192fa54a6"), looks := true }, kinds := [], alts := [], laidByText := true, laidKinds := [.data], laidTests := true, laidLooks := .later }
def CycleNamesUptoCardSaid : Prop := Claim7.holds Tryz.pinned (.plain (OpenSpec.upto cycleNamesSpec)) cycleNamesUptoCard

/-- THE SECOND FORM's CARD OF 'louvrelaw26.CycleMatches'. -/
def cycleMatchesUptoCard : Claim7 := { stood := { row := cycleMatchesUptoRow, standIns := [], harness := (true, "547546211ca97e268ef082bb2fc139c6313c06bfbf265a1964e786b192fa54a6"), looks := true }, kinds := [], alts := [], laidByText := true, laidKinds := [.data], laidTests := true, laidLooks := .later }
def CycleMatchesUptoCardSaid : Prop := Claim7.holds Tryz.pinned (.plain (OpenSpec.upto cycleMatchesSpec)) cycleMatchesUptoCard

/-- THE SECOND FORM's CARD OF 'louvrelaw26.CycleAmongs'. -/
def cycleAmongsUptoCard : Claim7 := { stood := { row := cycleAmongsUptoRow, standIns := [], harness := (true, "547546211ca97e268ef082bb2fc139c6313c06bfbf265a1964e786b192fa54a6"), looks := true }, kinds := [], alts := [], laidByText := true, laidKinds := [.data], laidTests := true, laidLooks := .later }
def CycleAmongsUptoCardSaid : Prop := Claim7.holds Tryz.pinned (.plain (OpenSpec.upto cycleAmongsSpec)) cycleAmongsUptoCard

/-- THE SECOND FORM's CARD OF 'louvrelaw26.CycleSome'. -/
def cycleSomeUptoCard : Claim7 := { stood := { row := cycleSomeUptoRow, standIns := [], harness := (true, "547546211ca97e268ef082bb2fc139c6313c06bfbf265a1964e786b192fa54a6"), looks := true }, kinds := [], alts := [], laidByText := true, laidKinds := [.data], laidTests := true, laidLooks := .later }
def CycleSomeUptoCardSaid : Prop := Claim7.holds Tryz.pinned (.plain (OpenSpec.upto cycleSomeSpec)) cycleSomeUptoCard

/-- THE SECOND FORM's CARD OF 'louvrelaw26.CycleParts'. -/
def cyclePartsUptoCard : Claim7 := { stood := { row := cyclePartsUptoRow, standIns := [], harness := (true, "547546211ca97e268ef082bb2fc139c6313c06bfbf265a1964e786b192fa54a6"), looks := true }, kinds := [], alts := [], laidByText := true, laidKinds := [.data], laidTests := true, laidLooks := .later }
def CyclePartsUptoCardSaid : Prop := Claim7.holds Tryz.pinned (.plain (OpenSpec.upto cyclePartsSpec)) cyclePartsUptoCard
end Rows
end Go.Proofs.YtpoafcnhplbkmaaGreatDoor

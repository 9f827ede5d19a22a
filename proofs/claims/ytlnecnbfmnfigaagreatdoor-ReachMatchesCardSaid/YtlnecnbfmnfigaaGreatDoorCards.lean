/-
  DERIVED. GIVEN WITH THE SEED: THE CARDS: each row of YtlnecnbfmnfigaaGreatDoorRows.lean that lists a variable, with what it lists TIED to the program's text (the seventh form; the later family's looks); each row that meets fmt, with fmt's text TOLD by the authors' own Lean function (tested against real Go, not proved from fmt's source: count such statements apart). THE CARD IS WHAT COUNTS. Prove the row's statement (the work); the ties are given (YtlnecnbfmnfigaaGreatDoorTie.lean); close each card by the builder's one call (the guide's Derived/Test/ToyasCard.lean, 'card_holds'). Laid BY PROGRAM, IN A SANDBOX (cutbox-door.mjs). By AI agents, Wed Nov 11 2026. No macro, syntax, notation, axiom, sorry.
-/
import Derived.Test.YtlnecnbfmnfigaaGreatDoorRows
import GoSem.ClaimSeven
namespace Go.Proofs.YtlnecnbfmnfigaaGreatDoor
namespace Rows

/-- THE TIED CARD OF 'louvrelaw23.ReachMatches'. -/
def reachMatchesCard : Claim7 := { stood := { row := reachMatchesRow, standIns := [], harness := (true, "ffdb6ea87355d97d6cf5b24453109751fe27c28c2d9799d9dfb6dcec34fa158e"), looks := true }, kinds := [], alts := [], laidByText := true, laidKinds := [.data], laidTests := true, laidLooks := .later }
def ReachMatchesCardSaid : Prop := Claim7.holds Tryz.pinned (.plain (OpenSpec.ofChange reachMatchesSpec)) reachMatchesCard

/-- THE TIED CARD OF 'louvrelaw27.FlowSees'. -/
def flowSeesCard : Claim7 := { stood := { row := flowSeesRow, standIns := [], harness := (true, "ffdb6ea87355d97d6cf5b24453109751fe27c28c2d9799d9dfb6dcec34fa158e"), looks := true }, kinds := [], alts := [], laidByText := true, laidKinds := [.data], laidTests := true, laidLooks := .later }
def FlowSeesCardSaid : Prop := Claim7.holds Tryz.pinned (.plain (OpenSpec.ofChange flowSeesSpec)) flowSeesCard

/-- THE TIED CARD OF 'louvrelaw27.FlowConstants'. -/
def flowConstantsCard : Claim7 := { stood := { row := flowConstantsRow, standIns := [], harness := (true, "ffdb6ea87355d97d6cf5b24453109751fe27c28c2d9799d9dfb6dcec34fa158e"), looks := true }, kinds := [], alts := [], laidByText := true, laidKinds := [.data], laidTests := true, laidLooks := .later }
def FlowConstantsCardSaid : Prop := Claim7.holds Tryz.pinned (.plain (OpenSpec.ofChange flowConstantsSpec)) flowConstantsCard

/-- THE TIED CARD OF 'louvrelaw27.FlowEquations'. -/
def flowEquationsCard : Claim7 := { stood := { row := flowEquationsRow, standIns := [], harness := (true, "ffdb6ea87355d97d6cf5b24453109751fe27c28c2d9799d9dfb6dcec34fa158e"), looks := true }, kinds := [], alts := [], laidByText := true, laidKinds := [.data], laidTests := true, laidLooks := .later }
def FlowEquationsCardSaid : Prop := Claim7.holds Tryz.pinned (.plain (OpenSpec.ofChange flowEquationsSpec)) flowEquationsCard

/-- THE TIED CARD OF 'louvrelaw27.FlowExamples'. -/
def flowExamplesCard : Claim7 := { stood := { row := flowExamplesRow, standIns := [], harness := (true, "ffdb6ea87355d97d6cf5b24453109751fe27c28c2d9799d9dfb6dcec34fa158e"), looks := true }, kinds := [], alts := [], laidByText := true, laidKinds := [.data], laidTests := true, laidLooks := .later }
def FlowExamplesCardSaid : Prop := Claim7.holds Tryz.pinned (.plain (OpenSpec.ofChange flowExamplesSpec)) flowExamplesCard

/-- THE TIED CARD OF 'louvrelaw27.FlowGrows'. -/
def flowGrowsCard : Claim7 := { stood := { row := flowGrowsRow, standIns := [], harness := (true, "ffdb6ea87355d97d6cf5b24453109751fe27c28c2d9799d9dfb6dcec34fa158e"), looks := true }, kinds := [], alts := [], laidByText := true, laidKinds := [.data], laidTests := true, laidLooks := .later }
def FlowGrowsCardSaid : Prop := Claim7.holds Tryz.pinned (.plain (OpenSpec.ofChange flowGrowsSpec)) flowGrowsCard

/-- THE SECOND FORM's CARD OF 'louvrelaw23.ReachMatches'. -/
def reachMatchesUptoCard : Claim7 := { stood := { row := reachMatchesUptoRow, standIns := [], harness := (true, "ffdb6ea87355d97d6cf5b24453109751fe27c28c2d9799d9dfb6dcec34fa158e"), looks := true }, kinds := [], alts := [], laidByText := true, laidKinds := [.data], laidTests := true, laidLooks := .later }
def ReachMatchesUptoCardSaid : Prop := Claim7.holds Tryz.pinned (.plain (OpenSpec.upto reachMatchesSpec)) reachMatchesUptoCard

/-- THE SECOND FORM's CARD OF 'louvrelaw27.FlowSees'. -/
def flowSeesUptoCard : Claim7 := { stood := { row := flowSeesUptoRow, standIns := [], harness := (true, "ffdb6ea87355d97d6cf5b24453109751fe27c28c2d9799d9dfb6dcec34fa158e"), looks := true }, kinds := [], alts := [], laidByText := true, laidKinds := [.data], laidTests := true, laidLooks := .later }
def FlowSeesUptoCardSaid : Prop := Claim7.holds Tryz.pinned (.plain (OpenSpec.upto flowSeesSpec)) flowSeesUptoCard

/-- THE SECOND FORM's CARD OF 'louvrelaw27.FlowConstants'. -/
def flowConstantsUptoCard : Claim7 := { stood := { row := flowConstantsUptoRow, standIns := [], harness := (true, "ffdb6ea87355d97d6cf5b24453109751fe27c28c2d9799d9dfb6dcec34fa158e"), looks := true }, kinds := [], alts := [], laidByText := true, laidKinds := [.data], laidTests := true, laidLooks := .later }
def FlowConstantsUptoCardSaid : Prop := Claim7.holds Tryz.pinned (.plain (OpenSpec.upto flowConstantsSpec)) flowConstantsUptoCard

/-- THE SECOND FORM's CARD OF 'louvrelaw27.FlowEquations'. -/
def flowEquationsUptoCard : Claim7 := { stood := { row := flowEquationsUptoRow, standIns := [], harness := (true, "ffdb6ea87355d97d6cf5b24453109751fe27c28c2d9799d9dfb6dcec34fa158e"), looks := true }, kinds := [], alts := [], laidByText := true, laidKinds := [.data], laidTests := true, laidLooks := .later }
def FlowEquationsUptoCardSaid : Prop := Claim7.holds Tryz.pinned (.plain (OpenSpec.upto flowEquationsSpec)) flowEquationsUptoCard

/-- THE SECOND FORM's CARD OF 'louvrelaw27.FlowExamples'. -/
def flowExamplesUptoCard : Claim7 := { stood := { row := flowExamplesUptoRow, standIns := [], harness := (true, "ffdb6ea87355d97d6cf5b24453109751fe27c28c2d9799d9dfb6dcec34fa158e"), looks := true }, kinds := [], alts := [], laidByText := true, laidKinds := [.data], laidTests := true, laidLooks := .later }
def FlowExamplesUptoCardSaid : Prop := Claim7.holds Tryz.pinned (.plain (OpenSpec.upto flowExamplesSpec)) flowExamplesUptoCard

/-- THE SECOND FORM's CARD OF 'louvrelaw27.FlowGrows'. -/
def flowGrowsUptoCard : Claim7 := { stood := { row := flowGrowsUptoRow, standIns := [], harness := (true, "ffdb6ea87355d97d6cf5b24453109751fe27c28c2d9799d9dfb6dcec34fa158e"), looks := true }, kinds := [], alts := [], laidByText := true, laidKinds := [.data], laidTests := true, laidLooks := .later }
def FlowGrowsUptoCardSaid : Prop := Claim7.holds Tryz.pinned (.plain (OpenSpec.upto flowGrowsSpec)) flowGrowsUptoCard
end Rows
end Go.Proofs.YtlnecnbfmnfigaaGreatDoor

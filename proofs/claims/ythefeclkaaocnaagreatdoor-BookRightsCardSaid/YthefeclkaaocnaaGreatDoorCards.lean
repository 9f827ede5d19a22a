/-
  DERIVED. GIVEN WITH THE SEED: THE CARDS: each row of YthefeclkaaocnaaGreatDoorRows.lean that lists a variable, with what it lists TIED to the program's text (the seventh form; the later family's looks); each row that meets fmt, with fmt's text TOLD by the authors' own Lean function (tested against real Go, not proved from fmt's source: count such statements apart). THE CARD IS WHAT COUNTS. Prove the row's statement (the work); the ties are given (YthefeclkaaocnaaGreatDoorTie.lean); close each card by the builder's one call (the guide's Derived/Test/ToyasCard.lean, 'card_holds'). Laid BY PROGRAM, IN A SANDBOX (cutbox-door.mjs). By AI agents, Wed Nov 11 2026. No macro, syntax, notation, axiom, sorry.
-/
import Derived.Test.YthefeclkaaocnaaGreatDoorRows
import GoSem.ClaimSeven
namespace Go.Proofs.YthefeclkaaocnaaGreatDoor
namespace Rows

/-- THE TIED CARD OF 'louvrelaw31.BookExamples'. -/
def bookExamplesCard : Claim7 := { stood := { row := bookExamplesRow, standIns := [], harness := (true, "5d27a65236db43743fdcf343a1e4647ad0ae3f8110dc6a117830f1b97844653f"), looks := true }, kinds := [], alts := [], laidByText := true, laidKinds := [.data], laidTests := true, laidLooks := .later }
def BookExamplesCardSaid : Prop := Claim7.holds Tryz.pinned (.plain (OpenSpec.ofChange bookExamplesSpec)) bookExamplesCard

/-- THE TIED CARD OF 'louvrelaw31.BookStatic'. -/
def bookStaticCard : Claim7 := { stood := { row := bookStaticRow, standIns := [], harness := (true, "5d27a65236db43743fdcf343a1e4647ad0ae3f8110dc6a117830f1b97844653f"), looks := true }, kinds := [], alts := [], laidByText := true, laidKinds := [.data], laidTests := true, laidLooks := .later }
def BookStaticCardSaid : Prop := Claim7.holds Tryz.pinned (.plain (OpenSpec.ofChange bookStaticSpec)) bookStaticCard

/-- THE TIED CARD OF 'louvrelaw31.BookChecks'. -/
def bookChecksCard : Claim7 := { stood := { row := bookChecksRow, standIns := [], harness := (true, "5d27a65236db43743fdcf343a1e4647ad0ae3f8110dc6a117830f1b97844653f"), looks := true }, kinds := [], alts := [], laidByText := true, laidKinds := [.data], laidTests := true, laidLooks := .later }
def BookChecksCardSaid : Prop := Claim7.holds Tryz.pinned (.plain (OpenSpec.ofChange bookChecksSpec)) bookChecksCard

/-- THE TIED CARD OF 'louvrelaw31.BookRights'. -/
def bookRightsCard : Claim7 := { stood := { row := bookRightsRow, standIns := [], harness := (true, "5d27a65236db43743fdcf343a1e4647ad0ae3f8110dc6a117830f1b97844653f"), looks := true }, kinds := [], alts := [], laidByText := true, laidKinds := [.data], laidTests := true, laidLooks := .later }
def BookRightsCardSaid : Prop := Claim7.holds Tryz.pinned (.plain (OpenSpec.ofChange bookRightsSpec)) bookRightsCard

/-- THE TIED CARD OF 'louvrelaw27.FlowSees'. -/
def flowSeesCard : Claim7 := { stood := { row := flowSeesRow, standIns := [], harness := (true, "5d27a65236db43743fdcf343a1e4647ad0ae3f8110dc6a117830f1b97844653f"), looks := true }, kinds := [], alts := [], laidByText := true, laidKinds := [.data], laidTests := true, laidLooks := .later }
def FlowSeesCardSaid : Prop := Claim7.holds Tryz.pinned (.plain (OpenSpec.ofChange flowSeesSpec)) flowSeesCard

/-- THE TIED CARD OF 'louvrelaw27.FlowConstants'. -/
def flowConstantsCard : Claim7 := { stood := { row := flowConstantsRow, standIns := [], harness := (true, "5d27a65236db43743fdcf343a1e4647ad0ae3f8110dc6a117830f1b97844653f"), looks := true }, kinds := [], alts := [], laidByText := true, laidKinds := [.data], laidTests := true, laidLooks := .later }
def FlowConstantsCardSaid : Prop := Claim7.holds Tryz.pinned (.plain (OpenSpec.ofChange flowConstantsSpec)) flowConstantsCard

/-- THE TIED CARD OF 'louvrelaw27.FlowEquations'. -/
def flowEquationsCard : Claim7 := { stood := { row := flowEquationsRow, standIns := [], harness := (true, "5d27a65236db43743fdcf343a1e4647ad0ae3f8110dc6a117830f1b97844653f"), looks := true }, kinds := [], alts := [], laidByText := true, laidKinds := [.data], laidTests := true, laidLooks := .later }
def FlowEquationsCardSaid : Prop := Claim7.holds Tryz.pinned (.plain (OpenSpec.ofChange flowEquationsSpec)) flowEquationsCard

/-- THE TIED CARD OF 'louvrelaw27.FlowGrows'. -/
def flowGrowsCard : Claim7 := { stood := { row := flowGrowsRow, standIns := [], harness := (true, "5d27a65236db43743fdcf343a1e4647ad0ae3f8110dc6a117830f1b97844653f"), looks := true }, kinds := [], alts := [], laidByText := true, laidKinds := [.data], laidTests := true, laidLooks := .later }
def FlowGrowsCardSaid : Prop := Claim7.holds Tryz.pinned (.plain (OpenSpec.ofChange flowGrowsSpec)) flowGrowsCard

/-- THE SECOND FORM's CARD OF 'louvrelaw31.BookExamples'. -/
def bookExamplesUptoCard : Claim7 := { stood := { row := bookExamplesUptoRow, standIns := [], harness := (true, "5d27a65236db43743fdcf343a1e4647ad0ae3f8110dc6a117830f1b97844653f"), looks := true }, kinds := [], alts := [], laidByText := true, laidKinds := [.data], laidTests := true, laidLooks := .later }
def BookExamplesUptoCardSaid : Prop := Claim7.holds Tryz.pinned (.plain (OpenSpec.upto bookExamplesSpec)) bookExamplesUptoCard

/-- THE SECOND FORM's CARD OF 'louvrelaw31.BookStatic'. -/
def bookStaticUptoCard : Claim7 := { stood := { row := bookStaticUptoRow, standIns := [], harness := (true, "5d27a65236db43743fdcf343a1e4647ad0ae3f8110dc6a117830f1b97844653f"), looks := true }, kinds := [], alts := [], laidByText := true, laidKinds := [.data], laidTests := true, laidLooks := .later }
def BookStaticUptoCardSaid : Prop := Claim7.holds Tryz.pinned (.plain (OpenSpec.upto bookStaticSpec)) bookStaticUptoCard

/-- THE SECOND FORM's CARD OF 'louvrelaw31.BookChecks'. -/
def bookChecksUptoCard : Claim7 := { stood := { row := bookChecksUptoRow, standIns := [], harness := (true, "5d27a65236db43743fdcf343a1e4647ad0ae3f8110dc6a117830f1b97844653f"), looks := true }, kinds := [], alts := [], laidByText := true, laidKinds := [.data], laidTests := true, laidLooks := .later }
def BookChecksUptoCardSaid : Prop := Claim7.holds Tryz.pinned (.plain (OpenSpec.upto bookChecksSpec)) bookChecksUptoCard

/-- THE SECOND FORM's CARD OF 'louvrelaw31.BookRights'. -/
def bookRightsUptoCard : Claim7 := { stood := { row := bookRightsUptoRow, standIns := [], harness := (true, "5d27a65236db43743fdcf343a1e4647ad0ae3f8110dc6a117830f1b97844653f"), looks := true }, kinds := [], alts := [], laidByText := true, laidKinds := [.data], laidTests := true, laidLooks := .later }
def BookRightsUptoCardSaid : Prop := Claim7.holds Tryz.pinned (.plain (OpenSpec.upto bookRightsSpec)) bookRightsUptoCard

/-- THE SECOND FORM's CARD OF 'louvrelaw27.FlowSees'. -/
def flowSeesUptoCard : Claim7 := { stood := { row := flowSeesUptoRow, standIns := [], harness := (true, "5d27a65236db43743fdcf343a1e4647ad0ae3f8110dc6a117830f1b97844653f"), looks := true }, kinds := [], alts := [], laidByText := true, laidKinds := [.data], laidTests := true, laidLooks := .later }
def FlowSeesUptoCardSaid : Prop := Claim7.holds Tryz.pinned (.plain (OpenSpec.upto flowSeesSpec)) flowSeesUptoCard

/-- THE SECOND FORM's CARD OF 'louvrelaw27.FlowConstants'. -/
def flowConstantsUptoCard : Claim7 := { stood := { row := flowConstantsUptoRow, standIns := [], harness := (true, "5d27a65236db43743fdcf343a1e4647ad0ae3f8110dc6a117830f1b97844653f"), looks := true }, kinds := [], alts := [], laidByText := true, laidKinds := [.data], laidTests := true, laidLooks := .later }
def FlowConstantsUptoCardSaid : Prop := Claim7.holds Tryz.pinned (.plain (OpenSpec.upto flowConstantsSpec)) flowConstantsUptoCard

/-- THE SECOND FORM's CARD OF 'louvrelaw27.FlowEquations'. -/
def flowEquationsUptoCard : Claim7 := { stood := { row := flowEquationsUptoRow, standIns := [], harness := (true, "5d27a65236db43743fdcf343a1e4647ad0ae3f8110dc6a117830f1b97844653f"), looks := true }, kinds := [], alts := [], laidByText := true, laidKinds := [.data], laidTests := true, laidLooks := .later }
def FlowEquationsUptoCardSaid : Prop := Claim7.holds Tryz.pinned (.plain (OpenSpec.upto flowEquationsSpec)) flowEquationsUptoCard

/-- THE SECOND FORM's CARD OF 'louvrelaw27.FlowGrows'. -/
def flowGrowsUptoCard : Claim7 := { stood := { row := flowGrowsUptoRow, standIns := [], harness := (true, "5d27a65236db43743fdcf343a1e4647ad0ae3f8110dc6a117830f1b97844653f"), looks := true }, kinds := [], alts := [], laidByText := true, laidKinds := [.data], laidTests := true, laidLooks := .later }
def FlowGrowsUptoCardSaid : Prop := Claim7.holds Tryz.pinned (.plain (OpenSpec.upto flowGrowsSpec)) flowGrowsUptoCard
end Rows
end Go.Proofs.YthefeclkaaocnaaGreatDoor

/-
  DERIVED. GIVEN WITH THE SEED: THE CARDS: each row of YtpohljcebgacjaaGreatDoorRows.lean that lists a variable, with what it lists TIED to the program's text (the seventh form; the later family's looks); each row that meets fmt, with fmt's text TOLD by the authors' own Lean function (tested against real Go, not proved from fmt's source: count such statements apart). THE CARD IS WHAT COUNTS. Prove the row's statement (the work); the ties are given (YtpohljcebgacjaaGreatDoorTie.lean); close each card by the builder's one call (the guide's Derived/Test/ToyasCard.lean, 'card_holds'). Laid BY PROGRAM, IN A SANDBOX (cutbox-door.mjs). By AI agents, Wed Nov 11 2026. No macro, syntax, notation, axiom, sorry.
-/
import Derived.Test.YtpohljcebgacjaaGreatDoorRows
import GoSem.ClaimSeven
namespace Go.Proofs.YtpohljcebgacjaaGreatDoor
namespace Rows

/-- THE TIED CARD OF 'louvrelaw22.DepsUsers'. -/
def depsUsersCard : Claim7 := { stood := { row := depsUsersRow, standIns := [], harness := (true, "9e8a139603b98fc5e9b62dca495ee8046e160ab7754a7a0b01d1cb85f2427766"), looks := true }, kinds := [], alts := [], laidByText := true, laidKinds := [.data], laidTests := true, laidLooks := .later }
def DepsUsersCardSaid : Prop := Claim7.holds Tryz.pinned (.plain (OpenSpec.ofChange depsUsersSpec)) depsUsersCard

/-- THE TIED CARD OF 'louvrelaw22.DepsMatches'. -/
def depsMatchesCard : Claim7 := { stood := { row := depsMatchesRow, standIns := [], harness := (true, "9e8a139603b98fc5e9b62dca495ee8046e160ab7754a7a0b01d1cb85f2427766"), looks := true }, kinds := [], alts := [], laidByText := true, laidKinds := [.data], laidTests := true, laidLooks := .later }
def DepsMatchesCardSaid : Prop := Claim7.holds Tryz.pinned (.plain (OpenSpec.ofChange depsMatchesSpec)) depsMatchesCard

/-- THE TIED CARD OF 'louvrelaw22.DepsNews'. -/
def depsNewsCard : Claim7 := { stood := { row := depsNewsRow, standIns := [], harness := (true, "9e8a139603b98fc5e9b62dca495ee8046e160ab7754a7a0b01d1cb85f2427766"), looks := true }, kinds := [], alts := [], laidByText := true, laidKinds := [.data], laidTests := true, laidLooks := .later }
def DepsNewsCardSaid : Prop := Claim7.holds Tryz.pinned (.plain (OpenSpec.ofChange depsNewsSpec)) depsNewsCard

/-- THE TIED CARD OF 'louvrelaw22.DepsNames'. -/
def depsNamesCard : Claim7 := { stood := { row := depsNamesRow, standIns := [], harness := (true, "9e8a139603b98fc5e9b62dca495ee8046e160ab7754a7a0b01d1cb85f2427766"), looks := true }, kinds := [], alts := [], laidByText := true, laidKinds := [.data], laidTests := true, laidLooks := .later }
def DepsNamesCardSaid : Prop := Claim7.holds Tryz.pinned (.plain (OpenSpec.ofChange depsNamesSpec)) depsNamesCard

/-- THE TIED CARD OF 'louvrelaw22.DepsApart'. -/
def depsApartCard : Claim7 := { stood := { row := depsApartRow, standIns := [], harness := (true, "9e8a139603b98fc5e9b62dca495ee8046e160ab7754a7a0b01d1cb85f2427766"), looks := true }, kinds := [], alts := [], laidByText := true, laidKinds := [.data], laidTests := true, laidLooks := .later }
def DepsApartCardSaid : Prop := Claim7.holds Tryz.pinned (.plain (OpenSpec.ofChange depsApartSpec)) depsApartCard

/-- THE TIED CARD OF 'louvrelaw22.DepsOrder'. -/
def depsOrderCard : Claim7 := { stood := { row := depsOrderRow, standIns := [], harness := (true, "9e8a139603b98fc5e9b62dca495ee8046e160ab7754a7a0b01d1cb85f2427766"), looks := true }, kinds := [], alts := [], laidByText := true, laidKinds := [.data], laidTests := true, laidLooks := .later }
def DepsOrderCardSaid : Prop := Claim7.holds Tryz.pinned (.plain (OpenSpec.ofChange depsOrderSpec)) depsOrderCard

/-- THE TIED CARD OF 'louvrelaw23.ReachNames'. -/
def reachNamesCard : Claim7 := { stood := { row := reachNamesRow, standIns := [], harness := (true, "9e8a139603b98fc5e9b62dca495ee8046e160ab7754a7a0b01d1cb85f2427766"), looks := true }, kinds := [], alts := [], laidByText := true, laidKinds := [.data], laidTests := true, laidLooks := .later }
def ReachNamesCardSaid : Prop := Claim7.holds Tryz.pinned (.plain (OpenSpec.ofChange reachNamesSpec)) reachNamesCard

/-- THE TIED CARD OF 'louvrelaw23.ReachPaths'. -/
def reachPathsCard : Claim7 := { stood := { row := reachPathsRow, standIns := [], harness := (true, "9e8a139603b98fc5e9b62dca495ee8046e160ab7754a7a0b01d1cb85f2427766"), looks := true }, kinds := [], alts := [], laidByText := true, laidKinds := [.data], laidTests := true, laidLooks := .later }
def ReachPathsCardSaid : Prop := Claim7.holds Tryz.pinned (.plain (OpenSpec.ofChange reachPathsSpec)) reachPathsCard

/-- THE TIED CARD OF 'louvrelaw23.ReachBoth'. -/
def reachBothCard : Claim7 := { stood := { row := reachBothRow, standIns := [], harness := (true, "9e8a139603b98fc5e9b62dca495ee8046e160ab7754a7a0b01d1cb85f2427766"), looks := true }, kinds := [], alts := [], laidByText := true, laidKinds := [.data], laidTests := true, laidLooks := .later }
def ReachBothCardSaid : Prop := Claim7.holds Tryz.pinned (.plain (OpenSpec.ofChange reachBothSpec)) reachBothCard

/-- THE TIED CARD OF 'louvrelaw23.ReachWays'. -/
def reachWaysCard : Claim7 := { stood := { row := reachWaysRow, standIns := [], harness := (true, "9e8a139603b98fc5e9b62dca495ee8046e160ab7754a7a0b01d1cb85f2427766"), looks := true }, kinds := [], alts := [], laidByText := true, laidKinds := [.data], laidTests := true, laidLooks := .later }
def ReachWaysCardSaid : Prop := Claim7.holds Tryz.pinned (.plain (OpenSpec.ofChange reachWaysSpec)) reachWaysCard

/-- THE TIED CARD OF 'louvrelaw23.ReachMatches'. -/
def reachMatchesCard : Claim7 := { stood := { row := reachMatchesRow, standIns := [], harness := (true, "9e8a139603b98fc5e9b62dca495ee8046e160ab7754a7a0b01d1cb85f2427766"), looks := true }, kinds := [], alts := [], laidByText := true, laidKinds := [.data], laidTests := true, laidLooks := .later }
def ReachMatchesCardSaid : Prop := Claim7.holds Tryz.pinned (.plain (OpenSpec.ofChange reachMatchesSpec)) reachMatchesCard

/-- THE SECOND FORM's CARD OF 'louvrelaw22.DepsUsers'. -/
def depsUsersUptoCard : Claim7 := { stood := { row := depsUsersUptoRow, standIns := [], harness := (true, "9e8a139603b98fc5e9b62dca495ee8046e160ab7754a7a0b01d1cb85f2427766"), looks := true }, kinds := [], alts := [], laidByText := true, laidKinds := [.data], laidTests := true, laidLooks := .later }
def DepsUsersUptoCardSaid : Prop := Claim7.holds Tryz.pinned (.plain (OpenSpec.upto depsUsersSpec)) depsUsersUptoCard

/-- THE SECOND FORM's CARD OF 'louvrelaw22.DepsMatches'. -/
def depsMatchesUptoCard : Claim7 := { stood := { row := depsMatchesUptoRow, standIns := [], harness := (true, "9e8a139603b98fc5e9b62dca495ee8046e160ab7754a7a0b01d1cb85f2427766"), looks := true }, kinds := [], alts := [], laidByText := true, laidKinds := [.data], laidTests := true, laidLooks := .later }
def DepsMatchesUptoCardSaid : Prop := Claim7.holds Tryz.pinned (.plain (OpenSpec.upto depsMatchesSpec)) depsMatchesUptoCard

/-- THE SECOND FORM's CARD OF 'louvrelaw22.DepsNews'. -/
def depsNewsUptoCard : Claim7 := { stood := { row := depsNewsUptoRow, standIns := [], harness := (true, "9e8a139603b98fc5e9b62dca495ee8046e160ab7754a7a0b01d1cb85f2427766"), looks := true }, kinds := [], alts := [], laidByText := true, laidKinds := [.data], laidTests := true, laidLooks := .later }
def DepsNewsUptoCardSaid : Prop := Claim7.holds Tryz.pinned (.plain (OpenSpec.upto depsNewsSpec)) depsNewsUptoCard

/-- THE SECOND FORM's CARD OF 'louvrelaw22.DepsNames'. -/
def depsNamesUptoCard : Claim7 := { stood := { row := depsNamesUptoRow, standIns := [], harness := (true, "9e8a139603b98fc5e9b62dca495ee8046e160ab7754a7a0b01d1cb85f2427766"), looks := true }, kinds := [], alts := [], laidByText := true, laidKinds := [.data], laidTests := true, laidLooks := .later }
def DepsNamesUptoCardSaid : Prop := Claim7.holds Tryz.pinned (.plain (OpenSpec.upto depsNamesSpec)) depsNamesUptoCard

/-- THE SECOND FORM's CARD OF 'louvrelaw22.DepsApart'. -/
def depsApartUptoCard : Claim7 := { stood := { row := depsApartUptoRow, standIns := [], harness := (true, "9e8a139603b98fc5e9b62dca495ee8046e160ab7754a7a0b01d1cb85f2427766"), looks := true }, kinds := [], alts := [], laidByText := true, laidKinds := [.data], laidTests := true, laidLooks := .later }
def DepsApartUptoCardSaid : Prop := Claim7.holds Tryz.pinned (.plain (OpenSpec.upto depsApartSpec)) depsApartUptoCard

/-- THE SECOND FORM's CARD OF 'louvrelaw22.DepsOrder'. -/
def depsOrderUptoCard : Claim7 := { stood := { row := depsOrderUptoRow, standIns := [], harness := (true, "9e8a139603b98fc5e9b62dca495ee8046e160ab7754a7a0b01d1cb85f2427766"), looks := true }, kinds := [], alts := [], laidByText := true, laidKinds := [.data], laidTests := true, laidLooks := .later }
def DepsOrderUptoCardSaid : Prop := Claim7.holds Tryz.pinned (.plain (OpenSpec.upto depsOrderSpec)) depsOrderUptoCard

/-- THE SECOND FORM's CARD OF 'louvrelaw23.ReachNames'. -/
def reachNamesUptoCard : Claim7 := { stood := { row := reachNamesUptoRow, standIns := [], harness := (true, "9e8a139603b98fc5e9b62dca495ee8046e160ab7754a7a0b01d1cb85f2427766"), looks := true }, kinds := [], alts := [], laidByText := true, laidKinds := [.data], laidTests := true, laidLooks := .later }
def ReachNamesUptoCardSaid : Prop := Claim7.holds Tryz.pinned (.plain (OpenSpec.upto reachNamesSpec)) reachNamesUptoCard

/-- THE SECOND FORM's CARD OF 'louvrelaw23.ReachPaths'. -/
def reachPathsUptoCard : Claim7 := { stood := { row := reachPathsUptoRow, standIns := [], harness := (true, "9e8a139603b98fc5e9b62dca495ee8046e160ab7754a7a0b01d1cb85f2427766"), looks := true }, kinds := [], alts := [], laidByText := true, laidKinds := [.data], laidTests := true, laidLooks := .later }
def ReachPathsUptoCardSaid : Prop := Claim7.holds Tryz.pinned (.plain (OpenSpec.upto reachPathsSpec)) reachPathsUptoCard

/-- THE SECOND FORM's CARD OF 'louvrelaw23.ReachBoth'. -/
def reachBothUptoCard : Claim7 := { stood := { row := reachBothUptoRow, standIns := [], harness := (true, "9e8a139603b98fc5e9b62dca495ee8046e160ab7754a7a0b01d1cb85f2427766"), looks := true }, kinds := [], alts := [], laidByText := true, laidKinds := [.data], laidTests := true, laidLooks := .later }
def ReachBothUptoCardSaid : Prop := Claim7.holds Tryz.pinned (.plain (OpenSpec.upto reachBothSpec)) reachBothUptoCard

/-- THE SECOND FORM's CARD OF 'louvrelaw23.ReachWays'. -/
def reachWaysUptoCard : Claim7 := { stood := { row := reachWaysUptoRow, standIns := [], harness := (true, "9e8a139603b98fc5e9b62dca495ee8046e160ab7754a7a0b01d1cb85f2427766"), looks := true }, kinds := [], alts := [], laidByText := true, laidKinds := [.data], laidTests := true, laidLooks := .later }
def ReachWaysUptoCardSaid : Prop := Claim7.holds Tryz.pinned (.plain (OpenSpec.upto reachWaysSpec)) reachWaysUptoCard

/-- THE SECOND FORM's CARD OF 'louvrelaw23.ReachMatches'. -/
def reachMatchesUptoCard : Claim7 := { stood := { row := reachMatchesUptoRow, standIns := [], harness := (true, "9e8a139603b98fc5e9b62dca495ee8046e160ab7754a7a0b01d1cb85f2427766"), looks := true }, kinds := [], alts := [], laidByText := true, laidKinds := [.data], laidTests := true, laidLooks := .later }
def ReachMatchesUptoCardSaid : Prop := Claim7.holds Tryz.pinned (.plain (OpenSpec.upto reachMatchesSpec)) reachMatchesUptoCard
end Rows
end Go.Proofs.YtpohljcebgacjaaGreatDoor

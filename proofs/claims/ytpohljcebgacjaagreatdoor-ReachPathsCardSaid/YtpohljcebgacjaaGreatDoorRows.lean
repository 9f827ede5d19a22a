/-
  NARROWER THAN 'FOR EVERY INPUT', by the rows' own cells (each row's printed sentence says how): DepsUsers: laid · DepsMatches: laid · DepsNews: laid · DepsNames: laid · DepsApart: laid · DepsOrder: laid · ReachNames: laid · ReachPaths: laid · ReachBoth: laid · ReachWays: laid · ReachMatches: laid.
  DERIVED. THE GIVEN ROWS OF THIS SEAT. 11 by the template 'for every input the law returns true; each argument reads behind the call as it read before'; 0 by the template 'total and deterministic' (their statements: YtpohljcebgacjaaGreatDoorTotals.lean).
  GIVEN WITH THE SEED: the statements are not yours to turn. If you find one false, say at which input.
  Laid BY PROGRAM, IN A SANDBOX (cutbox-rows.mjs): the forced cells as the released guide's own fill.sh prints them over the translation f9291be8c80e199b… (all of the seat's roots in one cut). By AI agents, Wed Nov 11 2026. No macro, syntax, notation, axiom, sorry.
-/
import Derived.Test.YtpohljcebgacjaaGreatDoorChecked
import GoSem.Claim
import GoSem.ClaimJoined
import GoSem.ClaimMapViews
import Derived.JoinedTies
import Derived.KernelRfl
namespace Go.Proofs.YtpohljcebgacjaaGreatDoor
/- THE CELL 'sum', in the pinned program and in every row, IS THE sha256 OF THE DUMP (.gsa) THAT YtpohljcebgacjaaGreatDoorProg.lean LOADS. Nothing in Lean hashes anything: it is a label: what it is worth is what the hold of that sum in a sandbox is worth. -/
noncomputable def Tryz.pinned : Pinned := { name := "ytpohljcebgacjaagreatdoor", sum := "f9291be8c80e199b45ff13a5f2cd2ebc815303e5a1a5ffeeb5100ff7eba66e68", checked := Tryz.checked }
namespace Rows
def none {H : Type} : Left H := { results := [], args := [] }

/- WHAT THE LISTED PACKAGE-LEVEL VARIABLES READ AS WHEN THE CALL BEGINS. Each datum BY PROGRAM (the guide's laid-datum.mjs) off the statement by which the dump's own 'gosem.cut.vars' lays the variable. In a bare row this is a premise. The card (YtpohljcebgacjaaGreatDoorCards.lean) ties it to the program's text. -/
def laid_louvre_val_words {H : Type} : DataW H := .agg [.lit (.string []), .lit (.string [35, 68, 73, 86, 47, 48, 33]), .lit (.string [35, 86, 65, 76, 85, 69, 33]), .lit (.string [35, 78, 85, 77, 33]), .lit (.string [35, 78, 47, 65]), .lit (.string [35, 82, 69, 70, 33]), .lit (.string [35, 67, 89, 67, 76, 69, 33]), .lit (.string [35, 68, 69, 78, 73, 69, 68])]

/-- 'louvrelaw22.DepsUsers': WHATEVER THE INPUT: true; the input reads as it did. -/
def depsUsersSpec : ChangeSpec := { name := "depsUsers", fn := fun _ => fun
  | [d1, d2] => { results := [.lit (.bool true)], args := [d1, d2] }
  | _ => none }
def depsUsersRow : OpenClaim := { program := "ytpohljcebgacjaagreatdoor", sum := "f9291be8c80e199b45ff13a5f2cd2ebc815303e5a1a5ffeeb5100ff7eba66e68", func := "louvre/louvrelaw22.DepsUsers", spec := "depsUsers", unfollowed := true, recurses := true, named := ["louvre/val.words"], plainKeys := false, apart := false, laid := [("louvre/val.words", laid_louvre_val_words)] }
def DepsUsersSaid : Prop := depsUsersRow.holds Tryz.pinned (OpenSpec.ofChange depsUsersSpec)

/-- ITS FALSE NEIGHBOUR: 'it returns false'. Refute it at one input. -/
def depsUsersWrong : ChangeSpec := { name := "depsUsers", fn := fun _ => fun
  | [d1, d2] => { results := [.lit (.bool false)], args := [d1, d2] }
  | _ => none }
def DepsUsersWrongFalsely : Prop := depsUsersRow.holds Tryz.pinned (OpenSpec.ofChange depsUsersWrong)

/-- 'louvrelaw22.DepsMatches': WHATEVER THE INPUT: true; the input reads as it did. -/
def depsMatchesSpec : ChangeSpec := { name := "depsMatches", fn := fun _ => fun
  | [d1, d2, d3, d4] => { results := [.lit (.bool true)], args := [d1, d2, d3, d4] }
  | _ => none }
def depsMatchesRow : OpenClaim := { program := "ytpohljcebgacjaagreatdoor", sum := "f9291be8c80e199b45ff13a5f2cd2ebc815303e5a1a5ffeeb5100ff7eba66e68", func := "louvre/louvrelaw22.DepsMatches", spec := "depsMatches", unfollowed := true, recurses := true, named := ["louvre/val.words"], plainKeys := false, apart := false, laid := [("louvre/val.words", laid_louvre_val_words)] }
def DepsMatchesSaid : Prop := depsMatchesRow.holds Tryz.pinned (OpenSpec.ofChange depsMatchesSpec)

/-- ITS FALSE NEIGHBOUR: 'it returns false'. Refute it at one input. -/
def depsMatchesWrong : ChangeSpec := { name := "depsMatches", fn := fun _ => fun
  | [d1, d2, d3, d4] => { results := [.lit (.bool false)], args := [d1, d2, d3, d4] }
  | _ => none }
def DepsMatchesWrongFalsely : Prop := depsMatchesRow.holds Tryz.pinned (OpenSpec.ofChange depsMatchesWrong)

/-- 'louvrelaw22.DepsNews': WHATEVER THE INPUT: true; the input reads as it did. -/
def depsNewsSpec : ChangeSpec := { name := "depsNews", fn := fun _ => fun
  | [d] => { results := [.lit (.bool true)], args := [d] }
  | _ => none }
def depsNewsRow : OpenClaim := { program := "ytpohljcebgacjaagreatdoor", sum := "f9291be8c80e199b45ff13a5f2cd2ebc815303e5a1a5ffeeb5100ff7eba66e68", func := "louvre/louvrelaw22.DepsNews", spec := "depsNews", unfollowed := true, recurses := true, named := ["louvre/val.words"], plainKeys := false, apart := false, laid := [("louvre/val.words", laid_louvre_val_words)] }
def DepsNewsSaid : Prop := depsNewsRow.holds Tryz.pinned (OpenSpec.ofChange depsNewsSpec)

/-- ITS FALSE NEIGHBOUR: 'it returns false'. Refute it at one input. -/
def depsNewsWrong : ChangeSpec := { name := "depsNews", fn := fun _ => fun
  | [d] => { results := [.lit (.bool false)], args := [d] }
  | _ => none }
def DepsNewsWrongFalsely : Prop := depsNewsRow.holds Tryz.pinned (OpenSpec.ofChange depsNewsWrong)

/-- 'louvrelaw22.DepsNames': WHATEVER THE INPUT: true; the input reads as it did. -/
def depsNamesSpec : ChangeSpec := { name := "depsNames", fn := fun _ => fun
  | [] => { results := [.lit (.bool true)], args := [] }
  | _ => none }
def depsNamesRow : OpenClaim := { program := "ytpohljcebgacjaagreatdoor", sum := "f9291be8c80e199b45ff13a5f2cd2ebc815303e5a1a5ffeeb5100ff7eba66e68", func := "louvre/louvrelaw22.DepsNames", spec := "depsNames", unfollowed := true, recurses := true, named := ["louvre/val.words"], plainKeys := false, apart := false, laid := [("louvre/val.words", laid_louvre_val_words)] }
def DepsNamesSaid : Prop := depsNamesRow.holds Tryz.pinned (OpenSpec.ofChange depsNamesSpec)

/-- ITS FALSE NEIGHBOUR: 'it returns false'. Refute it at one input. -/
def depsNamesWrong : ChangeSpec := { name := "depsNames", fn := fun _ => fun
  | [] => { results := [.lit (.bool false)], args := [] }
  | _ => none }
def DepsNamesWrongFalsely : Prop := depsNamesRow.holds Tryz.pinned (OpenSpec.ofChange depsNamesWrong)

/-- 'louvrelaw22.DepsApart': WHATEVER THE INPUT: true; the input reads as it did. -/
def depsApartSpec : ChangeSpec := { name := "depsApart", fn := fun _ => fun
  | [d1, d2] => { results := [.lit (.bool true)], args := [d1, d2] }
  | _ => none }
def depsApartRow : OpenClaim := { program := "ytpohljcebgacjaagreatdoor", sum := "f9291be8c80e199b45ff13a5f2cd2ebc815303e5a1a5ffeeb5100ff7eba66e68", func := "louvre/louvrelaw22.DepsApart", spec := "depsApart", unfollowed := true, recurses := true, named := ["louvre/val.words"], plainKeys := false, apart := false, laid := [("louvre/val.words", laid_louvre_val_words)] }
def DepsApartSaid : Prop := depsApartRow.holds Tryz.pinned (OpenSpec.ofChange depsApartSpec)

/-- ITS FALSE NEIGHBOUR: 'it returns false'. Refute it at one input. -/
def depsApartWrong : ChangeSpec := { name := "depsApart", fn := fun _ => fun
  | [d1, d2] => { results := [.lit (.bool false)], args := [d1, d2] }
  | _ => none }
def DepsApartWrongFalsely : Prop := depsApartRow.holds Tryz.pinned (OpenSpec.ofChange depsApartWrong)

/-- 'louvrelaw22.DepsOrder': WHATEVER THE INPUT: true; the input reads as it did. -/
def depsOrderSpec : ChangeSpec := { name := "depsOrder", fn := fun _ => fun
  | [d] => { results := [.lit (.bool true)], args := [d] }
  | _ => none }
def depsOrderRow : OpenClaim := { program := "ytpohljcebgacjaagreatdoor", sum := "f9291be8c80e199b45ff13a5f2cd2ebc815303e5a1a5ffeeb5100ff7eba66e68", func := "louvre/louvrelaw22.DepsOrder", spec := "depsOrder", unfollowed := true, recurses := true, named := ["louvre/val.words"], plainKeys := false, apart := false, laid := [("louvre/val.words", laid_louvre_val_words)] }
def DepsOrderSaid : Prop := depsOrderRow.holds Tryz.pinned (OpenSpec.ofChange depsOrderSpec)

/-- ITS FALSE NEIGHBOUR: 'it returns false'. Refute it at one input. -/
def depsOrderWrong : ChangeSpec := { name := "depsOrder", fn := fun _ => fun
  | [d] => { results := [.lit (.bool false)], args := [d] }
  | _ => none }
def DepsOrderWrongFalsely : Prop := depsOrderRow.holds Tryz.pinned (OpenSpec.ofChange depsOrderWrong)

/-- 'louvrelaw23.ReachNames': WHATEVER THE INPUT: true; the input reads as it did. -/
def reachNamesSpec : ChangeSpec := { name := "reachNames", fn := fun _ => fun
  | [] => { results := [.lit (.bool true)], args := [] }
  | _ => none }
def reachNamesRow : OpenClaim := { program := "ytpohljcebgacjaagreatdoor", sum := "f9291be8c80e199b45ff13a5f2cd2ebc815303e5a1a5ffeeb5100ff7eba66e68", func := "louvre/louvrelaw23.ReachNames", spec := "reachNames", unfollowed := true, recurses := true, named := ["louvre/val.words"], plainKeys := false, apart := false, laid := [("louvre/val.words", laid_louvre_val_words)] }
def ReachNamesSaid : Prop := reachNamesRow.holds Tryz.pinned (OpenSpec.ofChange reachNamesSpec)

/-- ITS FALSE NEIGHBOUR: 'it returns false'. Refute it at one input. -/
def reachNamesWrong : ChangeSpec := { name := "reachNames", fn := fun _ => fun
  | [] => { results := [.lit (.bool false)], args := [] }
  | _ => none }
def ReachNamesWrongFalsely : Prop := reachNamesRow.holds Tryz.pinned (OpenSpec.ofChange reachNamesWrong)

/-- 'louvrelaw23.ReachPaths': WHATEVER THE INPUT: true; the input reads as it did. -/
def reachPathsSpec : ChangeSpec := { name := "reachPaths", fn := fun _ => fun
  | [d1, d2] => { results := [.lit (.bool true)], args := [d1, d2] }
  | _ => none }
def reachPathsRow : OpenClaim := { program := "ytpohljcebgacjaagreatdoor", sum := "f9291be8c80e199b45ff13a5f2cd2ebc815303e5a1a5ffeeb5100ff7eba66e68", func := "louvre/louvrelaw23.ReachPaths", spec := "reachPaths", unfollowed := true, recurses := true, named := ["louvre/val.words"], plainKeys := false, apart := false, laid := [("louvre/val.words", laid_louvre_val_words)] }
def ReachPathsSaid : Prop := reachPathsRow.holds Tryz.pinned (OpenSpec.ofChange reachPathsSpec)

/-- ITS FALSE NEIGHBOUR: 'it returns false'. Refute it at one input. -/
def reachPathsWrong : ChangeSpec := { name := "reachPaths", fn := fun _ => fun
  | [d1, d2] => { results := [.lit (.bool false)], args := [d1, d2] }
  | _ => none }
def ReachPathsWrongFalsely : Prop := reachPathsRow.holds Tryz.pinned (OpenSpec.ofChange reachPathsWrong)

/-- 'louvrelaw23.ReachBoth': WHATEVER THE INPUT: true; the input reads as it did. -/
def reachBothSpec : ChangeSpec := { name := "reachBoth", fn := fun _ => fun
  | [d] => { results := [.lit (.bool true)], args := [d] }
  | _ => none }
def reachBothRow : OpenClaim := { program := "ytpohljcebgacjaagreatdoor", sum := "f9291be8c80e199b45ff13a5f2cd2ebc815303e5a1a5ffeeb5100ff7eba66e68", func := "louvre/louvrelaw23.ReachBoth", spec := "reachBoth", unfollowed := true, recurses := true, named := ["louvre/val.words"], plainKeys := false, apart := false, laid := [("louvre/val.words", laid_louvre_val_words)] }
def ReachBothSaid : Prop := reachBothRow.holds Tryz.pinned (OpenSpec.ofChange reachBothSpec)

/-- ITS FALSE NEIGHBOUR: 'it returns false'. Refute it at one input. -/
def reachBothWrong : ChangeSpec := { name := "reachBoth", fn := fun _ => fun
  | [d] => { results := [.lit (.bool false)], args := [d] }
  | _ => none }
def ReachBothWrongFalsely : Prop := reachBothRow.holds Tryz.pinned (OpenSpec.ofChange reachBothWrong)

/-- 'louvrelaw23.ReachWays': WHATEVER THE INPUT: true; the input reads as it did. -/
def reachWaysSpec : ChangeSpec := { name := "reachWays", fn := fun _ => fun
  | [d1, d2, d3] => { results := [.lit (.bool true)], args := [d1, d2, d3] }
  | _ => none }
def reachWaysRow : OpenClaim := { program := "ytpohljcebgacjaagreatdoor", sum := "f9291be8c80e199b45ff13a5f2cd2ebc815303e5a1a5ffeeb5100ff7eba66e68", func := "louvre/louvrelaw23.ReachWays", spec := "reachWays", unfollowed := true, recurses := true, named := ["louvre/val.words"], plainKeys := false, apart := false, laid := [("louvre/val.words", laid_louvre_val_words)] }
def ReachWaysSaid : Prop := reachWaysRow.holds Tryz.pinned (OpenSpec.ofChange reachWaysSpec)

/-- ITS FALSE NEIGHBOUR: 'it returns false'. Refute it at one input. -/
def reachWaysWrong : ChangeSpec := { name := "reachWays", fn := fun _ => fun
  | [d1, d2, d3] => { results := [.lit (.bool false)], args := [d1, d2, d3] }
  | _ => none }
def ReachWaysWrongFalsely : Prop := reachWaysRow.holds Tryz.pinned (OpenSpec.ofChange reachWaysWrong)

/-- 'louvrelaw23.ReachMatches': WHATEVER THE INPUT: true; the input reads as it did. -/
def reachMatchesSpec : ChangeSpec := { name := "reachMatches", fn := fun _ => fun
  | [d1, d2, d3, d4] => { results := [.lit (.bool true)], args := [d1, d2, d3, d4] }
  | _ => none }
def reachMatchesRow : OpenClaim := { program := "ytpohljcebgacjaagreatdoor", sum := "f9291be8c80e199b45ff13a5f2cd2ebc815303e5a1a5ffeeb5100ff7eba66e68", func := "louvre/louvrelaw23.ReachMatches", spec := "reachMatches", unfollowed := true, recurses := true, named := ["louvre/val.words"], plainKeys := false, apart := false, laid := [("louvre/val.words", laid_louvre_val_words)] }
def ReachMatchesSaid : Prop := reachMatchesRow.holds Tryz.pinned (OpenSpec.ofChange reachMatchesSpec)

/-- ITS FALSE NEIGHBOUR: 'it returns false'. Refute it at one input. -/
def reachMatchesWrong : ChangeSpec := { name := "reachMatches", fn := fun _ => fun
  | [d1, d2, d3, d4] => { results := [.lit (.bool false)], args := [d1, d2, d3, d4] }
  | _ => none }
def ReachMatchesWrongFalsely : Prop := reachMatchesRow.holds Tryz.pinned (OpenSpec.ofChange reachMatchesWrong)

/- THE SECOND FORM. 'bulk': how many values and letters a reading holds, each counted each time it is reached (what is shared counts as often as it is met; a slice's spare places count too). A statement '..UptoSaid' is the law's where the arguments, and the package variables that the reading takes, are together of bulk at most 1048576: NARROWER than '..Said'. Prove '..Said' where nothing that the law and all that it calls make is longer than what came in: it says more and counts as full. Else prove '..UptoSaid'. A law counts once. -/
mutual
def uptoBulk {H : Type} : DataW H → Nat
  | .lit (.string bytes) => bytes.length + 1
  | .lit _ => 1
  | .nil => 1
  | .ptr d => uptoBulk d + 1
  | .slice elems spare => uptoBulkAll elems + uptoBulkAll spare + 1
  | .agg parts => uptoBulkAll parts + 1
  | .iface _ d => uptoBulk d + 1
  | .map entries => uptoBulkEntries entries + 1
  | .held _ => 1
def uptoBulkAll {H : Type} : List (DataW H) → Nat
  | [] => 0
  | d :: r => uptoBulk d + uptoBulkAll r
def uptoBulkEntries {H : Type} : List (Lit × DataW H) → Nat
  | [] => 0
  | x :: r => uptoBulkEntry x + uptoBulkEntries r
def uptoBulkEntry {H : Type} : Lit × DataW H → Nat
  | (.string bytes, d) => bytes.length + uptoBulk d + 1
  | (_, d) => uptoBulk d + 1
 end
def uptoSmall : (H : Type) → List (DataW H) → Bool := fun _ ds => decide (uptoBulkAll ds ≤ 1048576)
def OpenSpec.upto (s : _root_.Go.ChangeSpec) : _root_.Go.OpenSpec := { _root_.Go.OpenSpec.ofChange s with cond := some uptoSmall }

/-- 'louvrelaw22.DepsUsers', WHERE WHAT IT READS IS OF BULK AT MOST 1048576: true; the input reads as it did. -/
def depsUsersUptoRow : OpenClaim := { program := "ytpohljcebgacjaagreatdoor", sum := "f9291be8c80e199b45ff13a5f2cd2ebc815303e5a1a5ffeeb5100ff7eba66e68", func := "louvre/louvrelaw22.DepsUsers", spec := "depsUsers", unfollowed := true, recurses := true, named := ["louvre/val.words"], plainKeys := false, apart := false, laid := [("louvre/val.words", laid_louvre_val_words)], narrowed := true }
def DepsUsersUptoSaid : Prop := depsUsersUptoRow.holds Tryz.pinned (OpenSpec.upto depsUsersSpec)

/-- 'louvrelaw22.DepsMatches', WHERE WHAT IT READS IS OF BULK AT MOST 1048576: true; the input reads as it did. -/
def depsMatchesUptoRow : OpenClaim := { program := "ytpohljcebgacjaagreatdoor", sum := "f9291be8c80e199b45ff13a5f2cd2ebc815303e5a1a5ffeeb5100ff7eba66e68", func := "louvre/louvrelaw22.DepsMatches", spec := "depsMatches", unfollowed := true, recurses := true, named := ["louvre/val.words"], plainKeys := false, apart := false, laid := [("louvre/val.words", laid_louvre_val_words)], narrowed := true }
def DepsMatchesUptoSaid : Prop := depsMatchesUptoRow.holds Tryz.pinned (OpenSpec.upto depsMatchesSpec)

/-- 'louvrelaw22.DepsNews', WHERE WHAT IT READS IS OF BULK AT MOST 1048576: true; the input reads as it did. -/
def depsNewsUptoRow : OpenClaim := { program := "ytpohljcebgacjaagreatdoor", sum := "f9291be8c80e199b45ff13a5f2cd2ebc815303e5a1a5ffeeb5100ff7eba66e68", func := "louvre/louvrelaw22.DepsNews", spec := "depsNews", unfollowed := true, recurses := true, named := ["louvre/val.words"], plainKeys := false, apart := false, laid := [("louvre/val.words", laid_louvre_val_words)], narrowed := true }
def DepsNewsUptoSaid : Prop := depsNewsUptoRow.holds Tryz.pinned (OpenSpec.upto depsNewsSpec)

/-- 'louvrelaw22.DepsNames', WHERE WHAT IT READS IS OF BULK AT MOST 1048576: true; the input reads as it did. -/
def depsNamesUptoRow : OpenClaim := { program := "ytpohljcebgacjaagreatdoor", sum := "f9291be8c80e199b45ff13a5f2cd2ebc815303e5a1a5ffeeb5100ff7eba66e68", func := "louvre/louvrelaw22.DepsNames", spec := "depsNames", unfollowed := true, recurses := true, named := ["louvre/val.words"], plainKeys := false, apart := false, laid := [("louvre/val.words", laid_louvre_val_words)], narrowed := true }
def DepsNamesUptoSaid : Prop := depsNamesUptoRow.holds Tryz.pinned (OpenSpec.upto depsNamesSpec)

/-- 'louvrelaw22.DepsApart', WHERE WHAT IT READS IS OF BULK AT MOST 1048576: true; the input reads as it did. -/
def depsApartUptoRow : OpenClaim := { program := "ytpohljcebgacjaagreatdoor", sum := "f9291be8c80e199b45ff13a5f2cd2ebc815303e5a1a5ffeeb5100ff7eba66e68", func := "louvre/louvrelaw22.DepsApart", spec := "depsApart", unfollowed := true, recurses := true, named := ["louvre/val.words"], plainKeys := false, apart := false, laid := [("louvre/val.words", laid_louvre_val_words)], narrowed := true }
def DepsApartUptoSaid : Prop := depsApartUptoRow.holds Tryz.pinned (OpenSpec.upto depsApartSpec)

/-- 'louvrelaw22.DepsOrder', WHERE WHAT IT READS IS OF BULK AT MOST 1048576: true; the input reads as it did. -/
def depsOrderUptoRow : OpenClaim := { program := "ytpohljcebgacjaagreatdoor", sum := "f9291be8c80e199b45ff13a5f2cd2ebc815303e5a1a5ffeeb5100ff7eba66e68", func := "louvre/louvrelaw22.DepsOrder", spec := "depsOrder", unfollowed := true, recurses := true, named := ["louvre/val.words"], plainKeys := false, apart := false, laid := [("louvre/val.words", laid_louvre_val_words)], narrowed := true }
def DepsOrderUptoSaid : Prop := depsOrderUptoRow.holds Tryz.pinned (OpenSpec.upto depsOrderSpec)

/-- 'louvrelaw23.ReachNames', WHERE WHAT IT READS IS OF BULK AT MOST 1048576: true; the input reads as it did. -/
def reachNamesUptoRow : OpenClaim := { program := "ytpohljcebgacjaagreatdoor", sum := "f9291be8c80e199b45ff13a5f2cd2ebc815303e5a1a5ffeeb5100ff7eba66e68", func := "louvre/louvrelaw23.ReachNames", spec := "reachNames", unfollowed := true, recurses := true, named := ["louvre/val.words"], plainKeys := false, apart := false, laid := [("louvre/val.words", laid_louvre_val_words)], narrowed := true }
def ReachNamesUptoSaid : Prop := reachNamesUptoRow.holds Tryz.pinned (OpenSpec.upto reachNamesSpec)

/-- 'louvrelaw23.ReachPaths', WHERE WHAT IT READS IS OF BULK AT MOST 1048576: true; the input reads as it did. -/
def reachPathsUptoRow : OpenClaim := { program := "ytpohljcebgacjaagreatdoor", sum := "f9291be8c80e199b45ff13a5f2cd2ebc815303e5a1a5ffeeb5100ff7eba66e68", func := "louvre/louvrelaw23.ReachPaths", spec := "reachPaths", unfollowed := true, recurses := true, named := ["louvre/val.words"], plainKeys := false, apart := false, laid := [("louvre/val.words", laid_louvre_val_words)], narrowed := true }
def ReachPathsUptoSaid : Prop := reachPathsUptoRow.holds Tryz.pinned (OpenSpec.upto reachPathsSpec)

/-- 'louvrelaw23.ReachBoth', WHERE WHAT IT READS IS OF BULK AT MOST 1048576: true; the input reads as it did. -/
def reachBothUptoRow : OpenClaim := { program := "ytpohljcebgacjaagreatdoor", sum := "f9291be8c80e199b45ff13a5f2cd2ebc815303e5a1a5ffeeb5100ff7eba66e68", func := "louvre/louvrelaw23.ReachBoth", spec := "reachBoth", unfollowed := true, recurses := true, named := ["louvre/val.words"], plainKeys := false, apart := false, laid := [("louvre/val.words", laid_louvre_val_words)], narrowed := true }
def ReachBothUptoSaid : Prop := reachBothUptoRow.holds Tryz.pinned (OpenSpec.upto reachBothSpec)

/-- 'louvrelaw23.ReachWays', WHERE WHAT IT READS IS OF BULK AT MOST 1048576: true; the input reads as it did. -/
def reachWaysUptoRow : OpenClaim := { program := "ytpohljcebgacjaagreatdoor", sum := "f9291be8c80e199b45ff13a5f2cd2ebc815303e5a1a5ffeeb5100ff7eba66e68", func := "louvre/louvrelaw23.ReachWays", spec := "reachWays", unfollowed := true, recurses := true, named := ["louvre/val.words"], plainKeys := false, apart := false, laid := [("louvre/val.words", laid_louvre_val_words)], narrowed := true }
def ReachWaysUptoSaid : Prop := reachWaysUptoRow.holds Tryz.pinned (OpenSpec.upto reachWaysSpec)

/-- 'louvrelaw23.ReachMatches', WHERE WHAT IT READS IS OF BULK AT MOST 1048576: true; the input reads as it did. -/
def reachMatchesUptoRow : OpenClaim := { program := "ytpohljcebgacjaagreatdoor", sum := "f9291be8c80e199b45ff13a5f2cd2ebc815303e5a1a5ffeeb5100ff7eba66e68", func := "louvre/louvrelaw23.ReachMatches", spec := "reachMatches", unfollowed := true, recurses := true, named := ["louvre/val.words"], plainKeys := false, apart := false, laid := [("louvre/val.words", laid_louvre_val_words)], narrowed := true }
def ReachMatchesUptoSaid : Prop := reachMatchesUptoRow.holds Tryz.pinned (OpenSpec.upto reachMatchesSpec)

end Rows
end Go.Proofs.YtpohljcebgacjaaGreatDoor

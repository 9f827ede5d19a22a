/-
  No cell of these rows narrows 'for every input' (looked for: loops, veiled, ifaces, maps, wideKeys, modest, calm, conditions, laid).
  DERIVED. THE GIVEN ROWS OF THIS SEAT. 14 by the template 'for every input the law returns true; each argument reads behind the call as it read before'; 0 by the template 'total and deterministic' (their statements: YtfkklicpnoeclaaTotals.lean).
  GIVEN WITH THE SEED: the statements are not yours to turn. If you find one false, say at which input.
  Laid BY PROGRAM, IN A SANDBOX (cutbox-rows.mjs): the forced cells as the released guide's own fill.sh prints them over the translation 23d7ae47dc64899e… (all of the seat's roots in one cut). By AI agents, Wed Nov 11 2026. No macro, syntax, notation, axiom, sorry.
-/
import Derived.Test.YtfkklicpnoeclaaChecked
import GoSem.Claim
import GoSem.ClaimJoined
import GoSem.ClaimMapViews
import Derived.JoinedTies
import Derived.KernelRfl
namespace Go.Proofs.Ytfkklicpnoeclaa
/- THE CELL 'sum', in the pinned program and in every row, IS THE sha256 OF THE DUMP (.gsa) THAT YtfkklicpnoeclaaProg.lean LOADS. Nothing in Lean hashes anything: it is a label: what it is worth is what the hold of that sum in a sandbox is worth. -/
noncomputable def Try.pinned : Pinned := { name := "ytfkklicpnoeclaa", sum := "23d7ae47dc64899eb92ac72cac77cf2b498ba86f85960a86f22e95f5f5517dae", checked := Try.checked }
namespace Rows
def none {H : Type} : Left H := { results := [], args := [] }

/-- 'louvrelaw08.TreeMatches': WHATEVER THE INPUT: true; the input reads as it did. -/
def treeMatchesSpec : ChangeSpec := { name := "treeMatches", fn := fun _ => fun
  | [d1, d2] => { results := [.lit (.bool true)], args := [d1, d2] }
  | _ => none }
def treeMatchesRow : OpenClaim := { program := "ytfkklicpnoeclaa", sum := "23d7ae47dc64899eb92ac72cac77cf2b498ba86f85960a86f22e95f5f5517dae", func := "louvre/louvrelaw08.TreeMatches", spec := "treeMatches", unfollowed := true, recurses := true, apart := false }
def TreeMatchesSaid : Prop := treeMatchesRow.holds Try.pinned (OpenSpec.ofChange treeMatchesSpec)

/-- ITS FALSE NEIGHBOUR: 'it returns false'. Refute it at one input. -/
def treeMatchesWrong : ChangeSpec := { name := "treeMatches", fn := fun _ => fun
  | [d1, d2] => { results := [.lit (.bool false)], args := [d1, d2] }
  | _ => none }
def TreeMatchesWrongFalsely : Prop := treeMatchesRow.holds Try.pinned (OpenSpec.ofChange treeMatchesWrong)

/-- 'louvrelaw08.TreeEquals': WHATEVER THE INPUT: true; the input reads as it did. -/
def treeEqualsSpec : ChangeSpec := { name := "treeEquals", fn := fun _ => fun
  | [d1, d2] => { results := [.lit (.bool true)], args := [d1, d2] }
  | _ => none }
def treeEqualsRow : OpenClaim := { program := "ytfkklicpnoeclaa", sum := "23d7ae47dc64899eb92ac72cac77cf2b498ba86f85960a86f22e95f5f5517dae", func := "louvre/louvrelaw08.TreeEquals", spec := "treeEquals", unfollowed := true, recurses := true, apart := false }
def TreeEqualsSaid : Prop := treeEqualsRow.holds Try.pinned (OpenSpec.ofChange treeEqualsSpec)

/-- ITS FALSE NEIGHBOUR: 'it returns false'. Refute it at one input. -/
def treeEqualsWrong : ChangeSpec := { name := "treeEquals", fn := fun _ => fun
  | [d1, d2] => { results := [.lit (.bool false)], args := [d1, d2] }
  | _ => none }
def TreeEqualsWrongFalsely : Prop := treeEqualsRow.holds Try.pinned (OpenSpec.ofChange treeEqualsWrong)

/-- 'louvrelaw08.TreeJoins': WHATEVER THE INPUT: true; the input reads as it did. -/
def treeJoinsSpec : ChangeSpec := { name := "treeJoins", fn := fun _ => fun
  | [d1, d2] => { results := [.lit (.bool true)], args := [d1, d2] }
  | _ => none }
def treeJoinsRow : OpenClaim := { program := "ytfkklicpnoeclaa", sum := "23d7ae47dc64899eb92ac72cac77cf2b498ba86f85960a86f22e95f5f5517dae", func := "louvre/louvrelaw08.TreeJoins", spec := "treeJoins", unfollowed := true, recurses := true, apart := false }
def TreeJoinsSaid : Prop := treeJoinsRow.holds Try.pinned (OpenSpec.ofChange treeJoinsSpec)

/-- ITS FALSE NEIGHBOUR: 'it returns false'. Refute it at one input. -/
def treeJoinsWrong : ChangeSpec := { name := "treeJoins", fn := fun _ => fun
  | [d1, d2] => { results := [.lit (.bool false)], args := [d1, d2] }
  | _ => none }
def TreeJoinsWrongFalsely : Prop := treeJoinsRow.holds Try.pinned (OpenSpec.ofChange treeJoinsWrong)

/-- 'louvrelaw08.TreeParts': WHATEVER THE INPUT: true; the input reads as it did. -/
def treePartsSpec : ChangeSpec := { name := "treeParts", fn := fun _ => fun
  | [d] => { results := [.lit (.bool true)], args := [d] }
  | _ => none }
def treePartsRow : OpenClaim := { program := "ytfkklicpnoeclaa", sum := "23d7ae47dc64899eb92ac72cac77cf2b498ba86f85960a86f22e95f5f5517dae", func := "louvre/louvrelaw08.TreeParts", spec := "treeParts", unfollowed := true, recurses := true, apart := false }
def TreePartsSaid : Prop := treePartsRow.holds Try.pinned (OpenSpec.ofChange treePartsSpec)

/-- ITS FALSE NEIGHBOUR: 'it returns false'. Refute it at one input. -/
def treePartsWrong : ChangeSpec := { name := "treeParts", fn := fun _ => fun
  | [d] => { results := [.lit (.bool false)], args := [d] }
  | _ => none }
def TreePartsWrongFalsely : Prop := treePartsRow.holds Try.pinned (OpenSpec.ofChange treePartsWrong)

/-- 'louvrelaw08.TreeGrows': WHATEVER THE INPUT: true; the input reads as it did. -/
def treeGrowsSpec : ChangeSpec := { name := "treeGrows", fn := fun _ => fun
  | [d1, d2] => { results := [.lit (.bool true)], args := [d1, d2] }
  | _ => none }
def treeGrowsRow : OpenClaim := { program := "ytfkklicpnoeclaa", sum := "23d7ae47dc64899eb92ac72cac77cf2b498ba86f85960a86f22e95f5f5517dae", func := "louvre/louvrelaw08.TreeGrows", spec := "treeGrows", unfollowed := true, recurses := true, apart := false }
def TreeGrowsSaid : Prop := treeGrowsRow.holds Try.pinned (OpenSpec.ofChange treeGrowsSpec)

/-- ITS FALSE NEIGHBOUR: 'it returns false'. Refute it at one input. -/
def treeGrowsWrong : ChangeSpec := { name := "treeGrows", fn := fun _ => fun
  | [d1, d2] => { results := [.lit (.bool false)], args := [d1, d2] }
  | _ => none }
def TreeGrowsWrongFalsely : Prop := treeGrowsRow.holds Try.pinned (OpenSpec.ofChange treeGrowsWrong)

/-- 'louvrelaw08.TreeFunctions': WHATEVER THE INPUT: true; the input reads as it did. -/
def treeFunctionsSpec : ChangeSpec := { name := "treeFunctions", fn := fun _ => fun
  | [d1, d2, d3] => { results := [.lit (.bool true)], args := [d1, d2, d3] }
  | _ => none }
def treeFunctionsRow : OpenClaim := { program := "ytfkklicpnoeclaa", sum := "23d7ae47dc64899eb92ac72cac77cf2b498ba86f85960a86f22e95f5f5517dae", func := "louvre/louvrelaw08.TreeFunctions", spec := "treeFunctions", unfollowed := true, recurses := true, apart := false }
def TreeFunctionsSaid : Prop := treeFunctionsRow.holds Try.pinned (OpenSpec.ofChange treeFunctionsSpec)

/-- ITS FALSE NEIGHBOUR: 'it returns false'. Refute it at one input. -/
def treeFunctionsWrong : ChangeSpec := { name := "treeFunctions", fn := fun _ => fun
  | [d1, d2, d3] => { results := [.lit (.bool false)], args := [d1, d2, d3] }
  | _ => none }
def TreeFunctionsWrongFalsely : Prop := treeFunctionsRow.holds Try.pinned (OpenSpec.ofChange treeFunctionsWrong)

/-- 'louvrelaw08.TreeNames': WHATEVER THE INPUT: true; the input reads as it did. -/
def treeNamesSpec : ChangeSpec := { name := "treeNames", fn := fun _ => fun
  | [d] => { results := [.lit (.bool true)], args := [d] }
  | _ => none }
def treeNamesRow : OpenClaim := { program := "ytfkklicpnoeclaa", sum := "23d7ae47dc64899eb92ac72cac77cf2b498ba86f85960a86f22e95f5f5517dae", func := "louvre/louvrelaw08.TreeNames", spec := "treeNames", unfollowed := true, recurses := true, apart := false }
def TreeNamesSaid : Prop := treeNamesRow.holds Try.pinned (OpenSpec.ofChange treeNamesSpec)

/-- ITS FALSE NEIGHBOUR: 'it returns false'. Refute it at one input. -/
def treeNamesWrong : ChangeSpec := { name := "treeNames", fn := fun _ => fun
  | [d] => { results := [.lit (.bool false)], args := [d] }
  | _ => none }
def TreeNamesWrongFalsely : Prop := treeNamesRow.holds Try.pinned (OpenSpec.ofChange treeNamesWrong)

/-- 'louvrelaw12.RefsMatches': WHATEVER THE INPUT: true; the input reads as it did. -/
def refsMatchesSpec : ChangeSpec := { name := "refsMatches", fn := fun _ => fun
  | [d1, d2] => { results := [.lit (.bool true)], args := [d1, d2] }
  | _ => none }
def refsMatchesRow : OpenClaim := { program := "ytfkklicpnoeclaa", sum := "23d7ae47dc64899eb92ac72cac77cf2b498ba86f85960a86f22e95f5f5517dae", func := "louvre/louvrelaw12.RefsMatches", spec := "refsMatches", unfollowed := true, recurses := true, apart := false }
def RefsMatchesSaid : Prop := refsMatchesRow.holds Try.pinned (OpenSpec.ofChange refsMatchesSpec)

/-- ITS FALSE NEIGHBOUR: 'it returns false'. Refute it at one input. -/
def refsMatchesWrong : ChangeSpec := { name := "refsMatches", fn := fun _ => fun
  | [d1, d2] => { results := [.lit (.bool false)], args := [d1, d2] }
  | _ => none }
def RefsMatchesWrongFalsely : Prop := refsMatchesRow.holds Try.pinned (OpenSpec.ofChange refsMatchesWrong)

/-- 'louvrelaw12.RefsMoves': WHATEVER THE INPUT: true; the input reads as it did. -/
def refsMovesSpec : ChangeSpec := { name := "refsMoves", fn := fun _ => fun
  | [d1, d2, d3] => { results := [.lit (.bool true)], args := [d1, d2, d3] }
  | _ => none }
def refsMovesRow : OpenClaim := { program := "ytfkklicpnoeclaa", sum := "23d7ae47dc64899eb92ac72cac77cf2b498ba86f85960a86f22e95f5f5517dae", func := "louvre/louvrelaw12.RefsMoves", spec := "refsMoves", unfollowed := true, recurses := true, apart := false }
def RefsMovesSaid : Prop := refsMovesRow.holds Try.pinned (OpenSpec.ofChange refsMovesSpec)

/-- ITS FALSE NEIGHBOUR: 'it returns false'. Refute it at one input. -/
def refsMovesWrong : ChangeSpec := { name := "refsMoves", fn := fun _ => fun
  | [d1, d2, d3] => { results := [.lit (.bool false)], args := [d1, d2, d3] }
  | _ => none }
def RefsMovesWrongFalsely : Prop := refsMovesRow.holds Try.pinned (OpenSpec.ofChange refsMovesWrong)

/-- 'louvrelaw12.RefsExamples': WHATEVER THE INPUT: true; the input reads as it did. -/
def refsExamplesSpec : ChangeSpec := { name := "refsExamples", fn := fun _ => fun
  | [] => { results := [.lit (.bool true)], args := [] }
  | _ => none }
def refsExamplesRow : OpenClaim := { program := "ytfkklicpnoeclaa", sum := "23d7ae47dc64899eb92ac72cac77cf2b498ba86f85960a86f22e95f5f5517dae", func := "louvre/louvrelaw12.RefsExamples", spec := "refsExamples", unfollowed := true, recurses := true, apart := false }
def RefsExamplesSaid : Prop := refsExamplesRow.holds Try.pinned (OpenSpec.ofChange refsExamplesSpec)

/-- ITS FALSE NEIGHBOUR: 'it returns false'. Refute it at one input. -/
def refsExamplesWrong : ChangeSpec := { name := "refsExamples", fn := fun _ => fun
  | [] => { results := [.lit (.bool false)], args := [] }
  | _ => none }
def RefsExamplesWrongFalsely : Prop := refsExamplesRow.holds Try.pinned (OpenSpec.ofChange refsExamplesWrong)

/-- 'louvrelaw12.RefsMoved': WHATEVER THE INPUT: true; the input reads as it did. -/
def refsMovedSpec : ChangeSpec := { name := "refsMoved", fn := fun _ => fun
  | [d1, d2, d3] => { results := [.lit (.bool true)], args := [d1, d2, d3] }
  | _ => none }
def refsMovedRow : OpenClaim := { program := "ytfkklicpnoeclaa", sum := "23d7ae47dc64899eb92ac72cac77cf2b498ba86f85960a86f22e95f5f5517dae", func := "louvre/louvrelaw12.RefsMoved", spec := "refsMoved", unfollowed := true, recurses := true, apart := false }
def RefsMovedSaid : Prop := refsMovedRow.holds Try.pinned (OpenSpec.ofChange refsMovedSpec)

/-- ITS FALSE NEIGHBOUR: 'it returns false'. Refute it at one input. -/
def refsMovedWrong : ChangeSpec := { name := "refsMoved", fn := fun _ => fun
  | [d1, d2, d3] => { results := [.lit (.bool false)], args := [d1, d2, d3] }
  | _ => none }
def RefsMovedWrongFalsely : Prop := refsMovedRow.holds Try.pinned (OpenSpec.ofChange refsMovedWrong)

/-- 'louvrelaw12.RefsTouch': WHATEVER THE INPUT: true; the input reads as it did. -/
def refsTouchSpec : ChangeSpec := { name := "refsTouch", fn := fun _ => fun
  | [d1, d2, d3] => { results := [.lit (.bool true)], args := [d1, d2, d3] }
  | _ => none }
def refsTouchRow : OpenClaim := { program := "ytfkklicpnoeclaa", sum := "23d7ae47dc64899eb92ac72cac77cf2b498ba86f85960a86f22e95f5f5517dae", func := "louvre/louvrelaw12.RefsTouch", spec := "refsTouch", unfollowed := true, recurses := true, apart := false }
def RefsTouchSaid : Prop := refsTouchRow.holds Try.pinned (OpenSpec.ofChange refsTouchSpec)

/-- ITS FALSE NEIGHBOUR: 'it returns false'. Refute it at one input. -/
def refsTouchWrong : ChangeSpec := { name := "refsTouch", fn := fun _ => fun
  | [d1, d2, d3] => { results := [.lit (.bool false)], args := [d1, d2, d3] }
  | _ => none }
def RefsTouchWrongFalsely : Prop := refsTouchRow.holds Try.pinned (OpenSpec.ofChange refsTouchWrong)

/-- 'louvrelaw08.TreeExamples': WHATEVER THE INPUT: true; the input reads as it did. -/
def treeExamplesSpec : ChangeSpec := { name := "treeExamples", fn := fun _ => fun
  | [] => { results := [.lit (.bool true)], args := [] }
  | _ => none }
def treeExamplesRow : OpenClaim := { program := "ytfkklicpnoeclaa", sum := "23d7ae47dc64899eb92ac72cac77cf2b498ba86f85960a86f22e95f5f5517dae", func := "louvre/louvrelaw08.TreeExamples", spec := "treeExamples", unfollowed := true, recurses := true, apart := false }
def TreeExamplesSaid : Prop := treeExamplesRow.holds Try.pinned (OpenSpec.ofChange treeExamplesSpec)

/-- ITS FALSE NEIGHBOUR: 'it returns false'. Refute it at one input. -/
def treeExamplesWrong : ChangeSpec := { name := "treeExamples", fn := fun _ => fun
  | [] => { results := [.lit (.bool false)], args := [] }
  | _ => none }
def TreeExamplesWrongFalsely : Prop := treeExamplesRow.holds Try.pinned (OpenSpec.ofChange treeExamplesWrong)

/-- 'louvrelaw12.RefsParts': WHATEVER THE INPUT: true; the input reads as it did. -/
def refsPartsSpec : ChangeSpec := { name := "refsParts", fn := fun _ => fun
  | [d] => { results := [.lit (.bool true)], args := [d] }
  | _ => none }
def refsPartsRow : OpenClaim := { program := "ytfkklicpnoeclaa", sum := "23d7ae47dc64899eb92ac72cac77cf2b498ba86f85960a86f22e95f5f5517dae", func := "louvre/louvrelaw12.RefsParts", spec := "refsParts", unfollowed := true, recurses := true, apart := false }
def RefsPartsSaid : Prop := refsPartsRow.holds Try.pinned (OpenSpec.ofChange refsPartsSpec)

/-- ITS FALSE NEIGHBOUR: 'it returns false'. Refute it at one input. -/
def refsPartsWrong : ChangeSpec := { name := "refsParts", fn := fun _ => fun
  | [d] => { results := [.lit (.bool false)], args := [d] }
  | _ => none }
def RefsPartsWrongFalsely : Prop := refsPartsRow.holds Try.pinned (OpenSpec.ofChange refsPartsWrong)

/- THE SECOND FORM. 'bulk': how many values and letters a reading holds, each counted each time it is reached (what is shared counts as often as it is met; a slice's spare places count too). A statement '..UptoSaid' is the law's where the arguments, and the package variables that the reading takes, are together of bulk at most 1048576: NARROWER than '..Said'. Prove '..Said' where nothing that the law and all that it calls make is longer than what came in: it says more and counts as full. Else prove '..UptoSaid'. A law counts once. -/
mutual
def uptoBulk {H : Type} : DataW H → Nat
  | .lit (.string bytes) => bytes.length + 1
  | .lit _ => 1
  | .nil => 1
  | .ptr d => uptoBulk d + 1
  | .slice elems spare => uptoBulkAll elems + uptoBulkAll spare + 1
  | .agg parts => uptoBulkAll parts + 1
  | .iface _ d => uptoBulk d + 1
  | .map entries => uptoBulkEntries entries + 1
  | .held _ => 1
def uptoBulkAll {H : Type} : List (DataW H) → Nat
  | [] => 0
  | d :: r => uptoBulk d + uptoBulkAll r
def uptoBulkEntries {H : Type} : List (Lit × DataW H) → Nat
  | [] => 0
  | x :: r => uptoBulkEntry x + uptoBulkEntries r
def uptoBulkEntry {H : Type} : Lit × DataW H → Nat
  | (.string bytes, d) => bytes.length + uptoBulk d + 1
  | (_, d) => uptoBulk d + 1
 end
def uptoSmall : (H : Type) → List (DataW H) → Bool := fun _ ds => decide (uptoBulkAll ds ≤ 1048576)
def OpenSpec.upto (s : _root_.Go.ChangeSpec) : _root_.Go.OpenSpec := { _root_.Go.OpenSpec.ofChange s with cond := some uptoSmall }

/-- 'louvrelaw08.TreeMatches', WHERE WHAT IT READS IS OF BULK AT MOST 1048576: true; the input reads as it did. -/
def treeMatchesUptoRow : OpenClaim := { program := "ytfkklicpnoeclaa", sum := "23d7ae47dc64899eb92ac72cac77cf2b498ba86f85960a86f22e95f5f5517dae", func := "louvre/louvrelaw08.TreeMatches", spec := "treeMatches", unfollowed := true, recurses := true, apart := false, narrowed := true }
def TreeMatchesUptoSaid : Prop := treeMatchesUptoRow.holds Try.pinned (OpenSpec.upto treeMatchesSpec)

/-- 'louvrelaw08.TreeEquals', WHERE WHAT IT READS IS OF BULK AT MOST 1048576: true; the input reads as it did. -/
def treeEqualsUptoRow : OpenClaim := { program := "ytfkklicpnoeclaa", sum := "23d7ae47dc64899eb92ac72cac77cf2b498ba86f85960a86f22e95f5f5517dae", func := "louvre/louvrelaw08.TreeEquals", spec := "treeEquals", unfollowed := true, recurses := true, apart := false, narrowed := true }
def TreeEqualsUptoSaid : Prop := treeEqualsUptoRow.holds Try.pinned (OpenSpec.upto treeEqualsSpec)

/-- 'louvrelaw08.TreeJoins', WHERE WHAT IT READS IS OF BULK AT MOST 1048576: true; the input reads as it did. -/
def treeJoinsUptoRow : OpenClaim := { program := "ytfkklicpnoeclaa", sum := "23d7ae47dc64899eb92ac72cac77cf2b498ba86f85960a86f22e95f5f5517dae", func := "louvre/louvrelaw08.TreeJoins", spec := "treeJoins", unfollowed := true, recurses := true, apart := false, narrowed := true }
def TreeJoinsUptoSaid : Prop := treeJoinsUptoRow.holds Try.pinned (OpenSpec.upto treeJoinsSpec)

/-- 'louvrelaw08.TreeParts', WHERE WHAT IT READS IS OF BULK AT MOST 1048576: true; the input reads as it did. -/
def treePartsUptoRow : OpenClaim := { program := "ytfkklicpnoeclaa", sum := "23d7ae47dc64899eb92ac72cac77cf2b498ba86f85960a86f22e95f5f5517dae", func := "louvre/louvrelaw08.TreeParts", spec := "treeParts", unfollowed := true, recurses := true, apart := false, narrowed := true }
def TreePartsUptoSaid : Prop := treePartsUptoRow.holds Try.pinned (OpenSpec.upto treePartsSpec)

/-- 'louvrelaw08.TreeGrows', WHERE WHAT IT READS IS OF BULK AT MOST 1048576: true; the input reads as it did. -/
def treeGrowsUptoRow : OpenClaim := { program := "ytfkklicpnoeclaa", sum := "23d7ae47dc64899eb92ac72cac77cf2b498ba86f85960a86f22e95f5f5517dae", func := "louvre/louvrelaw08.TreeGrows", spec := "treeGrows", unfollowed := true, recurses := true, apart := false, narrowed := true }
def TreeGrowsUptoSaid : Prop := treeGrowsUptoRow.holds Try.pinned (OpenSpec.upto treeGrowsSpec)

/-- 'louvrelaw08.TreeFunctions', WHERE WHAT IT READS IS OF BULK AT MOST 1048576: true; the input reads as it did. -/
def treeFunctionsUptoRow : OpenClaim := { program := "ytfkklicpnoeclaa", sum := "23d7ae47dc64899eb92ac72cac77cf2b498ba86f85960a86f22e95f5f5517dae", func := "louvre/louvrelaw08.TreeFunctions", spec := "treeFunctions", unfollowed := true, recurses := true, apart := false, narrowed := true }
def TreeFunctionsUptoSaid : Prop := treeFunctionsUptoRow.holds Try.pinned (OpenSpec.upto treeFunctionsSpec)

/-- 'louvrelaw08.TreeNames', WHERE WHAT IT READS IS OF BULK AT MOST 1048576: true; the input reads as it did. -/
def treeNamesUptoRow : OpenClaim := { program := "ytfkklicpnoeclaa", sum := "23d7ae47dc64899eb92ac72cac77cf2b498ba86f85960a86f22e95f5f5517dae", func := "louvre/louvrelaw08.TreeNames", spec := "treeNames", unfollowed := true, recurses := true, apart := false, narrowed := true }
def TreeNamesUptoSaid : Prop := treeNamesUptoRow.holds Try.pinned (OpenSpec.upto treeNamesSpec)

/-- 'louvrelaw12.RefsMatches', WHERE WHAT IT READS IS OF BULK AT MOST 1048576: true; the input reads as it did. -/
def refsMatchesUptoRow : OpenClaim := { program := "ytfkklicpnoeclaa", sum := "23d7ae47dc64899eb92ac72cac77cf2b498ba86f85960a86f22e95f5f5517dae", func := "louvre/louvrelaw12.RefsMatches", spec := "refsMatches", unfollowed := true, recurses := true, apart := false, narrowed := true }
def RefsMatchesUptoSaid : Prop := refsMatchesUptoRow.holds Try.pinned (OpenSpec.upto refsMatchesSpec)

/-- 'louvrelaw12.RefsMoves', WHERE WHAT IT READS IS OF BULK AT MOST 1048576: true; the input reads as it did. -/
def refsMovesUptoRow : OpenClaim := { program := "ytfkklicpnoeclaa", sum := "23d7ae47dc64899eb92ac72cac77cf2b498ba86f85960a86f22e95f5f5517dae", func := "louvre/louvrelaw12.RefsMoves", spec := "refsMoves", unfollowed := true, recurses := true, apart := false, narrowed := true }
def RefsMovesUptoSaid : Prop := refsMovesUptoRow.holds Try.pinned (OpenSpec.upto refsMovesSpec)

/-- 'louvrelaw12.RefsExamples', WHERE WHAT IT READS IS OF BULK AT MOST 1048576: true; the input reads as it did. -/
def refsExamplesUptoRow : OpenClaim := { program := "ytfkklicpnoeclaa", sum := "23d7ae47dc64899eb92ac72cac77cf2b498ba86f85960a86f22e95f5f5517dae", func := "louvre/louvrelaw12.RefsExamples", spec := "refsExamples", unfollowed := true, recurses := true, apart := false, narrowed := true }
def RefsExamplesUptoSaid : Prop := refsExamplesUptoRow.holds Try.pinned (OpenSpec.upto refsExamplesSpec)

/-- 'louvrelaw12.RefsMoved', WHERE WHAT IT READS IS OF BULK AT MOST 1048576: true; the input reads as it did. -/
def refsMovedUptoRow : OpenClaim := { program := "ytfkklicpnoeclaa", sum := "23d7ae47dc64899eb92ac72cac77cf2b498ba86f85960a86f22e95f5f5517dae", func := "louvre/louvrelaw12.RefsMoved", spec := "refsMoved", unfollowed := true, recurses := true, apart := false, narrowed := true }
def RefsMovedUptoSaid : Prop := refsMovedUptoRow.holds Try.pinned (OpenSpec.upto refsMovedSpec)

/-- 'louvrelaw12.RefsTouch', WHERE WHAT IT READS IS OF BULK AT MOST 1048576: true; the input reads as it did. -/
def refsTouchUptoRow : OpenClaim := { program := "ytfkklicpnoeclaa", sum := "23d7ae47dc64899eb92ac72cac77cf2b498ba86f85960a86f22e95f5f5517dae", func := "louvre/louvrelaw12.RefsTouch", spec := "refsTouch", unfollowed := true, recurses := true, apart := false, narrowed := true }
def RefsTouchUptoSaid : Prop := refsTouchUptoRow.holds Try.pinned (OpenSpec.upto refsTouchSpec)

/-- 'louvrelaw08.TreeExamples', WHERE WHAT IT READS IS OF BULK AT MOST 1048576: true; the input reads as it did. -/
def treeExamplesUptoRow : OpenClaim := { program := "ytfkklicpnoeclaa", sum := "23d7ae47dc64899eb92ac72cac77cf2b498ba86f85960a86f22e95f5f5517dae", func := "louvre/louvrelaw08.TreeExamples", spec := "treeExamples", unfollowed := true, recurses := true, apart := false, narrowed := true }
def TreeExamplesUptoSaid : Prop := treeExamplesUptoRow.holds Try.pinned (OpenSpec.upto treeExamplesSpec)

/-- 'louvrelaw12.RefsParts', WHERE WHAT IT READS IS OF BULK AT MOST 1048576: true; the input reads as it did. -/
def refsPartsUptoRow : OpenClaim := { program := "ytfkklicpnoeclaa", sum := "23d7ae47dc64899eb92ac72cac77cf2b498ba86f85960a86f22e95f5f5517dae", func := "louvre/louvrelaw12.RefsParts", spec := "refsParts", unfollowed := true, recurses := true, apart := false, narrowed := true }
def RefsPartsUptoSaid : Prop := refsPartsUptoRow.holds Try.pinned (OpenSpec.upto refsPartsSpec)

end Rows
end Go.Proofs.Ytfkklicpnoeclaa

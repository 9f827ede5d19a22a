/-
  NARROWER THAN 'FOR EVERY INPUT', by the rows' own cells (each row's printed sentence says how): BookExamples: laid · BookStatic: laid · BookChecks: laid · BookRights: laid · FlowSees: laid · FlowConstants: laid · FlowEquations: laid · FlowGrows: laid.
  DERIVED. THE GIVEN ROWS OF THIS SEAT. 8 by the template 'for every input the law returns true; each argument reads behind the call as it read before'; 0 by the template 'total and deterministic' (their statements: YthefeclkaaocnaaGreatDoorTotals.lean).
  GIVEN WITH THE SEED: the statements are not yours to turn. If you find one false, say at which input.
  Laid BY PROGRAM, IN A SANDBOX (cutbox-rows.mjs): the forced cells as the released guide's own fill.sh prints them over the translation 984b79df1e333931… (all of the seat's roots in one cut). By AI agents, Wed Nov 11 2026. No macro, syntax, notation, axiom, sorry.
-/
import Derived.Test.YthefeclkaaocnaaGreatDoorChecked
import GoSem.Claim
import GoSem.ClaimJoined
import GoSem.ClaimMapViews
import Derived.JoinedTies
import Derived.KernelRfl
namespace Go.Proofs.YthefeclkaaocnaaGreatDoor
/- THE CELL 'sum', in the pinned program and in every row, IS THE sha256 OF THE DUMP (.gsa) THAT YthefeclkaaocnaaGreatDoorProg.lean LOADS. Nothing in Lean hashes anything: it is a label: what it is worth is what the hold of that sum in a sandbox is worth. -/
noncomputable def Tryz.pinned : Pinned := { name := "ythefeclkaaocnaagreatdoor", sum := "984b79df1e33393115d9fc69c859230a2487911c8eff47d9aa0a214d2d4e69f9", checked := Tryz.checked }
namespace Rows
def none {H : Type} : Left H := { results := [], args := [] }

/- WHAT THE LISTED PACKAGE-LEVEL VARIABLES READ AS WHEN THE CALL BEGINS. Each datum BY PROGRAM (the guide's laid-datum.mjs) off the statement by which the dump's own 'gosem.cut.vars' lays the variable. In a bare row this is a premise. The card (YthefeclkaaocnaaGreatDoorCards.lean) ties it to the program's text. -/
def laid_louvre_val_words {H : Type} : DataW H := .agg [.lit (.string []), .lit (.string [35, 68, 73, 86, 47, 48, 33]), .lit (.string [35, 86, 65, 76, 85, 69, 33]), .lit (.string [35, 78, 85, 77, 33]), .lit (.string [35, 78, 47, 65]), .lit (.string [35, 82, 69, 70, 33]), .lit (.string [35, 67, 89, 67, 76, 69, 33]), .lit (.string [35, 68, 69, 78, 73, 69, 68])]

/-- 'louvrelaw31.BookExamples': WHATEVER THE INPUT: true; the input reads as it did. -/
def bookExamplesSpec : ChangeSpec := { name := "bookExamples", fn := fun _ => fun
  | [] => { results := [.lit (.bool true)], args := [] }
  | _ => none }
def bookExamplesRow : OpenClaim := { program := "ythefeclkaaocnaagreatdoor", sum := "984b79df1e33393115d9fc69c859230a2487911c8eff47d9aa0a214d2d4e69f9", func := "louvre/louvrelaw31.BookExamples", spec := "bookExamples", unfollowed := true, recurses := true, named := ["louvre/val.words"], plainKeys := false, apart := false, laid := [("louvre/val.words", laid_louvre_val_words)] }
def BookExamplesSaid : Prop := bookExamplesRow.holds Tryz.pinned (OpenSpec.ofChange bookExamplesSpec)

/-- ITS FALSE NEIGHBOUR: 'it returns false'. Refute it at one input. -/
def bookExamplesWrong : ChangeSpec := { name := "bookExamples", fn := fun _ => fun
  | [] => { results := [.lit (.bool false)], args := [] }
  | _ => none }
def BookExamplesWrongFalsely : Prop := bookExamplesRow.holds Tryz.pinned (OpenSpec.ofChange bookExamplesWrong)

/-- 'louvrelaw31.BookStatic': WHATEVER THE INPUT: true; the input reads as it did. -/
def bookStaticSpec : ChangeSpec := { name := "bookStatic", fn := fun _ => fun
  | [d1, d2, d3] => { results := [.lit (.bool true)], args := [d1, d2, d3] }
  | _ => none }
def bookStaticRow : OpenClaim := { program := "ythefeclkaaocnaagreatdoor", sum := "984b79df1e33393115d9fc69c859230a2487911c8eff47d9aa0a214d2d4e69f9", func := "louvre/louvrelaw31.BookStatic", spec := "bookStatic", unfollowed := true, recurses := true, named := ["louvre/val.words"], plainKeys := false, apart := false, laid := [("louvre/val.words", laid_louvre_val_words)] }
def BookStaticSaid : Prop := bookStaticRow.holds Tryz.pinned (OpenSpec.ofChange bookStaticSpec)

/-- ITS FALSE NEIGHBOUR: 'it returns false'. Refute it at one input. -/
def bookStaticWrong : ChangeSpec := { name := "bookStatic", fn := fun _ => fun
  | [d1, d2, d3] => { results := [.lit (.bool false)], args := [d1, d2, d3] }
  | _ => none }
def BookStaticWrongFalsely : Prop := bookStaticRow.holds Tryz.pinned (OpenSpec.ofChange bookStaticWrong)

/-- 'louvrelaw31.BookChecks': WHATEVER THE INPUT: true; the input reads as it did. -/
def bookChecksSpec : ChangeSpec := { name := "bookChecks", fn := fun _ => fun
  | [d1, d2, d3] => { results := [.lit (.bool true)], args := [d1, d2, d3] }
  | _ => none }
def bookChecksRow : OpenClaim := { program := "ythefeclkaaocnaagreatdoor", sum := "984b79df1e33393115d9fc69c859230a2487911c8eff47d9aa0a214d2d4e69f9", func := "louvre/louvrelaw31.BookChecks", spec := "bookChecks", unfollowed := true, recurses := true, named := ["louvre/val.words"], plainKeys := false, apart := false, laid := [("louvre/val.words", laid_louvre_val_words)] }
def BookChecksSaid : Prop := bookChecksRow.holds Tryz.pinned (OpenSpec.ofChange bookChecksSpec)

/-- ITS FALSE NEIGHBOUR: 'it returns false'. Refute it at one input. -/
def bookChecksWrong : ChangeSpec := { name := "bookChecks", fn := fun _ => fun
  | [d1, d2, d3] => { results := [.lit (.bool false)], args := [d1, d2, d3] }
  | _ => none }
def BookChecksWrongFalsely : Prop := bookChecksRow.holds Tryz.pinned (OpenSpec.ofChange bookChecksWrong)

/-- 'louvrelaw31.BookRights': WHATEVER THE INPUT: true; the input reads as it did. -/
def bookRightsSpec : ChangeSpec := { name := "bookRights", fn := fun _ => fun
  | [d1, d2, d3] => { results := [.lit (.bool true)], args := [d1, d2, d3] }
  | _ => none }
def bookRightsRow : OpenClaim := { program := "ythefeclkaaocnaagreatdoor", sum := "984b79df1e33393115d9fc69c859230a2487911c8eff47d9aa0a214d2d4e69f9", func := "louvre/louvrelaw31.BookRights", spec := "bookRights", unfollowed := true, recurses := true, named := ["louvre/val.words"], plainKeys := false, apart := false, laid := [("louvre/val.words", laid_louvre_val_words)] }
def BookRightsSaid : Prop := bookRightsRow.holds Tryz.pinned (OpenSpec.ofChange bookRightsSpec)

/-- ITS FALSE NEIGHBOUR: 'it returns false'. Refute it at one input. -/
def bookRightsWrong : ChangeSpec := { name := "bookRights", fn := fun _ => fun
  | [d1, d2, d3] => { results := [.lit (.bool false)], args := [d1, d2, d3] }
  | _ => none }
def BookRightsWrongFalsely : Prop := bookRightsRow.holds Tryz.pinned (OpenSpec.ofChange bookRightsWrong)

/-- 'louvrelaw27.FlowSees': WHATEVER THE INPUT: true; the input reads as it did. -/
def flowSeesSpec : ChangeSpec := { name := "flowSees", fn := fun _ => fun
  | [d1, d2, d3, d4] => { results := [.lit (.bool true)], args := [d1, d2, d3, d4] }
  | _ => none }
def flowSeesRow : OpenClaim := { program := "ythefeclkaaocnaagreatdoor", sum := "984b79df1e33393115d9fc69c859230a2487911c8eff47d9aa0a214d2d4e69f9", func := "louvre/louvrelaw27.FlowSees", spec := "flowSees", unfollowed := true, recurses := true, named := ["louvre/val.words"], plainKeys := false, apart := false, laid := [("louvre/val.words", laid_louvre_val_words)] }
def FlowSeesSaid : Prop := flowSeesRow.holds Tryz.pinned (OpenSpec.ofChange flowSeesSpec)

/-- ITS FALSE NEIGHBOUR: 'it returns false'. Refute it at one input. -/
def flowSeesWrong : ChangeSpec := { name := "flowSees", fn := fun _ => fun
  | [d1, d2, d3, d4] => { results := [.lit (.bool false)], args := [d1, d2, d3, d4] }
  | _ => none }
def FlowSeesWrongFalsely : Prop := flowSeesRow.holds Tryz.pinned (OpenSpec.ofChange flowSeesWrong)

/-- 'louvrelaw27.FlowConstants': WHATEVER THE INPUT: true; the input reads as it did. -/
def flowConstantsSpec : ChangeSpec := { name := "flowConstants", fn := fun _ => fun
  | [d1, d2, d3, d4] => { results := [.lit (.bool true)], args := [d1, d2, d3, d4] }
  | _ => none }
def flowConstantsRow : OpenClaim := { program := "ythefeclkaaocnaagreatdoor", sum := "984b79df1e33393115d9fc69c859230a2487911c8eff47d9aa0a214d2d4e69f9", func := "louvre/louvrelaw27.FlowConstants", spec := "flowConstants", unfollowed := true, recurses := true, named := ["louvre/val.words"], plainKeys := false, apart := false, laid := [("louvre/val.words", laid_louvre_val_words)] }
def FlowConstantsSaid : Prop := flowConstantsRow.holds Tryz.pinned (OpenSpec.ofChange flowConstantsSpec)

/-- ITS FALSE NEIGHBOUR: 'it returns false'. Refute it at one input. -/
def flowConstantsWrong : ChangeSpec := { name := "flowConstants", fn := fun _ => fun
  | [d1, d2, d3, d4] => { results := [.lit (.bool false)], args := [d1, d2, d3, d4] }
  | _ => none }
def FlowConstantsWrongFalsely : Prop := flowConstantsRow.holds Tryz.pinned (OpenSpec.ofChange flowConstantsWrong)

/-- 'louvrelaw27.FlowEquations': WHATEVER THE INPUT: true; the input reads as it did. -/
def flowEquationsSpec : ChangeSpec := { name := "flowEquations", fn := fun _ => fun
  | [d1, d2, d3] => { results := [.lit (.bool true)], args := [d1, d2, d3] }
  | _ => none }
def flowEquationsRow : OpenClaim := { program := "ythefeclkaaocnaagreatdoor", sum := "984b79df1e33393115d9fc69c859230a2487911c8eff47d9aa0a214d2d4e69f9", func := "louvre/louvrelaw27.FlowEquations", spec := "flowEquations", unfollowed := true, recurses := true, named := ["louvre/val.words"], plainKeys := false, apart := false, laid := [("louvre/val.words", laid_louvre_val_words)] }
def FlowEquationsSaid : Prop := flowEquationsRow.holds Tryz.pinned (OpenSpec.ofChange flowEquationsSpec)

/-- ITS FALSE NEIGHBOUR: 'it returns false'. Refute it at one input. -/
def flowEquationsWrong : ChangeSpec := { name := "flowEquations", fn := fun _ => fun
  | [d1, d2, d3] => { results := [.lit (.bool false)], args := [d1, d2, d3] }
  | _ => none }
def FlowEquationsWrongFalsely : Prop := flowEquationsRow.holds Tryz.pinned (OpenSpec.ofChange flowEquationsWrong)

/-- 'louvrelaw27.FlowGrows': WHATEVER THE INPUT: true; the input reads as it did. -/
def flowGrowsSpec : ChangeSpec := { name := "flowGrows", fn := fun _ => fun
  | [d1, d2, d3, d4, d5] => { results := [.lit (.bool true)], args := [d1, d2, d3, d4, d5] }
  | _ => none }
def flowGrowsRow : OpenClaim := { program := "ythefeclkaaocnaagreatdoor", sum := "984b79df1e33393115d9fc69c859230a2487911c8eff47d9aa0a214d2d4e69f9", func := "louvre/louvrelaw27.FlowGrows", spec := "flowGrows", unfollowed := true, recurses := true, named := ["louvre/val.words"], plainKeys := false, apart := false, laid := [("louvre/val.words", laid_louvre_val_words)] }
def FlowGrowsSaid : Prop := flowGrowsRow.holds Tryz.pinned (OpenSpec.ofChange flowGrowsSpec)

/-- ITS FALSE NEIGHBOUR: 'it returns false'. Refute it at one input. -/
def flowGrowsWrong : ChangeSpec := { name := "flowGrows", fn := fun _ => fun
  | [d1, d2, d3, d4, d5] => { results := [.lit (.bool false)], args := [d1, d2, d3, d4, d5] }
  | _ => none }
def FlowGrowsWrongFalsely : Prop := flowGrowsRow.holds Tryz.pinned (OpenSpec.ofChange flowGrowsWrong)

/- THE SECOND FORM. 'bulk': how many values and letters a reading holds, each counted each time it is reached (what is shared counts as often as it is met; a slice's spare places count too). A statement '..UptoSaid' is the law's where the arguments, and the package variables that the reading takes, are together of bulk at most 1048576: NARROWER than '..Said'. Prove '..Said' where nothing that the law and all that it calls make is longer than what came in: it says more and counts as full. Else prove '..UptoSaid'. A law counts once. -/
mutual
def uptoBulk {H : Type} : DataW H → Nat
  | .lit (.string bytes) => bytes.length + 1
  | .lit _ => 1
  | .nil => 1
  | .ptr d => uptoBulk d + 1
  | .slice elems spare => uptoBulkAll elems + uptoBulkAll spare + 1
  | .agg parts => uptoBulkAll parts + 1
  | .iface _ d => uptoBulk d + 1
  | .map entries => uptoBulkEntries entries + 1
  | .held _ => 1
def uptoBulkAll {H : Type} : List (DataW H) → Nat
  | [] => 0
  | d :: r => uptoBulk d + uptoBulkAll r
def uptoBulkEntries {H : Type} : List (Lit × DataW H) → Nat
  | [] => 0
  | x :: r => uptoBulkEntry x + uptoBulkEntries r
def uptoBulkEntry {H : Type} : Lit × DataW H → Nat
  | (.string bytes, d) => bytes.length + uptoBulk d + 1
  | (_, d) => uptoBulk d + 1
 end
def uptoSmall : (H : Type) → List (DataW H) → Bool := fun _ ds => decide (uptoBulkAll ds ≤ 1048576)
def OpenSpec.upto (s : _root_.Go.ChangeSpec) : _root_.Go.OpenSpec := { _root_.Go.OpenSpec.ofChange s with cond := some uptoSmall }

/-- 'louvrelaw31.BookExamples', WHERE WHAT IT READS IS OF BULK AT MOST 1048576: true; the input reads as it did. -/
def bookExamplesUptoRow : OpenClaim := { program := "ythefeclkaaocnaagreatdoor", sum := "984b79df1e33393115d9fc69c859230a2487911c8eff47d9aa0a214d2d4e69f9", func := "louvre/louvrelaw31.BookExamples", spec := "bookExamples", unfollowed := true, recurses := true, named := ["louvre/val.words"], plainKeys := false, apart := false, laid := [("louvre/val.words", laid_louvre_val_words)], narrowed := true }
def BookExamplesUptoSaid : Prop := bookExamplesUptoRow.holds Tryz.pinned (OpenSpec.upto bookExamplesSpec)

/-- 'louvrelaw31.BookStatic', WHERE WHAT IT READS IS OF BULK AT MOST 1048576: true; the input reads as it did. -/
def bookStaticUptoRow : OpenClaim := { program := "ythefeclkaaocnaagreatdoor", sum := "984b79df1e33393115d9fc69c859230a2487911c8eff47d9aa0a214d2d4e69f9", func := "louvre/louvrelaw31.BookStatic", spec := "bookStatic", unfollowed := true, recurses := true, named := ["louvre/val.words"], plainKeys := false, apart := false, laid := [("louvre/val.words", laid_louvre_val_words)], narrowed := true }
def BookStaticUptoSaid : Prop := bookStaticUptoRow.holds Tryz.pinned (OpenSpec.upto bookStaticSpec)

/-- 'louvrelaw31.BookChecks', WHERE WHAT IT READS IS OF BULK AT MOST 1048576: true; the input reads as it did. -/
def bookChecksUptoRow : OpenClaim := { program := "ythefeclkaaocnaagreatdoor", sum := "984b79df1e33393115d9fc69c859230a2487911c8eff47d9aa0a214d2d4e69f9", func := "louvre/louvrelaw31.BookChecks", spec := "bookChecks", unfollowed := true, recurses := true, named := ["louvre/val.words"], plainKeys := false, apart := false, laid := [("louvre/val.words", laid_louvre_val_words)], narrowed := true }
def BookChecksUptoSaid : Prop := bookChecksUptoRow.holds Tryz.pinned (OpenSpec.upto bookChecksSpec)

/-- 'louvrelaw31.BookRights', WHERE WHAT IT READS IS OF BULK AT MOST 1048576: true; the input reads as it did. -/
def bookRightsUptoRow : OpenClaim := { program := "ythefeclkaaocnaagreatdoor", sum := "984b79df1e33393115d9fc69c859230a2487911c8eff47d9aa0a214d2d4e69f9", func := "louvre/louvrelaw31.BookRights", spec := "bookRights", unfollowed := true, recurses := true, named := ["louvre/val.words"], plainKeys := false, apart := false, laid := [("louvre/val.words", laid_louvre_val_words)], narrowed := true }
def BookRightsUptoSaid : Prop := bookRightsUptoRow.holds Tryz.pinned (OpenSpec.upto bookRightsSpec)

/-- 'louvrelaw27.FlowSees', WHERE WHAT IT READS IS OF BULK AT MOST 1048576: true; the input reads as it did. -/
def flowSeesUptoRow : OpenClaim := { program := "ythefeclkaaocnaagreatdoor", sum := "984b79df1e33393115d9fc69c859230a2487911c8eff47d9aa0a214d2d4e69f9", func := "louvre/louvrelaw27.FlowSees", spec := "flowSees", unfollowed := true, recurses := true, named := ["louvre/val.words"], plainKeys := false, apart := false, laid := [("louvre/val.words", laid_louvre_val_words)], narrowed := true }
def FlowSeesUptoSaid : Prop := flowSeesUptoRow.holds Tryz.pinned (OpenSpec.upto flowSeesSpec)

/-- 'louvrelaw27.FlowConstants', WHERE WHAT IT READS IS OF BULK AT MOST 1048576: true; the input reads as it did. -/
def flowConstantsUptoRow : OpenClaim := { program := "ythefeclkaaocnaagreatdoor", sum := "984b79df1e33393115d9fc69c859230a2487911c8eff47d9aa0a214d2d4e69f9", func := "louvre/louvrelaw27.FlowConstants", spec := "flowConstants", unfollowed := true, recurses := true, named := ["louvre/val.words"], plainKeys := false, apart := false, laid := [("louvre/val.words", laid_louvre_val_words)], narrowed := true }
def FlowConstantsUptoSaid : Prop := flowConstantsUptoRow.holds Tryz.pinned (OpenSpec.upto flowConstantsSpec)

/-- 'louvrelaw27.FlowEquations', WHERE WHAT IT READS IS OF BULK AT MOST 1048576: true; the input reads as it did. -/
def flowEquationsUptoRow : OpenClaim := { program := "ythefeclkaaocnaagreatdoor", sum := "984b79df1e33393115d9fc69c859230a2487911c8eff47d9aa0a214d2d4e69f9", func := "louvre/louvrelaw27.FlowEquations", spec := "flowEquations", unfollowed := true, recurses := true, named := ["louvre/val.words"], plainKeys := false, apart := false, laid := [("louvre/val.words", laid_louvre_val_words)], narrowed := true }
def FlowEquationsUptoSaid : Prop := flowEquationsUptoRow.holds Tryz.pinned (OpenSpec.upto flowEquationsSpec)

/-- 'louvrelaw27.FlowGrows', WHERE WHAT IT READS IS OF BULK AT MOST 1048576: true; the input reads as it did. -/
def flowGrowsUptoRow : OpenClaim := { program := "ythefeclkaaocnaagreatdoor", sum := "984b79df1e33393115d9fc69c859230a2487911c8eff47d9aa0a214d2d4e69f9", func := "louvre/louvrelaw27.FlowGrows", spec := "flowGrows", unfollowed := true, recurses := true, named := ["louvre/val.words"], plainKeys := false, apart := false, laid := [("louvre/val.words", laid_louvre_val_words)], narrowed := true }
def FlowGrowsUptoSaid : Prop := flowGrowsUptoRow.holds Tryz.pinned (OpenSpec.upto flowGrowsSpec)

end Rows
end Go.Proofs.YthefeclkaaocnaaGreatDoor

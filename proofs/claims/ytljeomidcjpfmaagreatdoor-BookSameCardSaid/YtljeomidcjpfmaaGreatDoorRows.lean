/-
  NARROWER THAN 'FOR EVERY INPUT', by the rows' own cells (each row's printed sentence says how): BookExamples: laid · BookSame: laid · CycleNames: laid · ReleaseExamples: laid · FlowExamples: laid · VisibleNames: laid · WhyAgrees: laid · WhyShort: laid · WhyCovers: laid · WhyExact: laid.
  DERIVED. THE GIVEN ROWS OF THIS SEAT. 10 by the template 'for every input the law returns true; each argument reads behind the call as it read before'; 0 by the template 'total and deterministic' (their statements: YtljeomidcjpfmaaGreatDoorTotals.lean).
  GIVEN WITH THE SEED: the statements are not yours to turn. If you find one false, say at which input.
  Laid BY PROGRAM, IN A SANDBOX (cutbox-rows.mjs): the forced cells as the released guide's own fill.sh prints them over the translation f8eff578bbc7a4cd… (all of the seat's roots in one cut). By AI agents, Wed Nov 11 2026. No macro, syntax, notation, axiom, sorry.
-/
import Derived.Test.YtljeomidcjpfmaaGreatDoorChecked
import GoSem.Claim
import GoSem.ClaimJoined
import GoSem.ClaimMapViews
import Derived.JoinedTies
import Derived.KernelRfl
namespace Go.Proofs.YtljeomidcjpfmaaGreatDoor
/- THE CELL 'sum', in the pinned program and in every row, IS THE sha256 OF THE DUMP (.gsa) THAT YtljeomidcjpfmaaGreatDoorProg.lean LOADS. Nothing in Lean hashes anything: it is a label: what it is worth is what the hold of that sum in a sandbox is worth. -/
noncomputable def Tryz.pinned : Pinned := { name := "ytljeomidcjpfmaagreatdoor", sum := "f8eff578bbc7a4cd778e0d5e1583fea7a721c533af0792d8ffa2156ce4b9d64b", checked := Tryz.checked }
namespace Rows
def none {H : Type} : Left H := { results := [], args := [] }

/- WHAT THE LISTED PACKAGE-LEVEL VARIABLES READ AS WHEN THE CALL BEGINS. Each datum BY PROGRAM (the guide's laid-datum.mjs) off the statement by which the dump's own 'gosem.cut.vars' lays the variable. In a bare row this is a premise. The card (YtljeomidcjpfmaaGreatDoorCards.lean) ties it to the program's text. -/
def laid_louvre_val_words {H : Type} : DataW H := .agg [.lit (.string []), .lit (.string [35, 68, 73, 86, 47, 48, 33]), .lit (.string [35, 86, 65, 76, 85, 69, 33]), .lit (.string [35, 78, 85, 77, 33]), .lit (.string [35, 78, 47, 65]), .lit (.string [35, 82, 69, 70, 33]), .lit (.string [35, 67, 89, 67, 76, 69, 33]), .lit (.string [35, 68, 69, 78, 73, 69, 68])]

/-- 'louvrelaw31.BookExamples': WHATEVER THE INPUT: true; the input reads as it did. -/
def bookExamplesSpec : ChangeSpec := { name := "bookExamples", fn := fun _ => fun
  | [] => { results := [.lit (.bool true)], args := [] }
  | _ => none }
def bookExamplesRow : OpenClaim := { program := "ytljeomidcjpfmaagreatdoor", sum := "f8eff578bbc7a4cd778e0d5e1583fea7a721c533af0792d8ffa2156ce4b9d64b", func := "louvre/louvrelaw31.BookExamples", spec := "bookExamples", unfollowed := true, recurses := true, named := ["louvre/val.words"], plainKeys := false, apart := false, laid := [("louvre/val.words", laid_louvre_val_words)] }
def BookExamplesSaid : Prop := bookExamplesRow.holds Tryz.pinned (OpenSpec.ofChange bookExamplesSpec)

/-- ITS FALSE NEIGHBOUR: 'it returns false'. Refute it at one input. -/
def bookExamplesWrong : ChangeSpec := { name := "bookExamples", fn := fun _ => fun
  | [] => { results := [.lit (.bool false)], args := [] }
  | _ => none }
def BookExamplesWrongFalsely : Prop := bookExamplesRow.holds Tryz.pinned (OpenSpec.ofChange bookExamplesWrong)

/-- 'louvrelaw31.BookSame': WHATEVER THE INPUT: true; the input reads as it did. -/
def bookSameSpec : ChangeSpec := { name := "bookSame", fn := fun _ => fun
  | [d1, d2] => { results := [.lit (.bool true)], args := [d1, d2] }
  | _ => none }
def bookSameRow : OpenClaim := { program := "ytljeomidcjpfmaagreatdoor", sum := "f8eff578bbc7a4cd778e0d5e1583fea7a721c533af0792d8ffa2156ce4b9d64b", func := "louvre/louvrelaw31.BookSame", spec := "bookSame", unfollowed := true, recurses := true, named := ["louvre/val.words"], plainKeys := false, apart := false, laid := [("louvre/val.words", laid_louvre_val_words)] }
def BookSameSaid : Prop := bookSameRow.holds Tryz.pinned (OpenSpec.ofChange bookSameSpec)

/-- ITS FALSE NEIGHBOUR: 'it returns false'. Refute it at one input. -/
def bookSameWrong : ChangeSpec := { name := "bookSame", fn := fun _ => fun
  | [d1, d2] => { results := [.lit (.bool false)], args := [d1, d2] }
  | _ => none }
def BookSameWrongFalsely : Prop := bookSameRow.holds Tryz.pinned (OpenSpec.ofChange bookSameWrong)

/-- 'louvrelaw26.CycleNames': WHATEVER THE INPUT: true; the input reads as it did. -/
def cycleNamesSpec : ChangeSpec := { name := "cycleNames", fn := fun _ => fun
  | [] => { results := [.lit (.bool true)], args := [] }
  | _ => none }
def cycleNamesRow : OpenClaim := { program := "ytljeomidcjpfmaagreatdoor", sum := "f8eff578bbc7a4cd778e0d5e1583fea7a721c533af0792d8ffa2156ce4b9d64b", func := "louvre/louvrelaw26.CycleNames", spec := "cycleNames", unfollowed := true, recurses := true, named := ["louvre/val.words"], plainKeys := false, apart := false, laid := [("louvre/val.words", laid_louvre_val_words)] }
def CycleNamesSaid : Prop := cycleNamesRow.holds Tryz.pinned (OpenSpec.ofChange cycleNamesSpec)

/-- ITS FALSE NEIGHBOUR: 'it returns false'. Refute it at one input. -/
def cycleNamesWrong : ChangeSpec := { name := "cycleNames", fn := fun _ => fun
  | [] => { results := [.lit (.bool false)], args := [] }
  | _ => none }
def CycleNamesWrongFalsely : Prop := cycleNamesRow.holds Tryz.pinned (OpenSpec.ofChange cycleNamesWrong)

/-- 'louvrelaw34.ReleaseExamples': WHATEVER THE INPUT: true; the input reads as it did. -/
def releaseExamplesSpec : ChangeSpec := { name := "releaseExamples", fn := fun _ => fun
  | [] => { results := [.lit (.bool true)], args := [] }
  | _ => none }
def releaseExamplesRow : OpenClaim := { program := "ytljeomidcjpfmaagreatdoor", sum := "f8eff578bbc7a4cd778e0d5e1583fea7a721c533af0792d8ffa2156ce4b9d64b", func := "louvre/louvrelaw34.ReleaseExamples", spec := "releaseExamples", unfollowed := true, recurses := true, named := ["louvre/val.words"], plainKeys := false, apart := false, laid := [("louvre/val.words", laid_louvre_val_words)] }
def ReleaseExamplesSaid : Prop := releaseExamplesRow.holds Tryz.pinned (OpenSpec.ofChange releaseExamplesSpec)

/-- ITS FALSE NEIGHBOUR: 'it returns false'. Refute it at one input. -/
def releaseExamplesWrong : ChangeSpec := { name := "releaseExamples", fn := fun _ => fun
  | [] => { results := [.lit (.bool false)], args := [] }
  | _ => none }
def ReleaseExamplesWrongFalsely : Prop := releaseExamplesRow.holds Tryz.pinned (OpenSpec.ofChange releaseExamplesWrong)

/-- 'louvrelaw27.FlowExamples': WHATEVER THE INPUT: true; the input reads as it did. -/
def flowExamplesSpec : ChangeSpec := { name := "flowExamples", fn := fun _ => fun
  | [] => { results := [.lit (.bool true)], args := [] }
  | _ => none }
def flowExamplesRow : OpenClaim := { program := "ytljeomidcjpfmaagreatdoor", sum := "f8eff578bbc7a4cd778e0d5e1583fea7a721c533af0792d8ffa2156ce4b9d64b", func := "louvre/louvrelaw27.FlowExamples", spec := "flowExamples", unfollowed := true, recurses := true, named := ["louvre/val.words"], plainKeys := false, apart := false, laid := [("louvre/val.words", laid_louvre_val_words)] }
def FlowExamplesSaid : Prop := flowExamplesRow.holds Tryz.pinned (OpenSpec.ofChange flowExamplesSpec)

/-- ITS FALSE NEIGHBOUR: 'it returns false'. Refute it at one input. -/
def flowExamplesWrong : ChangeSpec := { name := "flowExamples", fn := fun _ => fun
  | [] => { results := [.lit (.bool false)], args := [] }
  | _ => none }
def FlowExamplesWrongFalsely : Prop := flowExamplesRow.holds Tryz.pinned (OpenSpec.ofChange flowExamplesWrong)

/-- 'louvrelaw35.VisibleNames': WHATEVER THE INPUT: true; the input reads as it did. -/
def visibleNamesSpec : ChangeSpec := { name := "visibleNames", fn := fun _ => fun
  | [] => { results := [.lit (.bool true)], args := [] }
  | _ => none }
def visibleNamesRow : OpenClaim := { program := "ytljeomidcjpfmaagreatdoor", sum := "f8eff578bbc7a4cd778e0d5e1583fea7a721c533af0792d8ffa2156ce4b9d64b", func := "louvre/louvrelaw35.VisibleNames", spec := "visibleNames", unfollowed := true, recurses := true, named := ["louvre/val.words"], plainKeys := false, apart := false, laid := [("louvre/val.words", laid_louvre_val_words)] }
def VisibleNamesSaid : Prop := visibleNamesRow.holds Tryz.pinned (OpenSpec.ofChange visibleNamesSpec)

/-- ITS FALSE NEIGHBOUR: 'it returns false'. Refute it at one input. -/
def visibleNamesWrong : ChangeSpec := { name := "visibleNames", fn := fun _ => fun
  | [] => { results := [.lit (.bool false)], args := [] }
  | _ => none }
def VisibleNamesWrongFalsely : Prop := visibleNamesRow.holds Tryz.pinned (OpenSpec.ofChange visibleNamesWrong)

/-- 'louvrelaw40.WhyAgrees': WHATEVER THE INPUT: true; the input reads as it did. -/
def whyAgreesSpec : ChangeSpec := { name := "whyAgrees", fn := fun _ => fun
  | [d1, d2, d3, d4] => { results := [.lit (.bool true)], args := [d1, d2, d3, d4] }
  | _ => none }
def whyAgreesRow : OpenClaim := { program := "ytljeomidcjpfmaagreatdoor", sum := "f8eff578bbc7a4cd778e0d5e1583fea7a721c533af0792d8ffa2156ce4b9d64b", func := "louvre/louvrelaw40.WhyAgrees", spec := "whyAgrees", unfollowed := true, recurses := true, named := ["louvre/val.words"], plainKeys := false, apart := false, laid := [("louvre/val.words", laid_louvre_val_words)] }
def WhyAgreesSaid : Prop := whyAgreesRow.holds Tryz.pinned (OpenSpec.ofChange whyAgreesSpec)

/-- ITS FALSE NEIGHBOUR: 'it returns false'. Refute it at one input. -/
def whyAgreesWrong : ChangeSpec := { name := "whyAgrees", fn := fun _ => fun
  | [d1, d2, d3, d4] => { results := [.lit (.bool false)], args := [d1, d2, d3, d4] }
  | _ => none }
def WhyAgreesWrongFalsely : Prop := whyAgreesRow.holds Tryz.pinned (OpenSpec.ofChange whyAgreesWrong)

/-- 'louvrelaw40.WhyShort': WHATEVER THE INPUT: true; the input reads as it did. -/
def whyShortSpec : ChangeSpec := { name := "whyShort", fn := fun _ => fun
  | [d1, d2, d3, d4] => { results := [.lit (.bool true)], args := [d1, d2, d3, d4] }
  | _ => none }
def whyShortRow : OpenClaim := { program := "ytljeomidcjpfmaagreatdoor", sum := "f8eff578bbc7a4cd778e0d5e1583fea7a721c533af0792d8ffa2156ce4b9d64b", func := "louvre/louvrelaw40.WhyShort", spec := "whyShort", unfollowed := true, recurses := true, named := ["louvre/val.words"], plainKeys := false, apart := false, laid := [("louvre/val.words", laid_louvre_val_words)] }
def WhyShortSaid : Prop := whyShortRow.holds Tryz.pinned (OpenSpec.ofChange whyShortSpec)

/-- ITS FALSE NEIGHBOUR: 'it returns false'. Refute it at one input. -/
def whyShortWrong : ChangeSpec := { name := "whyShort", fn := fun _ => fun
  | [d1, d2, d3, d4] => { results := [.lit (.bool false)], args := [d1, d2, d3, d4] }
  | _ => none }
def WhyShortWrongFalsely : Prop := whyShortRow.holds Tryz.pinned (OpenSpec.ofChange whyShortWrong)

/-- 'louvrelaw40.WhyCovers': WHATEVER THE INPUT: true; the input reads as it did. -/
def whyCoversSpec : ChangeSpec := { name := "whyCovers", fn := fun _ => fun
  | [d1, d2, d3] => { results := [.lit (.bool true)], args := [d1, d2, d3] }
  | _ => none }
def whyCoversRow : OpenClaim := { program := "ytljeomidcjpfmaagreatdoor", sum := "f8eff578bbc7a4cd778e0d5e1583fea7a721c533af0792d8ffa2156ce4b9d64b", func := "louvre/louvrelaw40.WhyCovers", spec := "whyCovers", unfollowed := true, recurses := true, named := ["louvre/val.words"], plainKeys := false, apart := false, laid := [("louvre/val.words", laid_louvre_val_words)] }
def WhyCoversSaid : Prop := whyCoversRow.holds Tryz.pinned (OpenSpec.ofChange whyCoversSpec)

/-- ITS FALSE NEIGHBOUR: 'it returns false'. Refute it at one input. -/
def whyCoversWrong : ChangeSpec := { name := "whyCovers", fn := fun _ => fun
  | [d1, d2, d3] => { results := [.lit (.bool false)], args := [d1, d2, d3] }
  | _ => none }
def WhyCoversWrongFalsely : Prop := whyCoversRow.holds Tryz.pinned (OpenSpec.ofChange whyCoversWrong)

/-- 'louvrelaw40.WhyExact': WHATEVER THE INPUT: true; the input reads as it did. -/
def whyExactSpec : ChangeSpec := { name := "whyExact", fn := fun _ => fun
  | [d1, d2, d3, d4] => { results := [.lit (.bool true)], args := [d1, d2, d3, d4] }
  | _ => none }
def whyExactRow : OpenClaim := { program := "ytljeomidcjpfmaagreatdoor", sum := "f8eff578bbc7a4cd778e0d5e1583fea7a721c533af0792d8ffa2156ce4b9d64b", func := "louvre/louvrelaw40.WhyExact", spec := "whyExact", unfollowed := true, recurses := true, named := ["louvre/val.words"], plainKeys := false, apart := false, laid := [("louvre/val.words", laid_louvre_val_words)] }
def WhyExactSaid : Prop := whyExactRow.holds Tryz.pinned (OpenSpec.ofChange whyExactSpec)

/-- ITS FALSE NEIGHBOUR: 'it returns false'. Refute it at one input. -/
def whyExactWrong : ChangeSpec := { name := "whyExact", fn := fun _ => fun
  | [d1, d2, d3, d4] => { results := [.lit (.bool false)], args := [d1, d2, d3, d4] }
  | _ => none }
def WhyExactWrongFalsely : Prop := whyExactRow.holds Tryz.pinned (OpenSpec.ofChange whyExactWrong)

/- THE SECOND FORM. 'bulk': how many values and letters a reading holds, each counted each time it is reached (what is shared counts as often as it is met; a slice's spare places count too). A statement '..UptoSaid' is the law's where the arguments, and the package variables that the reading takes, are together of bulk at most 1048576: NARROWER than '..Said'. Prove '..Said' where nothing that the law and all that it calls make is longer than what came in: it says more and counts as full. Else prove '..UptoSaid'. A law counts once. -/
mutual
def uptoBulk {H : Type} : DataW H → Nat
  | .lit (.string bytes) => bytes.length + 1
  | .lit _ => 1
  | .nil => 1
  | .ptr d => uptoBulk d + 1
  | .slice elems spare => uptoBulkAll elems + uptoBulkAll spare + 1
  | .agg parts => uptoBulkAll parts + 1
  | .iface _ d => uptoBulk d + 1
  | .map entries => uptoBulkEntries entries + 1
  | .held _ => 1
def uptoBulkAll {H : Type} : List (DataW H) → Nat
  | [] => 0
  | d :: r => uptoBulk d + uptoBulkAll r
def uptoBulkEntries {H : Type} : List (Lit × DataW H) → Nat
  | [] => 0
  | x :: r => uptoBulkEntry x + uptoBulkEntries r
def uptoBulkEntry {H : Type} : Lit × DataW H → Nat
  | (.string bytes, d) => bytes.length + uptoBulk d + 1
  | (_, d) => uptoBulk d + 1
 end
def uptoSmall : (H : Type) → List (DataW H) → Bool := fun _ ds => decide (uptoBulkAll ds ≤ 1048576)
def OpenSpec.upto (s : _root_.Go.ChangeSpec) : _root_.Go.OpenSpec := { _root_.Go.OpenSpec.ofChange s with cond := some uptoSmall }

/-- 'louvrelaw31.BookExamples', WHERE WHAT IT READS IS OF BULK AT MOST 1048576: true; the input reads as it did. -/
def bookExamplesUptoRow : OpenClaim := { program := "ytljeomidcjpfmaagreatdoor", sum := "f8eff578bbc7a4cd778e0d5e1583fea7a721c533af0792d8ffa2156ce4b9d64b", func := "louvre/louvrelaw31.BookExamples", spec := "bookExamples", unfollowed := true, recurses := true, named := ["louvre/val.words"], plainKeys := false, apart := false, laid := [("louvre/val.words", laid_louvre_val_words)], narrowed := true }
def BookExamplesUptoSaid : Prop := bookExamplesUptoRow.holds Tryz.pinned (OpenSpec.upto bookExamplesSpec)

/-- 'louvrelaw31.BookSame', WHERE WHAT IT READS IS OF BULK AT MOST 1048576: true; the input reads as it did. -/
def bookSameUptoRow : OpenClaim := { program := "ytljeomidcjpfmaagreatdoor", sum := "f8eff578bbc7a4cd778e0d5e1583fea7a721c533af0792d8ffa2156ce4b9d64b", func := "louvre/louvrelaw31.BookSame", spec := "bookSame", unfollowed := true, recurses := true, named := ["louvre/val.words"], plainKeys := false, apart := false, laid := [("louvre/val.words", laid_louvre_val_words)], narrowed := true }
def BookSameUptoSaid : Prop := bookSameUptoRow.holds Tryz.pinned (OpenSpec.upto bookSameSpec)

/-- 'louvrelaw26.CycleNames', WHERE WHAT IT READS IS OF BULK AT MOST 1048576: true; the input reads as it did. -/
def cycleNamesUptoRow : OpenClaim := { program := "ytljeomidcjpfmaagreatdoor", sum := "f8eff578bbc7a4cd778e0d5e1583fea7a721c533af0792d8ffa2156ce4b9d64b", func := "louvre/louvrelaw26.CycleNames", spec := "cycleNames", unfollowed := true, recurses := true, named := ["louvre/val.words"], plainKeys := false, apart := false, laid := [("louvre/val.words", laid_louvre_val_words)], narrowed := true }
def CycleNamesUptoSaid : Prop := cycleNamesUptoRow.holds Tryz.pinned (OpenSpec.upto cycleNamesSpec)

/-- 'louvrelaw34.ReleaseExamples', WHERE WHAT IT READS IS OF BULK AT MOST 1048576: true; the input reads as it did. -/
def releaseExamplesUptoRow : OpenClaim := { program := "ytljeomidcjpfmaagreatdoor", sum := "f8eff578bbc7a4cd778e0d5e1583fea7a721c533af0792d8ffa2156ce4b9d64b", func := "louvre/louvrelaw34.ReleaseExamples", spec := "releaseExamples", unfollowed := true, recurses := true, named := ["louvre/val.words"], plainKeys := false, apart := false, laid := [("louvre/val.words", laid_louvre_val_words)], narrowed := true }
def ReleaseExamplesUptoSaid : Prop := releaseExamplesUptoRow.holds Tryz.pinned (OpenSpec.upto releaseExamplesSpec)

/-- 'louvrelaw27.FlowExamples', WHERE WHAT IT READS IS OF BULK AT MOST 1048576: true; the input reads as it did. -/
def flowExamplesUptoRow : OpenClaim := { program := "ytljeomidcjpfmaagreatdoor", sum := "f8eff578bbc7a4cd778e0d5e1583fea7a721c533af0792d8ffa2156ce4b9d64b", func := "louvre/louvrelaw27.FlowExamples", spec := "flowExamples", unfollowed := true, recurses := true, named := ["louvre/val.words"], plainKeys := false, apart := false, laid := [("louvre/val.words", laid_louvre_val_words)], narrowed := true }
def FlowExamplesUptoSaid : Prop := flowExamplesUptoRow.holds Tryz.pinned (OpenSpec.upto flowExamplesSpec)

/-- 'louvrelaw35.VisibleNames', WHERE WHAT IT READS IS OF BULK AT MOST 1048576: true; the input reads as it did. -/
def visibleNamesUptoRow : OpenClaim := { program := "ytljeomidcjpfmaagreatdoor", sum := "f8eff578bbc7a4cd778e0d5e1583fea7a721c533af0792d8ffa2156ce4b9d64b", func := "louvre/louvrelaw35.VisibleNames", spec := "visibleNames", unfollowed := true, recurses := true, named := ["louvre/val.words"], plainKeys := false, apart := false, laid := [("louvre/val.words", laid_louvre_val_words)], narrowed := true }
def VisibleNamesUptoSaid : Prop := visibleNamesUptoRow.holds Tryz.pinned (OpenSpec.upto visibleNamesSpec)

/-- 'louvrelaw40.WhyAgrees', WHERE WHAT IT READS IS OF BULK AT MOST 1048576: true; the input reads as it did. -/
def whyAgreesUptoRow : OpenClaim := { program := "ytljeomidcjpfmaagreatdoor", sum := "f8eff578bbc7a4cd778e0d5e1583fea7a721c533af0792d8ffa2156ce4b9d64b", func := "louvre/louvrelaw40.WhyAgrees", spec := "whyAgrees", unfollowed := true, recurses := true, named := ["louvre/val.words"], plainKeys := false, apart := false, laid := [("louvre/val.words", laid_louvre_val_words)], narrowed := true }
def WhyAgreesUptoSaid : Prop := whyAgreesUptoRow.holds Tryz.pinned (OpenSpec.upto whyAgreesSpec)

/-- 'louvrelaw40.WhyShort', WHERE WHAT IT READS IS OF BULK AT MOST 1048576: true; the input reads as it did. -/
def whyShortUptoRow : OpenClaim := { program := "ytljeomidcjpfmaagreatdoor", sum := "f8eff578bbc7a4cd778e0d5e1583fea7a721c533af0792d8ffa2156ce4b9d64b", func := "louvre/louvrelaw40.WhyShort", spec := "whyShort", unfollowed := true, recurses := true, named := ["louvre/val.words"], plainKeys := false, apart := false, laid := [("louvre/val.words", laid_louvre_val_words)], narrowed := true }
def WhyShortUptoSaid : Prop := whyShortUptoRow.holds Tryz.pinned (OpenSpec.upto whyShortSpec)

/-- 'louvrelaw40.WhyCovers', WHERE WHAT IT READS IS OF BULK AT MOST 1048576: true; the input reads as it did. -/
def whyCoversUptoRow : OpenClaim := { program := "ytljeomidcjpfmaagreatdoor", sum := "f8eff578bbc7a4cd778e0d5e1583fea7a721c533af0792d8ffa2156ce4b9d64b", func := "louvre/louvrelaw40.WhyCovers", spec := "whyCovers", unfollowed := true, recurses := true, named := ["louvre/val.words"], plainKeys := false, apart := false, laid := [("louvre/val.words", laid_louvre_val_words)], narrowed := true }
def WhyCoversUptoSaid : Prop := whyCoversUptoRow.holds Tryz.pinned (OpenSpec.upto whyCoversSpec)

/-- 'louvrelaw40.WhyExact', WHERE WHAT IT READS IS OF BULK AT MOST 1048576: true; the input reads as it did. -/
def whyExactUptoRow : OpenClaim := { program := "ytljeomidcjpfmaagreatdoor", sum := "f8eff578bbc7a4cd778e0d5e1583fea7a721c533af0792d8ffa2156ce4b9d64b", func := "louvre/louvrelaw40.WhyExact", spec := "whyExact", unfollowed := true, recurses := true, named := ["louvre/val.words"], plainKeys := false, apart := false, laid := [("louvre/val.words", laid_louvre_val_words)], narrowed := true }
def WhyExactUptoSaid : Prop := whyExactUptoRow.holds Tryz.pinned (OpenSpec.upto whyExactSpec)

end Rows
end Go.Proofs.YtljeomidcjpfmaaGreatDoor

/-
  NARROWER THAN 'FOR EVERY INPUT', by the rows' own cells (each row's printed sentence says how): BookApplies: laid · BookChecks: laid · ReleaseMatches: laid · ReleaseExamples: laid · ReleaseStays: laid · ReleaseCovers: laid.
  DERIVED. THE GIVEN ROWS OF THIS SEAT. 6 by the template 'for every input the law returns true; each argument reads behind the call as it read before'; 0 by the template 'total and deterministic' (their statements: YtoanpdoacdpgeaaGreatDoorTotals.lean).
  GIVEN WITH THE SEED: the statements are not yours to turn. If you find one false, say at which input.
  Laid BY PROGRAM, IN A SANDBOX (cutbox-rows.mjs): the forced cells as the released guide's own fill.sh prints them over the translation fec2b7f4806c7f16… (all of the seat's roots in one cut). By AI agents, Wed Nov 11 2026. No macro, syntax, notation, axiom, sorry.
-/
import Derived.Test.YtoanpdoacdpgeaaGreatDoorChecked
import GoSem.Claim
import GoSem.ClaimJoined
import GoSem.ClaimMapViews
import Derived.JoinedTies
import Derived.KernelRfl
namespace Go.Proofs.YtoanpdoacdpgeaaGreatDoor
/- THE CELL 'sum', in the pinned program and in every row, IS THE sha256 OF THE DUMP (.gsa) THAT YtoanpdoacdpgeaaGreatDoorProg.lean LOADS. Nothing in Lean hashes anything: it is a label: what it is worth is what the hold of that sum in a sandbox is worth. -/
noncomputable def Tryz.pinned : Pinned := { name := "ytoanpdoacdpgeaagreatdoor", sum := "fec2b7f4806c7f16ff4b3a9cc3756fbc3a5e668fe9b1be2f597a8cfc927cb463", checked := Tryz.checked }
namespace Rows
def none {H : Type} : Left H := { results := [], args := [] }

/- WHAT THE LISTED PACKAGE-LEVEL VARIABLES READ AS WHEN THE CALL BEGINS. Each datum BY PROGRAM (the guide's laid-datum.mjs) off the statement by which the dump's own 'gosem.cut.vars' lays the variable. In a bare row this is a premise. The card (YtoanpdoacdpgeaaGreatDoorCards.lean) ties it to the program's text. -/
def laid_louvre_val_words {H : Type} : DataW H := .agg [.lit (.string []), .lit (.string [35, 68, 73, 86, 47, 48, 33]), .lit (.string [35, 86, 65, 76, 85, 69, 33]), .lit (.string [35, 78, 85, 77, 33]), .lit (.string [35, 78, 47, 65]), .lit (.string [35, 82, 69, 70, 33]), .lit (.string [35, 67, 89, 67, 76, 69, 33]), .lit (.string [35, 68, 69, 78, 73, 69, 68])]

/-- 'louvrelaw31.BookApplies': WHATEVER THE INPUT: true; the input reads as it did. -/
def bookAppliesSpec : ChangeSpec := { name := "bookApplies", fn := fun _ => fun
  | [d1, d2] => { results := [.lit (.bool true)], args := [d1, d2] }
  | _ => none }
def bookAppliesRow : OpenClaim := { program := "ytoanpdoacdpgeaagreatdoor", sum := "fec2b7f4806c7f16ff4b3a9cc3756fbc3a5e668fe9b1be2f597a8cfc927cb463", func := "louvre/louvrelaw31.BookApplies", spec := "bookApplies", unfollowed := true, recurses := true, named := ["louvre/val.words"], plainKeys := false, apart := false, laid := [("louvre/val.words", laid_louvre_val_words)] }
def BookAppliesSaid : Prop := bookAppliesRow.holds Tryz.pinned (OpenSpec.ofChange bookAppliesSpec)

/-- ITS FALSE NEIGHBOUR: 'it returns false'. Refute it at one input. -/
def bookAppliesWrong : ChangeSpec := { name := "bookApplies", fn := fun _ => fun
  | [d1, d2] => { results := [.lit (.bool false)], args := [d1, d2] }
  | _ => none }
def BookAppliesWrongFalsely : Prop := bookAppliesRow.holds Tryz.pinned (OpenSpec.ofChange bookAppliesWrong)

/-- 'louvrelaw31.BookChecks': WHATEVER THE INPUT: true; the input reads as it did. -/
def bookChecksSpec : ChangeSpec := { name := "bookChecks", fn := fun _ => fun
  | [d1, d2, d3] => { results := [.lit (.bool true)], args := [d1, d2, d3] }
  | _ => none }
def bookChecksRow : OpenClaim := { program := "ytoanpdoacdpgeaagreatdoor", sum := "fec2b7f4806c7f16ff4b3a9cc3756fbc3a5e668fe9b1be2f597a8cfc927cb463", func := "louvre/louvrelaw31.BookChecks", spec := "bookChecks", unfollowed := true, recurses := true, named := ["louvre/val.words"], plainKeys := false, apart := false, laid := [("louvre/val.words", laid_louvre_val_words)] }
def BookChecksSaid : Prop := bookChecksRow.holds Tryz.pinned (OpenSpec.ofChange bookChecksSpec)

/-- ITS FALSE NEIGHBOUR: 'it returns false'. Refute it at one input. -/
def bookChecksWrong : ChangeSpec := { name := "bookChecks", fn := fun _ => fun
  | [d1, d2, d3] => { results := [.lit (.bool false)], args := [d1, d2, d3] }
  | _ => none }
def BookChecksWrongFalsely : Prop := bookChecksRow.holds Tryz.pinned (OpenSpec.ofChange bookChecksWrong)

/-- 'louvrelaw34.ReleaseMatches': WHATEVER THE INPUT: true; the input reads as it did. -/
def releaseMatchesSpec : ChangeSpec := { name := "releaseMatches", fn := fun _ => fun
  | [d1, d2] => { results := [.lit (.bool true)], args := [d1, d2] }
  | _ => none }
def releaseMatchesRow : OpenClaim := { program := "ytoanpdoacdpgeaagreatdoor", sum := "fec2b7f4806c7f16ff4b3a9cc3756fbc3a5e668fe9b1be2f597a8cfc927cb463", func := "louvre/louvrelaw34.ReleaseMatches", spec := "releaseMatches", unfollowed := true, recurses := true, named := ["louvre/val.words"], plainKeys := false, apart := false, laid := [("louvre/val.words", laid_louvre_val_words)] }
def ReleaseMatchesSaid : Prop := releaseMatchesRow.holds Tryz.pinned (OpenSpec.ofChange releaseMatchesSpec)

/-- ITS FALSE NEIGHBOUR: 'it returns false'. Refute it at one input. -/
def releaseMatchesWrong : ChangeSpec := { name := "releaseMatches", fn := fun _ => fun
  | [d1, d2] => { results := [.lit (.bool false)], args := [d1, d2] }
  | _ => none }
def ReleaseMatchesWrongFalsely : Prop := releaseMatchesRow.holds Tryz.pinned (OpenSpec.ofChange releaseMatchesWrong)

/-- 'louvrelaw34.ReleaseExamples': WHATEVER THE INPUT: true; the input reads as it did. -/
def releaseExamplesSpec : ChangeSpec := { name := "releaseExamples", fn := fun _ => fun
  | [] => { results := [.lit (.bool true)], args := [] }
  | _ => none }
def releaseExamplesRow : OpenClaim := { program := "ytoanpdoacdpgeaagreatdoor", sum := "fec2b7f4806c7f16ff4b3a9cc3756fbc3a5e668fe9b1be2f597a8cfc927cb463", func := "louvre/louvrelaw34.ReleaseExamples", spec := "releaseExamples", unfollowed := true, recurses := true, named := ["louvre/val.words"], plainKeys := false, apart := false, laid := [("louvre/val.words", laid_louvre_val_words)] }
def ReleaseExamplesSaid : Prop := releaseExamplesRow.holds Tryz.pinned (OpenSpec.ofChange releaseExamplesSpec)

/-- ITS FALSE NEIGHBOUR: 'it returns false'. Refute it at one input. -/
def releaseExamplesWrong : ChangeSpec := { name := "releaseExamples", fn := fun _ => fun
  | [] => { results := [.lit (.bool false)], args := [] }
  | _ => none }
def ReleaseExamplesWrongFalsely : Prop := releaseExamplesRow.holds Tryz.pinned (OpenSpec.ofChange releaseExamplesWrong)

/-- 'louvrelaw34.ReleaseStays': WHATEVER THE INPUT: true; the input reads as it did. -/
def releaseStaysSpec : ChangeSpec := { name := "releaseStays", fn := fun _ => fun
  | [d1, d2, d3] => { results := [.lit (.bool true)], args := [d1, d2, d3] }
  | _ => none }
def releaseStaysRow : OpenClaim := { program := "ytoanpdoacdpgeaagreatdoor", sum := "fec2b7f4806c7f16ff4b3a9cc3756fbc3a5e668fe9b1be2f597a8cfc927cb463", func := "louvre/louvrelaw34.ReleaseStays", spec := "releaseStays", unfollowed := true, recurses := true, named := ["louvre/val.words"], plainKeys := false, apart := false, laid := [("louvre/val.words", laid_louvre_val_words)] }
def ReleaseStaysSaid : Prop := releaseStaysRow.holds Tryz.pinned (OpenSpec.ofChange releaseStaysSpec)

/-- ITS FALSE NEIGHBOUR: 'it returns false'. Refute it at one input. -/
def releaseStaysWrong : ChangeSpec := { name := "releaseStays", fn := fun _ => fun
  | [d1, d2, d3] => { results := [.lit (.bool false)], args := [d1, d2, d3] }
  | _ => none }
def ReleaseStaysWrongFalsely : Prop := releaseStaysRow.holds Tryz.pinned (OpenSpec.ofChange releaseStaysWrong)

/-- 'louvrelaw34.ReleaseCovers': WHATEVER THE INPUT: true; the input reads as it did. -/
def releaseCoversSpec : ChangeSpec := { name := "releaseCovers", fn := fun _ => fun
  | [d1, d2] => { results := [.lit (.bool true)], args := [d1, d2] }
  | _ => none }
def releaseCoversRow : OpenClaim := { program := "ytoanpdoacdpgeaagreatdoor", sum := "fec2b7f4806c7f16ff4b3a9cc3756fbc3a5e668fe9b1be2f597a8cfc927cb463", func := "louvre/louvrelaw34.ReleaseCovers", spec := "releaseCovers", unfollowed := true, recurses := true, named := ["louvre/val.words"], plainKeys := false, apart := false, laid := [("louvre/val.words", laid_louvre_val_words)] }
def ReleaseCoversSaid : Prop := releaseCoversRow.holds Tryz.pinned (OpenSpec.ofChange releaseCoversSpec)

/-- ITS FALSE NEIGHBOUR: 'it returns false'. Refute it at one input. -/
def releaseCoversWrong : ChangeSpec := { name := "releaseCovers", fn := fun _ => fun
  | [d1, d2] => { results := [.lit (.bool false)], args := [d1, d2] }
  | _ => none }
def ReleaseCoversWrongFalsely : Prop := releaseCoversRow.holds Tryz.pinned (OpenSpec.ofChange releaseCoversWrong)

/- THE SECOND FORM. 'bulk': how many values and letters a reading holds, each counted each time it is reached (what is shared counts as often as it is met; a slice's spare places count too). A statement '..UptoSaid' is the law's where the arguments, and the package variables that the reading takes, are together of bulk at most 1048576: NARROWER than '..Said'. Prove '..Said' where nothing that the law and all that it calls make is longer than what came in: it says more and counts as full. Else prove '..UptoSaid'. A law counts once. -/
mutual
def uptoBulk {H : Type} : DataW H → Nat
  | .lit (.string bytes) => bytes.length + 1
  | .lit _ => 1
  | .nil => 1
  | .ptr d => uptoBulk d + 1
  | .slice elems spare => uptoBulkAll elems + uptoBulkAll spare + 1
  | .agg parts => uptoBulkAll parts + 1
  | .iface _ d => uptoBulk d + 1
  | .map entries => uptoBulkEntries entries + 1
  | .held _ => 1
def uptoBulkAll {H : Type} : List (DataW H) → Nat
  | [] => 0
  | d :: r => uptoBulk d + uptoBulkAll r
def uptoBulkEntries {H : Type} : List (Lit × DataW H) → Nat
  | [] => 0
  | x :: r => uptoBulkEntry x + uptoBulkEntries r
def uptoBulkEntry {H : Type} : Lit × DataW H → Nat
  | (.string bytes, d) => bytes.length + uptoBulk d + 1
  | (_, d) => uptoBulk d + 1
 end
def uptoSmall : (H : Type) → List (DataW H) → Bool := fun _ ds => decide (uptoBulkAll ds ≤ 1048576)
def OpenSpec.upto (s : _root_.Go.ChangeSpec) : _root_.Go.OpenSpec := { _root_.Go.OpenSpec.ofChange s with cond := some uptoSmall }

/-- 'louvrelaw31.BookApplies', WHERE WHAT IT READS IS OF BULK AT MOST 1048576: true; the input reads as it did. -/
def bookAppliesUptoRow : OpenClaim := { program := "ytoanpdoacdpgeaagreatdoor", sum := "fec2b7f4806c7f16ff4b3a9cc3756fbc3a5e668fe9b1be2f597a8cfc927cb463", func := "louvre/louvrelaw31.BookApplies", spec := "bookApplies", unfollowed := true, recurses := true, named := ["louvre/val.words"], plainKeys := false, apart := false, laid := [("louvre/val.words", laid_louvre_val_words)], narrowed := true }
def BookAppliesUptoSaid : Prop := bookAppliesUptoRow.holds Tryz.pinned (OpenSpec.upto bookAppliesSpec)

/-- 'louvrelaw31.BookChecks', WHERE WHAT IT READS IS OF BULK AT MOST 1048576: true; the input reads as it did. -/
def bookChecksUptoRow : OpenClaim := { program := "ytoanpdoacdpgeaagreatdoor", sum := "fec2b7f4806c7f16ff4b3a9cc3756fbc3a5e668fe9b1be2f597a8cfc927cb463", func := "louvre/louvrelaw31.BookChecks", spec := "bookChecks", unfollowed := true, recurses := true, named := ["louvre/val.words"], plainKeys := false, apart := false, laid := [("louvre/val.words", laid_louvre_val_words)], narrowed := true }
def BookChecksUptoSaid : Prop := bookChecksUptoRow.holds Tryz.pinned (OpenSpec.upto bookChecksSpec)

/-- 'louvrelaw34.ReleaseMatches', WHERE WHAT IT READS IS OF BULK AT MOST 1048576: true; the input reads as it did. -/
def releaseMatchesUptoRow : OpenClaim := { program := "ytoanpdoacdpgeaagreatdoor", sum := "fec2b7f4806c7f16ff4b3a9cc3756fbc3a5e668fe9b1be2f597a8cfc927cb463", func := "louvre/louvrelaw34.ReleaseMatches", spec := "releaseMatches", unfollowed := true, recurses := true, named := ["louvre/val.words"], plainKeys := false, apart := false, laid := [("louvre/val.words", laid_louvre_val_words)], narrowed := true }
def ReleaseMatchesUptoSaid : Prop := releaseMatchesUptoRow.holds Tryz.pinned (OpenSpec.upto releaseMatchesSpec)

/-- 'louvrelaw34.ReleaseExamples', WHERE WHAT IT READS IS OF BULK AT MOST 1048576: true; the input reads as it did. -/
def releaseExamplesUptoRow : OpenClaim := { program := "ytoanpdoacdpgeaagreatdoor", sum := "fec2b7f4806c7f16ff4b3a9cc3756fbc3a5e668fe9b1be2f597a8cfc927cb463", func := "louvre/louvrelaw34.ReleaseExamples", spec := "releaseExamples", unfollowed := true, recurses := true, named := ["louvre/val.words"], plainKeys := false, apart := false, laid := [("louvre/val.words", laid_louvre_val_words)], narrowed := true }
def ReleaseExamplesUptoSaid : Prop := releaseExamplesUptoRow.holds Tryz.pinned (OpenSpec.upto releaseExamplesSpec)

/-- 'louvrelaw34.ReleaseStays', WHERE WHAT IT READS IS OF BULK AT MOST 1048576: true; the input reads as it did. -/
def releaseStaysUptoRow : OpenClaim := { program := "ytoanpdoacdpgeaagreatdoor", sum := "fec2b7f4806c7f16ff4b3a9cc3756fbc3a5e668fe9b1be2f597a8cfc927cb463", func := "louvre/louvrelaw34.ReleaseStays", spec := "releaseStays", unfollowed := true, recurses := true, named := ["louvre/val.words"], plainKeys := false, apart := false, laid := [("louvre/val.words", laid_louvre_val_words)], narrowed := true }
def ReleaseStaysUptoSaid : Prop := releaseStaysUptoRow.holds Tryz.pinned (OpenSpec.upto releaseStaysSpec)

/-- 'louvrelaw34.ReleaseCovers', WHERE WHAT IT READS IS OF BULK AT MOST 1048576: true; the input reads as it did. -/
def releaseCoversUptoRow : OpenClaim := { program := "ytoanpdoacdpgeaagreatdoor", sum := "fec2b7f4806c7f16ff4b3a9cc3756fbc3a5e668fe9b1be2f597a8cfc927cb463", func := "louvre/louvrelaw34.ReleaseCovers", spec := "releaseCovers", unfollowed := true, recurses := true, named := ["louvre/val.words"], plainKeys := false, apart := false, laid := [("louvre/val.words", laid_louvre_val_words)], narrowed := true }
def ReleaseCoversUptoSaid : Prop := releaseCoversUptoRow.holds Tryz.pinned (OpenSpec.upto releaseCoversSpec)

end Rows
end Go.Proofs.YtoanpdoacdpgeaaGreatDoor

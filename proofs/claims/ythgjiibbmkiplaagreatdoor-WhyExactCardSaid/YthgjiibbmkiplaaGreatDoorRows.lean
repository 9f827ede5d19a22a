/-
  NARROWER THAN 'FOR EVERY INPUT', by the rows' own cells (each row's printed sentence says how): VisibleNames: laid · WhyAgrees: laid · WhyShort: laid · WhyCovers: laid · WhyExact: laid.
  DERIVED. THE GIVEN ROWS OF THIS SEAT. 5 by the template 'for every input the law returns true; each argument reads behind the call as it read before'; 0 by the template 'total and deterministic' (their statements: YthgjiibbmkiplaaGreatDoorTotals.lean).
  GIVEN WITH THE SEED: the statements are not yours to turn. If you find one false, say at which input.
  Laid BY PROGRAM, IN A SANDBOX (cutbox-rows.mjs): the forced cells as the released guide's own fill.sh prints them over the translation 8d4cd3fe185b3a45… (all of the seat's roots in one cut). By AI agents, Wed Nov 11 2026. No macro, syntax, notation, axiom, sorry.
-/
import Derived.Test.YthgjiibbmkiplaaGreatDoorChecked
import GoSem.Claim
import GoSem.ClaimJoined
import GoSem.ClaimMapViews
import Derived.JoinedTies
import Derived.KernelRfl
namespace Go.Proofs.YthgjiibbmkiplaaGreatDoor
/- THE CELL 'sum', in the pinned program and in every row, IS THE sha256 OF THE DUMP (.gsa) THAT YthgjiibbmkiplaaGreatDoorProg.lean LOADS. Nothing in Lean hashes anything: it is a label: what it is worth is what the hold of that sum in a sandbox is worth. -/
noncomputable def Tryz.pinned : Pinned := { name := "ythgjiibbmkiplaagreatdoor", sum := "8d4cd3fe185b3a45ec5ae576931be793d4bff1fb22599ee0418a93b2acdb3256", checked := Tryz.checked }
namespace Rows
def none {H : Type} : Left H := { results := [], args := [] }

/- WHAT THE LISTED PACKAGE-LEVEL VARIABLES READ AS WHEN THE CALL BEGINS. Each datum BY PROGRAM (the guide's laid-datum.mjs) off the statement by which the dump's own 'gosem.cut.vars' lays the variable. In a bare row this is a premise. The card (YthgjiibbmkiplaaGreatDoorCards.lean) ties it to the program's text. -/
def laid_louvre_val_words {H : Type} : DataW H := .agg [.lit (.string []), .lit (.string [35, 68, 73, 86, 47, 48, 33]), .lit (.string [35, 86, 65, 76, 85, 69, 33]), .lit (.string [35, 78, 85, 77, 33]), .lit (.string [35, 78, 47, 65]), .lit (.string [35, 82, 69, 70, 33]), .lit (.string [35, 67, 89, 67, 76, 69, 33]), .lit (.string [35, 68, 69, 78, 73, 69, 68])]

/-- 'louvrelaw35.VisibleNames': WHATEVER THE INPUT: true; the input reads as it did. -/
def visibleNamesSpec : ChangeSpec := { name := "visibleNames", fn := fun _ => fun
  | [] => { results := [.lit (.bool true)], args := [] }
  | _ => none }
def visibleNamesRow : OpenClaim := { program := "ythgjiibbmkiplaagreatdoor", sum := "8d4cd3fe185b3a45ec5ae576931be793d4bff1fb22599ee0418a93b2acdb3256", func := "louvre/louvrelaw35.VisibleNames", spec := "visibleNames", unfollowed := true, recurses := true, named := ["louvre/val.words"], plainKeys := false, apart := false, laid := [("louvre/val.words", laid_louvre_val_words)] }
def VisibleNamesSaid : Prop := visibleNamesRow.holds Tryz.pinned (OpenSpec.ofChange visibleNamesSpec)

/-- ITS FALSE NEIGHBOUR: 'it returns false'. Refute it at one input. -/
def visibleNamesWrong : ChangeSpec := { name := "visibleNames", fn := fun _ => fun
  | [] => { results := [.lit (.bool false)], args := [] }
  | _ => none }
def VisibleNamesWrongFalsely : Prop := visibleNamesRow.holds Tryz.pinned (OpenSpec.ofChange visibleNamesWrong)

/-- 'louvrelaw40.WhyAgrees': WHATEVER THE INPUT: true; the input reads as it did. -/
def whyAgreesSpec : ChangeSpec := { name := "whyAgrees", fn := fun _ => fun
  | [d1, d2, d3, d4] => { results := [.lit (.bool true)], args := [d1, d2, d3, d4] }
  | _ => none }
def whyAgreesRow : OpenClaim := { program := "ythgjiibbmkiplaagreatdoor", sum := "8d4cd3fe185b3a45ec5ae576931be793d4bff1fb22599ee0418a93b2acdb3256", func := "louvre/louvrelaw40.WhyAgrees", spec := "whyAgrees", unfollowed := true, recurses := true, named := ["louvre/val.words"], plainKeys := false, apart := false, laid := [("louvre/val.words", laid_louvre_val_words)] }
def WhyAgreesSaid : Prop := whyAgreesRow.holds Tryz.pinned (OpenSpec.ofChange whyAgreesSpec)

/-- ITS FALSE NEIGHBOUR: 'it returns false'. Refute it at one input. -/
def whyAgreesWrong : ChangeSpec := { name := "whyAgrees", fn := fun _ => fun
  | [d1, d2, d3, d4] => { results := [.lit (.bool false)], args := [d1, d2, d3, d4] }
  | _ => none }
def WhyAgreesWrongFalsely : Prop := whyAgreesRow.holds Tryz.pinned (OpenSpec.ofChange whyAgreesWrong)

/-- 'louvrelaw40.WhyShort': WHATEVER THE INPUT: true; the input reads as it did. -/
def whyShortSpec : ChangeSpec := { name := "whyShort", fn := fun _ => fun
  | [d1, d2, d3, d4] => { results := [.lit (.bool true)], args := [d1, d2, d3, d4] }
  | _ => none }
def whyShortRow : OpenClaim := { program := "ythgjiibbmkiplaagreatdoor", sum := "8d4cd3fe185b3a45ec5ae576931be793d4bff1fb22599ee0418a93b2acdb3256", func := "louvre/louvrelaw40.WhyShort", spec := "whyShort", unfollowed := true, recurses := true, named := ["louvre/val.words"], plainKeys := false, apart := false, laid := [("louvre/val.words", laid_louvre_val_words)] }
def WhyShortSaid : Prop := whyShortRow.holds Tryz.pinned (OpenSpec.ofChange whyShortSpec)

/-- ITS FALSE NEIGHBOUR: 'it returns false'. Refute it at one input. -/
def whyShortWrong : ChangeSpec := { name := "whyShort", fn := fun _ => fun
  | [d1, d2, d3, d4] => { results := [.lit (.bool false)], args := [d1, d2, d3, d4] }
  | _ => none }
def WhyShortWrongFalsely : Prop := whyShortRow.holds Tryz.pinned (OpenSpec.ofChange whyShortWrong)

/-- 'louvrelaw40.WhyCovers': WHATEVER THE INPUT: true; the input reads as it did. -/
def whyCoversSpec : ChangeSpec := { name := "whyCovers", fn := fun _ => fun
  | [d1, d2, d3] => { results := [.lit (.bool true)], args := [d1, d2, d3] }
  | _ => none }
def whyCoversRow : OpenClaim := { program := "ythgjiibbmkiplaagreatdoor", sum := "8d4cd3fe185b3a45ec5ae576931be793d4bff1fb22599ee0418a93b2acdb3256", func := "louvre/louvrelaw40.WhyCovers", spec := "whyCovers", unfollowed := true, recurses := true, named := ["louvre/val.words"], plainKeys := false, apart := false, laid := [("louvre/val.words", laid_louvre_val_words)] }
def WhyCoversSaid : Prop := whyCoversRow.holds Tryz.pinned (OpenSpec.ofChange whyCoversSpec)

/-- ITS FALSE NEIGHBOUR: 'it returns false'. Refute it at one input. -/
def whyCoversWrong : ChangeSpec := { name := "whyCovers", fn := fun _ => fun
  | [d1, d2, d3] => { results := [.lit (.bool false)], args := [d1, d2, d3] }
  | _ => none }
def WhyCoversWrongFalsely : Prop := whyCoversRow.holds Tryz.pinned (OpenSpec.ofChange whyCoversWrong)

/-- 'louvrelaw40.WhyExact': WHATEVER THE INPUT: true; the input reads as it did. -/
def whyExactSpec : ChangeSpec := { name := "whyExact", fn := fun _ => fun
  | [d1, d2, d3, d4] => { results := [.lit (.bool true)], args := [d1, d2, d3, d4] }
  | _ => none }
def whyExactRow : OpenClaim := { program := "ythgjiibbmkiplaagreatdoor", sum := "8d4cd3fe185b3a45ec5ae576931be793d4bff1fb22599ee0418a93b2acdb3256", func := "louvre/louvrelaw40.WhyExact", spec := "whyExact", unfollowed := true, recurses := true, named := ["louvre/val.words"], plainKeys := false, apart := false, laid := [("louvre/val.words", laid_louvre_val_words)] }
def WhyExactSaid : Prop := whyExactRow.holds Tryz.pinned (OpenSpec.ofChange whyExactSpec)

/-- ITS FALSE NEIGHBOUR: 'it returns false'. Refute it at one input. -/
def whyExactWrong : ChangeSpec := { name := "whyExact", fn := fun _ => fun
  | [d1, d2, d3, d4] => { results := [.lit (.bool false)], args := [d1, d2, d3, d4] }
  | _ => none }
def WhyExactWrongFalsely : Prop := whyExactRow.holds Tryz.pinned (OpenSpec.ofChange whyExactWrong)

/- THE SECOND FORM. 'bulk': how many values and letters a reading holds, each counted each time it is reached (what is shared counts as often as it is met; a slice's spare places count too). A statement '..UptoSaid' is the law's where the arguments, and the package variables that the reading takes, are together of bulk at most 1048576: NARROWER than '..Said'. Prove '..Said' where nothing that the law and all that it calls make is longer than what came in: it says more and counts as full. Else prove '..UptoSaid'. A law counts once. -/
mutual
def uptoBulk {H : Type} : DataW H → Nat
  | .lit (.string bytes) => bytes.length + 1
  | .lit _ => 1
  | .nil => 1
  | .ptr d => uptoBulk d + 1
  | .slice elems spare => uptoBulkAll elems + uptoBulkAll spare + 1
  | .agg parts => uptoBulkAll parts + 1
  | .iface _ d => uptoBulk d + 1
  | .map entries => uptoBulkEntries entries + 1
  | .held _ => 1
def uptoBulkAll {H : Type} : List (DataW H) → Nat
  | [] => 0
  | d :: r => uptoBulk d + uptoBulkAll r
def uptoBulkEntries {H : Type} : List (Lit × DataW H) → Nat
  | [] => 0
  | x :: r => uptoBulkEntry x + uptoBulkEntries r
def uptoBulkEntry {H : Type} : Lit × DataW H → Nat
  | (.string bytes, d) => bytes.length + uptoBulk d + 1
  | (_, d) => uptoBulk d + 1
 end
def uptoSmall : (H : Type) → List (DataW H) → Bool := fun _ ds => decide (uptoBulkAll ds ≤ 1048576)
def OpenSpec.upto (s : _root_.Go.ChangeSpec) : _root_.Go.OpenSpec := { _root_.Go.OpenSpec.ofChange s with cond := some uptoSmall }

/-- 'louvrelaw35.VisibleNames', WHERE WHAT IT READS IS OF BULK AT MOST 1048576: true; the input reads as it did. -/
def visibleNamesUptoRow : OpenClaim := { program := "ythgjiibbmkiplaagreatdoor", sum := "8d4cd3fe185b3a45ec5ae576931be793d4bff1fb22599ee0418a93b2acdb3256", func := "louvre/louvrelaw35.VisibleNames", spec := "visibleNames", unfollowed := true, recurses := true, named := ["louvre/val.words"], plainKeys := false, apart := false, laid := [("louvre/val.words", laid_louvre_val_words)], narrowed := true }
def VisibleNamesUptoSaid : Prop := visibleNamesUptoRow.holds Tryz.pinned (OpenSpec.upto visibleNamesSpec)

/-- 'louvrelaw40.WhyAgrees', WHERE WHAT IT READS IS OF BULK AT MOST 1048576: true; the input reads as it did. -/
def whyAgreesUptoRow : OpenClaim := { program := "ythgjiibbmkiplaagreatdoor", sum := "8d4cd3fe185b3a45ec5ae576931be793d4bff1fb22599ee0418a93b2acdb3256", func := "louvre/louvrelaw40.WhyAgrees", spec := "whyAgrees", unfollowed := true, recurses := true, named := ["louvre/val.words"], plainKeys := false, apart := false, laid := [("louvre/val.words", laid_louvre_val_words)], narrowed := true }
def WhyAgreesUptoSaid : Prop := whyAgreesUptoRow.holds Tryz.pinned (OpenSpec.upto whyAgreesSpec)

/-- 'louvrelaw40.WhyShort', WHERE WHAT IT READS IS OF BULK AT MOST 1048576: true; the input reads as it did. -/
def whyShortUptoRow : OpenClaim := { program := "ythgjiibbmkiplaagreatdoor", sum := "8d4cd3fe185b3a45ec5ae576931be793d4bff1fb22599ee0418a93b2acdb3256", func := "louvre/louvrelaw40.WhyShort", spec := "whyShort", unfollowed := true, recurses := true, named := ["louvre/val.words"], plainKeys := false, apart := false, laid := [("louvre/val.words", laid_louvre_val_words)], narrowed := true }
def WhyShortUptoSaid : Prop := whyShortUptoRow.holds Tryz.pinned (OpenSpec.upto whyShortSpec)

/-- 'louvrelaw40.WhyCovers', WHERE WHAT IT READS IS OF BULK AT MOST 1048576: true; the input reads as it did. -/
def whyCoversUptoRow : OpenClaim := { program := "ythgjiibbmkiplaagreatdoor", sum := "8d4cd3fe185b3a45ec5ae576931be793d4bff1fb22599ee0418a93b2acdb3256", func := "louvre/louvrelaw40.WhyCovers", spec := "whyCovers", unfollowed := true, recurses := true, named := ["louvre/val.words"], plainKeys := false, apart := false, laid := [("louvre/val.words", laid_louvre_val_words)], narrowed := true }
def WhyCoversUptoSaid : Prop := whyCoversUptoRow.holds Tryz.pinned (OpenSpec.upto whyCoversSpec)

/-- 'louvrelaw40.WhyExact', WHERE WHAT IT READS IS OF BULK AT MOST 1048576: true; the input reads as it did. -/
def whyExactUptoRow : OpenClaim := { program := "ythgjiibbmkiplaagreatdoor", sum := "8d4cd3fe185b3a45ec5ae576931be793d4bff1fb22599ee0418a93b2acdb3256", func := "louvre/louvrelaw40.WhyExact", spec := "whyExact", unfollowed := true, recurses := true, named := ["louvre/val.words"], plainKeys := false, apart := false, laid := [("louvre/val.words", laid_louvre_val_words)], narrowed := true }
def WhyExactUptoSaid : Prop := whyExactUptoRow.holds Tryz.pinned (OpenSpec.upto whyExactSpec)

end Rows
end Go.Proofs.YthgjiibbmkiplaaGreatDoor

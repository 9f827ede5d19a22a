/-
  The given card of BookExamples: for every input that its row allows, the call returns true and each argument reads afterwards as it read before. The row's listed variable holds what the program's text lays; the given tie ties it.
-/
import Derived.Test.YthefeclkaaocnaaGreatDoorKb15
import Derived.Test.YthefeclkaaocnaaGreatDoorKb24
namespace Go.Proofs.YthefeclkaaocnaaGreatDoor
open Go Go.ChangeShapes Go.WideShapes Go.ChangeAt Go.RowKit Go.SL

set_option maxRecDepth 100000 in
theorem bookExamples_lifted (os : Os) (started : os.Started) (H : Type) (enc : TypeId × Value → H) :
    ReturnsInHanded {} Tryz.checked os 3 .any (fun w args => (Rows.bookExamplesSpec.pre enc Tryz.prog Tryz.f3 Rows.bookExamplesRow.domain false w args ∧ laidMetH Tryz.prog laidWs w) ∧ sizedMet enc Tryz.prog Tryz.f3 (OpenSpec.ofChange Rows.bookExamplesSpec) false w args)
      (Rows.bookExamplesSpec.post enc Tryz.prog Tryz.f3 false true false false) := by
  refine returnsInHanded_of_change_and (C := Tryz.checked) (X := fun w _ => laidMetH Tryz.prog laidWs w) (fun _ _ _ hh h => h.of_heap hh) Try_own started (by kernel_rfl) Tryz.func3
    (ChangeSpec.witness_shaped (enc := enc) (C := Tryz.checked) (os := os) (X := fun w _ => laidMetH Tryz.prog laidWs w) false (World.laidAll Tryz.prog os laidWs) #[] 8 (World.laidAll_os _ _ _)
      (World.shaped_of_ZipB (by kernel_rfl) (by kernel_rfl)) (by kernel_rfl) (by kernel_rfl) (by kernel_rfl)
      (by rw [MakeChecks.laidMetH_plain _ _ _ (by kernel_rfl)]; exact laidMet_laidAll _ (by kernel_rfl) (by kernel_rfl))) ?_
  intro W base args ds gs before hval0 hW hcnd hsz hLd _
  have hval : ∀ (j : Nat) t v, Tryz.f3.params[j]? = some t → args[j]? = some v → Value.okWide Tryz.prog W .any base t v := hval0
  have hWd := words_of_laid hLd
  have hW' := hW
  obtain ⟨p, q, hA0, hV, rfl, hfz, hnd⟩ := hW
  have hA : DataW.TrodAll enc Tryz.prog W 0 (fun _ => true) true Tryz.f3.params.toList args.toList ds p := hA0
  rw [Tryz.params3] at hA hval
  obtain ⟨rfl, rfl, rfl⟩ := trodAll_none hA
  obtain ⟨rfl, rfl⟩ := trodVars_none hV
  clear hcnd
  clear hsz
  clear hA0 hval0
  simp only [List.append_nil] at hW'
  refine Calls.mono (BookExamples_at W hWd) ?_
  rintro e W' ⟨v, H', rfl, hm, rfl⟩
  exact ⟨_, rfl, post_of_below (pa := []) (pv := []) hW' (fun _ _ _ => trodAll_mk1 (shut_bool Tryz.underlying4 true))
    (fun sp hsp => trodAll_mk0)
    (fun _ _ => rfl) (by simp) hm.below (ok_one (by kernel_rfl) rfl (okWide_bool_mk Tryz.underlying4 true))⟩

theorem bookExamples_f1 : (Rows.bookExamplesRow.inPlace == Tryz.pinned.checked.prog.inPlace 3) = true := by kernel_rfl
theorem bookExamples_f2 : (Rows.bookExamplesRow.unfollowed == Tryz.pinned.checked.prog.unfollowed 3) = true := by kernel_rfl
theorem bookExamples_f3 : (Rows.bookExamplesRow.recurses == Tryz.pinned.checked.prog.recurses 3) = true := by kernel_rfl
theorem bookExamples_f4 : (Rows.bookExamplesRow.named == Tryz.pinned.checked.prog.varsNamed 3) = true := by kernel_rfl
theorem bookExamples_f5 : mapsRowed Tryz.pinned.checked.prog = true := by kernel_rfl
theorem bookExamples_f6 : laidOutB Tryz.pinned.checked.prog = true := Try_laidOut
set_option maxRecDepth 100000 in
theorem bookExamples_facts : joinedFacts Tryz.pinned.checked.prog 3 Tryz.f3 Rows.bookExamplesSpec Rows.bookExamplesRow = true := by
  unfold joinedFacts
  rw [bookExamples_f1, bookExamples_f2, bookExamples_f3, bookExamples_f4, bookExamples_f5, bookExamples_f6]
  kernel_rfl
theorem bookExamples_goes : false = Rows.bookExamplesRow.goesBy Tryz.pinned.checked.prog := by kernel_rfl
theorem bookExamples_stand : (([] : List Nat).all fun u => !Tryz.prog.wantsStandIn u) = true := by kernel_rfl

theorem bookExamples_holds : Rows.BookExamplesSaid :=
  OpenClaim.holds_of_wide 3 Tryz.f3 rfl rfl rfl rfl rfl rfl rfl ⟨rfl, rfl, rfl, rfl, rfl⟩ rfl rfl rfl rfl rfl (by kernel_rfl) Tryz.func3 bookExamples_facts
    (of_decide_eq_true (by kernel_rfl)) (by unfold Func.isWrapper; first | (rw [if_pos (by decide +kernel)]; kernel_rfl) | (rw [if_neg (by decide +kernel)]; exact ⟨rfl, rfl⟩))
    (fun os started H enc _ => bookExamples_lifted os started H enc)

theorem bookExamples_card_holds : Rows.BookExamplesCardSaid :=
  Claim7.holds_tied_plain_at .later [] [.data] true (true, "5d27a65236db43743fdcf343a1e4647ad0ae3f8110dc6a117830f1b97844653f") true
    bookExamples_holds (fun _ h => by cases h) (by kernel_rfl) (fun _ h => by cases h) bookExamples_row_tie rfl ⟨rfl, rfl⟩ (by kernel_rfl) rfl
    (fun f fn hf hfn => by
      obtain rfl : f = 3 := Option.some.inj ((show Tryz.prog.funcNamed "louvre/louvrelaw31.BookExamples" = some 3 by kernel_rfl).symm.trans hf) |>.symm
      obtain rfl : fn = Tryz.f3 := (Option.some.inj (Tryz.func3.symm.trans hfn)).symm
      exact ⟨by kernel_rfl, fun j t ht => by
        rw [Tryz.params3] at ht
        simp at ht⟩)
    bookExamples_goes

end Go.Proofs.YthefeclkaaocnaaGreatDoor

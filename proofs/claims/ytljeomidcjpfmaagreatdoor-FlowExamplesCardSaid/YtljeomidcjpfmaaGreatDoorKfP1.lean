/-
  The given card of FlowExamples: for every input that its row allows, the call returns true and each argument reads afterwards as it read before. The row's listed variable holds what the program's text lays; the given tie ties it.
-/
import Derived.Test.YtljeomidcjpfmaaGreatDoorKf17
import Derived.Test.YtljeomidcjpfmaaGreatDoorKf25
namespace Go.Proofs.YtljeomidcjpfmaaGreatDoor
open Go Go.ChangeShapes Go.WideShapes Go.ChangeAt Go.RowKit Go.SL

set_option maxRecDepth 100000 in
theorem flowExamples_lifted (os : Os) (started : os.Started) (H : Type) (enc : TypeId × Value → H) :
    ReturnsInHanded {} Tryz.checked os 7 .any (fun w args => (Rows.flowExamplesSpec.pre enc Tryz.prog Tryz.f7 Rows.flowExamplesRow.domain false w args ∧ laidMetH Tryz.prog laidWs w) ∧ sizedMet enc Tryz.prog Tryz.f7 (OpenSpec.ofChange Rows.flowExamplesSpec) false w args)
      (Rows.flowExamplesSpec.post enc Tryz.prog Tryz.f7 false true false false) := by
  refine returnsInHanded_of_change_and (C := Tryz.checked) (X := fun w _ => laidMetH Tryz.prog laidWs w) (fun _ _ _ hh h => h.of_heap hh) Try_own started (by kernel_rfl) Tryz.func7
    (ChangeSpec.witness_shaped (enc := enc) (C := Tryz.checked) (os := os) (X := fun w _ => laidMetH Tryz.prog laidWs w) false (World.laidAll Tryz.prog os laidWs) #[] 8 (World.laidAll_os _ _ _)
      (World.shaped_of_ZipB (by kernel_rfl) (by kernel_rfl)) (by kernel_rfl) (by kernel_rfl) (by kernel_rfl)
      (by rw [MakeChecks.laidMetH_plain _ _ _ (by kernel_rfl)]; exact laidMet_laidAll _ (by kernel_rfl) (by kernel_rfl))) ?_
  intro W base args ds gs before hval0 hW hcnd _ hLd _
  have hval : ∀ (j : Nat) t v, Tryz.f7.params[j]? = some t → args[j]? = some v → Value.okWide Tryz.prog W .any base t v := hval0
  have hWd := words_of_laid hLd
  have hW' := hW
  obtain ⟨p, q, hA0, hV, rfl, hfz, hnd⟩ := hW
  have hA : DataW.TrodAll enc Tryz.prog W 0 (fun _ => true) true Tryz.f7.params.toList args.toList ds p := hA0
  rw [Tryz.params7] at hA hval
  obtain ⟨rfl, rfl, rfl⟩ := trodAll_none hA
  obtain ⟨rfl, rfl⟩ := trodVars_none hV
  clear hcnd
  clear hA0 hval0
  simp only [List.append_nil] at hW'
  refine Calls.mono (FlowExamples_at W hWd) ?_
  rintro e W' ⟨v, H', rfl, hm, rfl⟩
  exact ⟨_, rfl, post_of_below (pa := []) (pv := []) hW' (fun _ _ _ => trodAll_mk1 (shut_bool Tryz.underlying4 true))
    (fun sp hsp => trodAll_mk0)
    (fun _ _ => rfl) (by simp) hm.below (ok_one (by kernel_rfl) rfl (okWide_bool_mk Tryz.underlying4 true))⟩

theorem flowExamples_f1 : (Rows.flowExamplesRow.inPlace == Tryz.pinned.checked.prog.inPlace 7) = true := by kernel_rfl
theorem flowExamples_f2 : (Rows.flowExamplesRow.unfollowed == Tryz.pinned.checked.prog.unfollowed 7) = true := by kernel_rfl
theorem flowExamples_f3 : (Rows.flowExamplesRow.recurses == Tryz.pinned.checked.prog.recurses 7) = true := by kernel_rfl
theorem flowExamples_f4 : (Rows.flowExamplesRow.named == Tryz.pinned.checked.prog.varsNamed 7) = true := by kernel_rfl
set_option maxRecDepth 100000 in
theorem flowExamples_facts : joinedFacts Tryz.pinned.checked.prog 7 Tryz.f7 Rows.flowExamplesSpec Rows.flowExamplesRow = true := by
  unfold joinedFacts
  rw [flowExamples_f1, flowExamples_f2, flowExamples_f3, flowExamples_f4]
  kernel_rfl
theorem flowExamples_goes : false = Rows.flowExamplesRow.goesBy Tryz.pinned.checked.prog := by kernel_rfl
theorem flowExamples_stand : (([] : List Nat).all fun u => !Tryz.prog.wantsStandIn u) = true := by kernel_rfl

theorem flowExamples_holds : Rows.FlowExamplesSaid :=
  OpenClaim.holds_of_wide 7 Tryz.f7 rfl rfl rfl rfl rfl rfl rfl ⟨rfl, rfl, rfl, rfl, rfl⟩ rfl rfl rfl rfl rfl (by kernel_rfl) Tryz.func7 flowExamples_facts
    (of_decide_eq_true (by kernel_rfl)) (by unfold Func.isWrapper; first | (rw [if_pos (by decide +kernel)]; kernel_rfl) | (rw [if_neg (by decide +kernel)]; exact ⟨rfl, rfl⟩))
    (fun os started H enc _ => flowExamples_lifted os started H enc)

theorem flowExamples_card_holds : Rows.FlowExamplesCardSaid :=
  Claim7.holds_tied_plain_at .later [] [.data] true (true, "6f895288220831aa6b35639958064a1ebe3ffb384e1a584035852b3ce119bc8a") true
    flowExamples_holds (fun _ h => by cases h) (by kernel_rfl) (fun _ h => by cases h) flowExamples_row_tie rfl ⟨rfl, rfl⟩ (by kernel_rfl) rfl
    (fun f fn hf hfn => by
      obtain rfl : f = 7 := Option.some.inj ((show Tryz.prog.funcNamed "louvre/louvrelaw27.FlowExamples" = some 7 by kernel_rfl).symm.trans hf) |>.symm
      obtain rfl : fn = Tryz.f7 := (Option.some.inj (Tryz.func7.symm.trans hfn)).symm
      exact ⟨by kernel_rfl, fun j t ht => by
        rw [Tryz.params7] at ht
        simp at ht⟩)
    flowExamples_goes

end Go.Proofs.YtljeomidcjpfmaaGreatDoor

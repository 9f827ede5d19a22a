/-
  The given card of CycleNames: for every input that its row allows, the call returns true and each argument reads afterwards as it read dS. The row's listed variable holds what the program's text lays; the given tie ties it.
-/
import Derived.Test.YtpoafcnhplbkmaaGreatDoorKt12
import Derived.Test.YtpoafcnhplbkmaaGreatDoorKt18
namespace Go.Proofs.YtpoafcnhplbkmaaGreatDoor
open Go Go.ChangeShapes Go.WideShapes Go.ChangeAt Go.RowKit Go.SL

set_option maxRecDepth 100000 in
theorem lO (os : Os) (started : os.Started) (H : Type) (enc : TypeId × Value → H) :
    ReturnsInHanded {} Tryz.checked os 3 .any (fun w args => (Rows.cycleNamesSpec.pre enc Tryz.prog Tryz.f3 Rows.cycleNamesRow.domain false w args ∧ laidMetH Tryz.prog px w) ∧ sizedMet enc Tryz.prog Tryz.f3 (OpenSpec.ofChange Rows.cycleNamesSpec) false w args)
      (Rows.cycleNamesSpec.post enc Tryz.prog Tryz.f3 false true false false) := by
  refine returnsInHanded_of_change_and (C := Tryz.checked) (X := fun w _ => laidMetH Tryz.prog px w) (fun _ _ _ hh h => h.of_heap hh) Fe started (by kernel_rfl) Tryz.func3
    (ChangeSpec.witness_shaped (enc := enc) (C := Tryz.checked) (os := os) (X := fun w _ => laidMetH Tryz.prog px w) false (World.laidAll Tryz.prog os px) #[] 8 (World.laidAll_os _ _ _)
      (World.shaped_of_ZipB (by kernel_rfl) (by kernel_rfl)) (by kernel_rfl) (by kernel_rfl) (by kernel_rfl)
      (by rw [MakeChecks.laidMetH_plain _ _ _ (by kernel_rfl)]; exact laidMet_laidAll _ (by kernel_rfl) (by kernel_rfl))) ?_
  intro W base args ds gs dS hval0 hW hcnd hsz hLd _
  have hval : ∀ (j : Nat) t v, Tryz.f3.params[j]? = some t → args[j]? = some v → Value.okWide Tryz.prog W .any base t v := hval0
  have hWd := p8 hLd
  have hW' := hW
  obtain ⟨p, q, hA0, hV, rfl, hfz, hnd⟩ := hW
  have hA : DataW.TrodAll enc Tryz.prog W 0 (fun _ => true) true Tryz.f3.params.toList args.toList ds p := hA0
  rw [Tryz.params3] at hA hval
  obtain ⟨rfl, rfl, rfl⟩ := trodAll_none hA
  obtain ⟨rfl, rfl⟩ := trodVars_none hV
  clear hcnd
  clear hsz
  clear hA0 hval0
  simp only [I3] at hW'
  refine Calls.mono (qy W hWd) ?_
  rintro e W' ⟨v, H', rfl, hm, rfl⟩
  exact ⟨_, rfl, qh (pa := []) (pv := []) hW' (fun _ _ _ => trodAll_mk1 (shut_bool Tryz.underlying4 true))
    (fun sp hsp => trodAll_mk0)
    (fun _ _ => rfl) (by simp) hm.below (ok_one (by kernel_rfl) rfl (okWide_bool_mk Tryz.underlying4 true))⟩

theorem qx : (Rows.cycleNamesRow.inPlace == Tryz.pinned.checked.prog.inPlace 3) = true := by kernel_rfl
theorem qw : (Rows.cycleNamesRow.unfollowed == Tryz.pinned.checked.prog.unfollowed 3) = true := by kernel_rfl
theorem qu : (Rows.cycleNamesRow.recurses == Tryz.pinned.checked.prog.recurses 3) = true := by kernel_rfl
theorem qt : (Rows.cycleNamesRow.named == Tryz.pinned.checked.prog.varsNamed 3) = true := by kernel_rfl
theorem qq : mapsRowed Tryz.pinned.checked.prog = true := by kernel_rfl
theorem qp : laidOutB Tryz.pinned.checked.prog = true := wq
set_option maxRecDepth 100000 in
theorem mH : joinedFacts Tryz.pinned.checked.prog 3 Tryz.f3 Rows.cycleNamesSpec Rows.cycleNamesRow = true := by
  unfold joinedFacts
  rw [qx, qw, qu, qt, qq, qp]
  kernel_rfl
theorem nE : false = Rows.cycleNamesRow.goesBy Tryz.pinned.checked.prog := by kernel_rfl
theorem AR : (([] : List Nat).all fun u => !Tryz.prog.wantsStandIn u) = true := by kernel_rfl

theorem mG : Rows.CycleNamesSaid :=
  OpenClaim.holds_of_wide 3 Tryz.f3 rfl rfl rfl rfl rfl rfl rfl ⟨rfl, rfl, rfl, rfl, rfl⟩ rfl rfl rfl rfl rfl (by kernel_rfl) Tryz.func3 mH
    (of_decide_eq_true (by kernel_rfl)) (by unfold Func.isWrapper; first | (rw [if_pos (by decide +kernel)]; kernel_rfl) | (rw [if_neg (by decide +kernel)]; exact ⟨rfl, rfl⟩))
    (fun os started H enc _ => lO os started H enc)

theorem tJ : Rows.CycleNamesCardSaid :=
  Claim7.holds_tied_plain_at .later [] [.data] true (true, "547546211ca97e268ef082bb2fc139c6313c06bfbf265a1964e786b192fa54a6") true
    mG (fun _ h => by cases h) (by kernel_rfl) (fun _ h => by cases h) cycleNames_row_tie rfl ⟨rfl, rfl⟩ (by kernel_rfl) rfl
    (fun f fn hf hfn => by
      obtain rfl : f = 3 := Option.some.inj ((show Tryz.prog.funcNamed "louvre/louvrelaw26.CycleNames" = some 3 by kernel_rfl).symm.trans hf) |>.symm
      obtain rfl : fn = Tryz.f3 := (Option.some.inj (Tryz.func3.symm.trans hfn)).symm
      exact ⟨by kernel_rfl, fun j t ht => by
        rw [Tryz.params3] at ht
        simp at ht⟩)
    nE

end Go.Proofs.YtpoafcnhplbkmaaGreatDoor

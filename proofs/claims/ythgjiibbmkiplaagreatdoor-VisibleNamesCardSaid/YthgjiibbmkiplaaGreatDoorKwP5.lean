/-
  The given card of VisibleNames: for every input that its row allows, the call returns true and each argument reads afterwards as it read before. The row's listed variable holds what the program's text lays; the given tie ties it.
-/
import Derived.Test.YthgjiibbmkiplaaGreatDoorKw51
namespace Go.Proofs.YthgjiibbmkiplaaGreatDoor
open Go Go.ChangeShapes Go.WideShapes Go.ChangeAt Go.RowKit Go.SL

set_option maxRecDepth 100000 in
theorem qC (os : Os) (started : os.Started) (H : Type) (enc : TypeId × Value → H) :
    ReturnsInHanded {} Tryz.checked os 3 .any (fun w args => (Rows.visibleNamesSpec.pre enc Tryz.prog Tryz.f3 Rows.visibleNamesRow.domain false w args ∧ laidMetH Tryz.prog dW w) ∧ sizedMet enc Tryz.prog Tryz.f3 (OpenSpec.ofChange Rows.visibleNamesSpec) false w args)
      (Rows.visibleNamesSpec.post enc Tryz.prog Tryz.f3 false true false false) := by
  refine returnsInHanded_of_change_and (C := Tryz.checked) (X := fun w _ => laidMetH Tryz.prog dW w) (fun _ _ _ hh h => h.of_heap hh) tW started (by kernel_rfl) Tryz.func3
    (ChangeSpec.witness_shaped (enc := enc) (C := Tryz.checked) (os := os) (X := fun w _ => laidMetH Tryz.prog dW w) false (World.laidAll Tryz.prog os dW) #[] 8 (World.laidAll_os _ _ _)
      (World.shaped_of_ZipB (by kernel_rfl) (by kernel_rfl)) (by kernel_rfl) (by kernel_rfl) (by kernel_rfl)
      (by rw [MakeChecks.laidMetH_plain _ _ _ (by kernel_rfl)]; exact laidMet_laidAll _ (by kernel_rfl) (by kernel_rfl))) ?_
  intro W base args ds gs before hval0 hW hcnd hsz hLd _
  have hval : ∀ (j : Nat) t v, Tryz.f3.params[j]? = some t → args[j]? = some v → Value.okWide Tryz.prog W .any base t v := hval0
  have hWd := gQ hLd
  have hW' := hW
  obtain ⟨p, q, hA0, hV, rfl, hfz, hnd⟩ := hW
  have hA : DataW.TrodAll enc Tryz.prog W 0 (fun _ => true) true Tryz.f3.params.toList args.toList ds p := hA0
  rw [Tryz.params3] at hA hval
  obtain ⟨rfl, rfl, rfl⟩ := trodAll_none hA
  obtain ⟨rfl, rfl⟩ := trodVars_none hV
  clear hcnd
  clear hsz
  clear hA0 hval0
  simp only [Xm] at hW'
  refine Calls.mono (wO W hWd) ?_
  rintro e W' ⟨v, H', rfl, hm, rfl⟩
  exact ⟨_, rfl, gT (pa := []) (pv := []) hW' (fun _ _ _ => trodAll_mk1 (shut_bool Tryz.underlying4 true))
    (fun sp hsp => trodAll_mk0)
    (fun _ _ => rfl) (by simp) hm.below (ok_one (by kernel_rfl) rfl (okWide_bool_mk Tryz.underlying4 true))⟩

theorem wE : (Rows.visibleNamesRow.inPlace == Tryz.pinned.checked.prog.inPlace 3) = true := by kernel_rfl
theorem wD : (Rows.visibleNamesRow.unfollowed == Tryz.pinned.checked.prog.unfollowed 3) = true := by kernel_rfl
theorem wC : (Rows.visibleNamesRow.recurses == Tryz.pinned.checked.prog.recurses 3) = true := by kernel_rfl
theorem wB : (Rows.visibleNamesRow.named == Tryz.pinned.checked.prog.varsNamed 3) = true := by kernel_rfl
theorem wA : mapsRowed Tryz.pinned.checked.prog = true := by kernel_rfl
theorem wz : laidOutB Tryz.pinned.checked.prog = true := bC
set_option maxRecDepth 100000 in
theorem rz : joinedFacts Tryz.pinned.checked.prog 3 Tryz.f3 Rows.visibleNamesSpec Rows.visibleNamesRow = true := by
  unfold joinedFacts
  rw [wE, wD, wC, wB, wA, wz]
  kernel_rfl
theorem sq : false = Rows.visibleNamesRow.goesBy Tryz.pinned.checked.prog := o6 (P := Tryz.prog) (by kernel_rfl) _
theorem H4 : (([] : List Nat).all fun u => !Tryz.prog.wantsStandIn u) = true := by kernel_rfl

theorem ry : Rows.VisibleNamesSaid :=
  OpenClaim.holds_of_wide 3 Tryz.f3 rfl rfl rfl rfl rfl rfl rfl ⟨rfl, rfl, rfl, rfl, rfl⟩ rfl rfl rfl rfl rfl (by kernel_rfl) Tryz.func3 rz
    (of_decide_eq_true (by kernel_rfl)) (by unfold Func.isWrapper; first | (rw [if_pos (by decide +kernel)]; kernel_rfl) | (rw [if_neg (by decide +kernel)]; exact ⟨rfl, rfl⟩))
    (fun os started H enc _ => qC os started H enc)

theorem zY : Rows.VisibleNamesCardSaid :=
  Claim7.holds_tied_plain_at .later [] [.data] true (true, "6a93ec261334ab35d843de081f4d41d196502952b01acf77b09caa339a40ede3") true
    ry (fun _ h => by cases h) (by kernel_rfl) (fun _ h => by cases h) visibleNames_row_tie rfl ⟨rfl, rfl⟩ (by kernel_rfl) rfl
    (fun f fn hf hfn => by
      obtain rfl : f = 3 := Option.some.inj ((show Tryz.prog.funcNamed "louvre/louvrelaw35.VisibleNames" = some 3 by kernel_rfl).symm.trans hf) |>.symm
      obtain rfl : fn = Tryz.f3 := (Option.some.inj (Tryz.func3.symm.trans hfn)).symm
      exact ⟨by kernel_rfl, fun j t ht => by
        rw [Tryz.params3] at ht
        simp at ht⟩)
    sq

end Go.Proofs.YthgjiibbmkiplaaGreatDoor

/-
  The given card of ReleaseExamples: for every input that its row allows, the call returns true and each argument reads afterwards as it read before. The row's listed variable holds what the program's text lays; the given tie ties it.
-/
import Derived.Test.YtoanpdoacdpgeaaGreatDoorKr11
import Derived.Test.YtoanpdoacdpgeaaGreatDoorKr18
namespace Go.Proofs.YtoanpdoacdpgeaaGreatDoor
open Go Go.ChangeShapes Go.WideShapes Go.ChangeAt Go.RowKit Go.SL

set_option maxRecDepth 100000 in
theorem iL (os : Os) (started : os.Started) (H : Type) (enc : TypeId × Value → H) :
    ReturnsInHanded {} Tryz.checked os 6 .any (fun w args => (Rows.releaseExamplesSpec.pre enc Tryz.prog Tryz.f6 Rows.releaseExamplesRow.domain false w args ∧ laidMetH Tryz.prog pu w) ∧ sizedMet enc Tryz.prog Tryz.f6 (OpenSpec.ofChange Rows.releaseExamplesSpec) false w args)
      (Rows.releaseExamplesSpec.post enc Tryz.prog Tryz.f6 false true false false) := by
  refine returnsInHanded_of_change_and (C := Tryz.checked) (X := fun w _ => laidMetH Tryz.prog pu w) (fun _ _ _ hh h => h.of_heap hh) EK started (by kernel_rfl) Tryz.func6
    (ChangeSpec.witness_shaped (enc := enc) (C := Tryz.checked) (os := os) (X := fun w _ => laidMetH Tryz.prog pu w) false (World.laidAll Tryz.prog os pu) #[] 8 (World.laidAll_os _ _ _)
      (World.shaped_of_ZipB (by kernel_rfl) (by kernel_rfl)) (by kernel_rfl) (by kernel_rfl) (by kernel_rfl)
      (by rw [MakeChecks.laidMetH_plain _ _ _ (by kernel_rfl)]; exact laidMet_laidAll _ (by kernel_rfl) (by kernel_rfl))) ?_
  intro W base args ds gs before hval0 hW hcnd hsz hLd _
  have hval : ∀ (j : Nat) t v, Tryz.f6.params[j]? = some t → args[j]? = some v → Value.okWide Tryz.prog W .any base t v := hval0
  have hWd := qd hLd
  have hW' := hW
  obtain ⟨p, q, hA0, hV, rfl, hfz, hnd⟩ := hW
  have hA : DataW.TrodAll enc Tryz.prog W 0 (fun _ => true) true Tryz.f6.params.toList args.toList ds p := hA0
  rw [Tryz.params6] at hA hval
  obtain ⟨rfl, rfl, rfl⟩ := trodAll_none hA
  obtain ⟨rfl, rfl⟩ := trodVars_none hV
  clear hcnd
  clear hsz
  clear hA0 hval0
  simp only [Ig] at hW'
  refine Calls.mono (kS W hWd) ?_
  rintro e W' ⟨v, H', rfl, hm, rfl⟩
  exact ⟨_, rfl, qk (pa := []) (pv := []) hW' (fun _ _ _ => trodAll_mk1 (shut_bool Tryz.underlying4 true))
    (fun sp hsp => trodAll_mk0)
    (fun _ _ => rfl) (by simp) hm.below (ok_one (by kernel_rfl) rfl (okWide_bool_mk Tryz.underlying4 true))⟩

theorem kD : (Rows.releaseExamplesRow.inPlace == Tryz.pinned.checked.prog.inPlace 6) = true := by kernel_rfl
theorem kC : (Rows.releaseExamplesRow.unfollowed == Tryz.pinned.checked.prog.unfollowed 6) = true := by kernel_rfl
theorem kB : (Rows.releaseExamplesRow.recurses == Tryz.pinned.checked.prog.recurses 6) = true := by kernel_rfl
theorem kA : (Rows.releaseExamplesRow.named == Tryz.pinned.checked.prog.varsNamed 6) = true := by kernel_rfl
theorem kz : mapsRowed Tryz.pinned.checked.prog = true := by kernel_rfl
theorem ky : laidOutB Tryz.pinned.checked.prog = true := vU
set_option maxRecDepth 100000 in
theorem iV : joinedFacts Tryz.pinned.checked.prog 6 Tryz.f6 Rows.releaseExamplesSpec Rows.releaseExamplesRow = true := by
  unfold joinedFacts
  rw [kD, kC, kB, kA, kz, ky]
  kernel_rfl
theorem jg : false = Rows.releaseExamplesRow.goesBy Tryz.pinned.checked.prog := by kernel_rfl
theorem tH : (([] : List Nat).all fun u => !Tryz.prog.wantsStandIn u) = true := by kernel_rfl

theorem iU : Rows.ReleaseExamplesSaid :=
  OpenClaim.holds_of_wide 6 Tryz.f6 rfl rfl rfl rfl rfl rfl rfl ⟨rfl, rfl, rfl, rfl, rfl⟩ rfl rfl rfl rfl rfl (by kernel_rfl) Tryz.func6 iV
    (of_decide_eq_true (by kernel_rfl)) (by unfold Func.isWrapper; first | (rw [if_pos (by decide +kernel)]; kernel_rfl) | (rw [if_neg (by decide +kernel)]; exact ⟨rfl, rfl⟩))
    (fun os started H enc _ => iL os started H enc)

theorem oQ : Rows.ReleaseExamplesCardSaid :=
  Claim7.holds_tied_plain_at .later [] [.data] true (true, "fc3edb6548063e244778e537024da02a2b6624ff068467140e1145bd60a0ba00") true
    iU (fun _ h => by cases h) (by kernel_rfl) (fun _ h => by cases h) releaseExamples_row_tie rfl ⟨rfl, rfl⟩ (by kernel_rfl) rfl
    (fun f fn hf hfn => by
      obtain rfl : f = 6 := Option.some.inj ((show Tryz.prog.funcNamed "louvre/louvrelaw34.ReleaseExamples" = some 6 by kernel_rfl).symm.trans hf) |>.symm
      obtain rfl : fn = Tryz.f6 := (Option.some.inj (Tryz.func6.symm.trans hfn)).symm
      exact ⟨by kernel_rfl, fun j t ht => by
        rw [Tryz.params6] at ht
        simp at ht⟩)
    jg

end Go.Proofs.YtoanpdoacdpgeaaGreatDoor

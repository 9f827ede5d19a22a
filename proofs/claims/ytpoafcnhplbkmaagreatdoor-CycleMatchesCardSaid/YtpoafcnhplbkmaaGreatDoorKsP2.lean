/-
  The given card of CycleMatches: for every input that its row allows, the call returns true and each argument reads afterwards as it read before. The row's listed variable holds what the program's text lays; the given tie ties it.
-/
import Derived.Test.YtpoafcnhplbkmaaGreatDoorKs11
import Derived.Test.YtpoafcnhplbkmaaGreatDoorKs30
namespace Go.Proofs.YtpoafcnhplbkmaaGreatDoor
open Go Go.ChangeShapes Go.WideShapes Go.ChangeAt Go.RowKit Go.SL

set_option maxRecDepth 100000 in
theorem pw (os : Os) (started : os.Started) (H : Type) (enc : TypeId × Value → H) :
    ReturnsInHanded {} Tryz.checked os 4 .any (fun w args => (Rows.cycleMatchesSpec.pre enc Tryz.prog Tryz.f4 Rows.cycleMatchesRow.domain false w args ∧ laidMetH Tryz.prog wR w) ∧ sizedMet enc Tryz.prog Tryz.f4 (OpenSpec.ofChange Rows.cycleMatchesSpec) false w args)
      (Rows.cycleMatchesSpec.post enc Tryz.prog Tryz.f4 false true false false) := by
  refine returnsInHanded_of_change_and (C := Tryz.checked) (X := fun w _ => laidMetH Tryz.prog wR w) (fun _ _ _ hh h => h.of_heap hh) Oh started (by kernel_rfl) Tryz.func4
    (ChangeSpec.witness_shaped (enc := enc) (C := Tryz.checked) (os := os) (X := fun w _ => laidMetH Tryz.prog wR w) false (World.laidAll Tryz.prog os wR) #[.slice none 0 0] 8 (World.laidAll_os _ _ _)
      (World.shaped_of_ZipB (by kernel_rfl) (by kernel_rfl)) (by kernel_rfl) (by kernel_rfl) (by kernel_rfl)
      (by rw [MakeChecks.laidMetH_plain _ _ _ (by kernel_rfl)]; exact laidMet_laidAll _ (by kernel_rfl) (by kernel_rfl))) ?_
  intro W base args ds gs before hval0 hW hcnd hsz hLd _
  have hval : ∀ (j : Nat) t v, Tryz.f4.params[j]? = some t → args[j]? = some v → Value.okWide Tryz.prog W .any base t v := hval0
  have hWd := xM hLd
  have hW' := hW
  obtain ⟨p0, q, hA0, hV, rfl, hfz, hnd⟩ := hW
  have hA : DataW.TrodAll enc Tryz.prog W 0 (fun _ => true) true Tryz.f4.params.toList args.toList ds p0 := hA0
  rw [Tryz.params4] at hA hval
  obtain ⟨v0, d0, rfl, rfl, h0⟩ := trodAll_one hA
  obtain ⟨rfl, rfl⟩ := trodVars_none hV
  clear hcnd
  obtain ⟨L0, hL0, wL0⟩ := I5 (hval 0 39 v0 rfl rfl) h0
  clear hsz
  clear hA0 hval0
  simp only [Rc] at hW'
  have hlt0 : ∀ x ∈ p0, x.block < W.heap.size := fun x hx => by simpa using hW'.lt x (by simp [hx])
  refine Calls.mono (uE L0 v0 W hL0 hWd) ?_
  rintro e W' ⟨v, H', rfl, hm, rfl⟩
  exact ⟨_, rfl, x8 (pa := p0) (pv := []) hW' (fun _ _ _ => trodAll_mk1 (shut_bool Tryz.underlying4 true))
    (fun sp hsp => trodAll_mk1 (xS ud (by kernel_rfl) (of_decide_eq_true (by kernel_rfl)) h0 hm.below hlt0 fun x hx => hsp x (by simp [hx])))
    (fun _ _ => rfl) (by simp) hm.below (ok_one (by kernel_rfl) rfl (okWide_bool_mk Tryz.underlying4 true))⟩

theorem uB : (Rows.cycleMatchesRow.inPlace == Tryz.pinned.checked.prog.inPlace 4) = true := by kernel_rfl
theorem uA : (Rows.cycleMatchesRow.unfollowed == Tryz.pinned.checked.prog.unfollowed 4) = true := by kernel_rfl
theorem uz : (Rows.cycleMatchesRow.recurses == Tryz.pinned.checked.prog.recurses 4) = true := by kernel_rfl
theorem uy : (Rows.cycleMatchesRow.named == Tryz.pinned.checked.prog.varsNamed 4) = true := by kernel_rfl
theorem uw : mapsRowed Tryz.pinned.checked.prog = true := by kernel_rfl
theorem uu : laidOutB Tryz.pinned.checked.prog = true := ud
set_option maxRecDepth 100000 in
theorem qy : joinedFacts Tryz.pinned.checked.prog 4 Tryz.f4 Rows.cycleMatchesSpec Rows.cycleMatchesRow = true := by
  unfold joinedFacts
  rw [uB, uA, uz, uy, uw, uu]
  kernel_rfl
theorem rD : false = Rows.cycleMatchesRow.goesBy Tryz.pinned.checked.prog := by kernel_rfl
theorem qw : (([39] : List Nat).all fun u => !Tryz.prog.wantsStandIn u) = true := by kernel_rfl

theorem qx : Rows.CycleMatchesSaid :=
  OpenClaim.holds_of_wide 4 Tryz.f4 rfl rfl rfl rfl rfl rfl rfl ⟨rfl, rfl, rfl, rfl, rfl⟩ rfl rfl rfl rfl rfl (by kernel_rfl) Tryz.func4 qy
    (of_decide_eq_true (by kernel_rfl)) (by unfold Func.isWrapper; first | (rw [if_pos (by decide +kernel)]; kernel_rfl) | (rw [if_neg (by decide +kernel)]; exact ⟨rfl, rfl⟩))
    (fun os started H enc _ => pw os started H enc)

theorem zo : Rows.CycleMatchesCardSaid :=
  Claim7.holds_tied_plain_at .later [] [.data] true (true, "547546211ca97e268ef082bb2fc139c6313c06bfbf265a1964e786b192fa54a6") true
    qx (fun _ h => by cases h) (by kernel_rfl) (fun _ h => by cases h) cycleMatches_row_tie rfl ⟨rfl, rfl⟩ (by kernel_rfl) rfl
    (fun f fn hf hfn => by
      obtain rfl : f = 4 := Option.some.inj ((show Tryz.prog.funcNamed "louvre/louvrelaw26.CycleMatches" = some 4 by kernel_rfl).symm.trans hf) |>.symm
      obtain rfl : fn = Tryz.f4 := (Option.some.inj (Tryz.func4.symm.trans hfn)).symm
      exact ⟨by kernel_rfl, fun j t ht => by
        rw [Tryz.params4] at ht
        have hm : t ∈ [39] := by simpa using Array.mem_of_getElem? ht
        exact (show Tryz.prog.wantsStandIn t = false by simpa using SI.1 qw t hm)⟩)
    rD

end Go.Proofs.YtpoafcnhplbkmaaGreatDoor

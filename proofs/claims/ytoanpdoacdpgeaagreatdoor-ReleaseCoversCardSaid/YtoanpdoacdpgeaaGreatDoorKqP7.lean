/-
  The given card of ReleaseCovers: for every input that its row allows, the call returns true and each argument reads afterwards as it read gh. The row's listed variable holds what the program's text lays; the given tie ties it.
-/
import Derived.Test.YtoanpdoacdpgeaaGreatDoorKq12
import Derived.Test.YtoanpdoacdpgeaaGreatDoorKq21
import Derived.Test.YtoanpdoacdpgeaaGreatDoorKq28
namespace Go.Proofs.YtoanpdoacdpgeaaGreatDoor
open Go Go.ChangeShapes Go.WideShapes Go.ChangeAt Go.RowKit Go.SL

set_option maxRecDepth 100000 in
theorem mO (os : Os) (started : os.Started) (H : Type) (enc : TypeId × Value → H) :
    ReturnsInHanded {} Tryz.checked os 8 .any (fun w args => (Rows.releaseCoversSpec.pre enc Tryz.prog Tryz.f8 Rows.releaseCoversRow.domain false w args ∧ laidMetH Tryz.prog vL w) ∧ sizedMet enc Tryz.prog Tryz.f8 (OpenSpec.ofChange Rows.releaseCoversSpec) false w args)
      (Rows.releaseCoversSpec.post enc Tryz.prog Tryz.f8 false true false false) := by
  refine returnsInHanded_of_change_and (C := Tryz.checked) (X := fun w _ => laidMetH Tryz.prog vL w) (fun _ _ _ hh h => h.of_heap hh) NZ started (by kernel_rfl) Tryz.func8
    (ChangeSpec.witness_shaped (enc := enc) (C := Tryz.checked) (os := os) (X := fun w _ => laidMetH Tryz.prog vL w) false (World.laidAll Tryz.prog os vL) #[.agg #[.int .i64 0, .slice none 0 0, .slice none 0 0, .slice none 0 0, .slice none 0 0, .slice none 0 0, .int .i64 0], .slice none 0 0] 8 (World.laidAll_os _ _ _)
      (World.shaped_of_ZipB (by kernel_rfl) (by kernel_rfl)) (by kernel_rfl) (by kernel_rfl) (by kernel_rfl)
      (by rw [MakeChecks.laidMetH_plain _ _ _ (by kernel_rfl)]; exact laidMet_laidAll _ (by kernel_rfl) (by kernel_rfl))) ?_
  intro W base args ds gs gh hval0 hW hcnd hsz hLd _
  have hval : ∀ (j : Nat) t v, Tryz.f8.params[j]? = some t → args[j]? = some v → Value.okWide Tryz.prog W .any base t v := hval0
  have hWd := wI hLd
  have hW' := hW
  obtain ⟨p, q, hA0, hV, rfl, hfz, hnd⟩ := hW
  have hA : DataW.TrodAll enc Tryz.prog W 0 (fun _ => true) true Tryz.f8.params.toList args.toList ds p := hA0
  rw [Tryz.params8] at hA hval
  obtain ⟨v0, v1, d0, d1, p0, p1, rfl, rfl, rfl, h0, h1⟩ := trodAll_two hA
  obtain ⟨rfl, rfl⟩ := trodVars_none hV
  clear hcnd
  obtain ⟨b0, x0, rfl, hb0, hw0⟩ := HY (hval 0 28 v0 rfl rfl) h0
  obtain ⟨L1, hL1⟩ := Kt (hval 1 29 v1 rfl rfl) h1
  clear hsz
  clear hA0 hval0
  simp only [QW] at hW'
  have hlt0 : ∀ x ∈ p0, x.block < W.heap.size := fun x hx => by simpa using hW'.lt x (by simp [hx])
  have hlt1 : ∀ x ∈ p1, x.block < W.heap.size := fun x hx => by simpa using hW'.lt x (by simp [hx])
  refine Calls.mono (rX b0 x0 L1 v1 W hb0 hL1 hWd) ?_
  rintro e W' ⟨v, H', rfl, hm, rfl⟩
  exact ⟨_, rfl, wX (pa := p0 ++ p1) (pv := []) hW' (fun _ _ _ => trodAll_mk1 (shut_bool Tryz.underlying4 true))
    (fun sp hsp => trodAll_mk2 (oK nS (by kernel_rfl) (of_decide_eq_true (by kernel_rfl)) h0 hm.below hlt0 fun x hx => hsp x (by simp [hx])) (oK nS (by kernel_rfl) (of_decide_eq_true (by kernel_rfl)) h1 hm.below hlt1 fun x hx => hsp x (by simp [hx])))
    (fun _ _ => rfl) (by simp) hm.below (ok_one (by kernel_rfl) rfl (okWide_bool_mk Tryz.underlying4 true))⟩

theorem rF : (Rows.releaseCoversRow.inPlace == Tryz.pinned.checked.prog.inPlace 8) = true := by kernel_rfl
theorem rE : (Rows.releaseCoversRow.unfollowed == Tryz.pinned.checked.prog.unfollowed 8) = true := by kernel_rfl
theorem rD : (Rows.releaseCoversRow.recurses == Tryz.pinned.checked.prog.recurses 8) = true := by kernel_rfl
theorem rA : (Rows.releaseCoversRow.named == Tryz.pinned.checked.prog.varsNamed 8) = true := by kernel_rfl
theorem rz : mapsRowed Tryz.pinned.checked.prog = true := by kernel_rfl
theorem ry : laidOutB Tryz.pinned.checked.prog = true := nS
set_option maxRecDepth 100000 in
theorem oG : joinedFacts Tryz.pinned.checked.prog 8 Tryz.f8 Rows.releaseCoversSpec Rows.releaseCoversRow = true := by
  unfold joinedFacts
  rw [rF, rE, rD, rA, rz, ry]
  kernel_rfl
theorem ph : false = Rows.releaseCoversRow.goesBy Tryz.pinned.checked.prog := by kernel_rfl
theorem oE : (([28, 29] : List Nat).all fun u => !Tryz.prog.wantsStandIn u) = true := by kernel_rfl

theorem oF : Rows.ReleaseCoversSaid :=
  OpenClaim.holds_of_wide 8 Tryz.f8 rfl rfl rfl rfl rfl rfl rfl ⟨rfl, rfl, rfl, rfl, rfl⟩ rfl rfl rfl rfl rfl (by kernel_rfl) Tryz.func8 oG
    (of_decide_eq_true (by kernel_rfl)) (by unfold Func.isWrapper; first | (rw [if_pos (by decide +kernel)]; kernel_rfl) | (rw [if_neg (by decide +kernel)]; exact ⟨rfl, rfl⟩))
    (fun os started H enc _ => mO os started H enc)

theorem wR : Rows.ReleaseCoversCardSaid :=
  Claim7.holds_tied_plain_at .later [] [.data] true (true, "fc3edb6548063e244778e537024da02a2b6624ff068467140e1145bd60a0ba00") true
    oF (fun _ h => by cases h) (by kernel_rfl) (fun _ h => by cases h) releaseCovers_row_tie rfl ⟨rfl, rfl⟩ (by kernel_rfl) rfl
    (fun f fn hf hfn => by
      obtain rfl : f = 8 := Option.some.inj ((show Tryz.prog.funcNamed "louvre/louvrelaw34.ReleaseCovers" = some 8 by kernel_rfl).symm.trans hf) |>.symm
      obtain rfl : fn = Tryz.f8 := (Option.some.inj (Tryz.func8.symm.trans hfn)).symm
      exact ⟨by kernel_rfl, fun j t ht => by
        rw [Tryz.params8] at ht
        have hm : t ∈ [28, 29] := by simpa using Array.mem_of_getElem? ht
        exact (show Tryz.prog.wantsStandIn t = false by simpa using Sr.1 oE t hm)⟩)
    ph

end Go.Proofs.YtoanpdoacdpgeaaGreatDoor

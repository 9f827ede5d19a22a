/-
  The given card of BookApplies: for every input that its row allows, the call returns true and each argument reads afterwards as it read before. The row's listed variable holds what the program's text lays; the given tie ties it.
-/
import Derived.Test.YtoanpdoacdpgeaaGreatDoorKn17
import Derived.Test.YtoanpdoacdpgeaaGreatDoorKn36
import Derived.Test.YtoanpdoacdpgeaaGreatDoorKn51
namespace Go.Proofs.YtoanpdoacdpgeaaGreatDoor
open Go Go.ChangeShapes Go.WideShapes Go.ChangeAt Go.RowKit Go.SL

set_option maxRecDepth 100000 in
theorem nY (os : Os) (started : os.Started) (H : Type) (enc : TypeId × Value → H) :
    ReturnsInHanded {} Tryz.checked os 3 .any (fun w args => (Rows.bookAppliesSpec.pre enc Tryz.prog Tryz.f3 Rows.bookAppliesRow.domain false w args ∧ laidMetH Tryz.prog tI w) ∧ sizedMet enc Tryz.prog Tryz.f3 (OpenSpec.ofChange Rows.bookAppliesSpec) false w args)
      (Rows.bookAppliesSpec.post enc Tryz.prog Tryz.f3 false true false false) := by
  refine returnsInHanded_of_change_and (C := Tryz.checked) (X := fun w _ => laidMetH Tryz.prog tI w) (fun _ _ _ hh h => h.of_heap hh) KA started (by kernel_rfl) Tryz.func3
    (ChangeSpec.witness_shaped (enc := enc) (C := Tryz.checked) (os := os) (X := fun w _ => laidMetH Tryz.prog tI w) false (World.laidAll Tryz.prog os tI) #[.agg #[.int .i64 0, .slice none 0 0, .slice none 0 0, .slice none 0 0, .slice none 0 0, .slice none 0 0, .int .i64 0], .slice none 0 0] 8 (World.laidAll_os _ _ _)
      (World.shaped_of_ZipB (by kernel_rfl) (by kernel_rfl)) (by kernel_rfl) (by kernel_rfl) (by kernel_rfl)
      (by rw [MakeChecks.laidMetH_plain _ _ _ (by kernel_rfl)]; exact laidMet_laidAll _ (by kernel_rfl) (by kernel_rfl))) ?_
  intro W base args ds gs before hval0 hW hcnd hsz hLd _
  have hval : ∀ (j : Nat) t v, Tryz.f3.params[j]? = some t → args[j]? = some v → Value.okWide Tryz.prog W .any base t v := hval0
  have hWd := uJ hLd
  have hW' := hW
  obtain ⟨p, q, hA0, hV, rfl, hfz, hnd⟩ := hW
  have hA : DataW.TrodAll enc Tryz.prog W 0 (fun _ => true) true Tryz.f3.params.toList args.toList ds p := hA0
  rw [Tryz.params3] at hA hval
  obtain ⟨v0, v1, d0, d1, p0, p1, rfl, rfl, rfl, h0, h1⟩ := trodAll_two hA
  obtain ⟨rfl, rfl⟩ := trodVars_none hV
  clear hcnd
  obtain ⟨b0, x0, rfl, hb0, hw0⟩ := E4 (hval 0 28 v0 rfl rfl) h0
  obtain ⟨L1, hL1⟩ := Hw (hval 1 29 v1 rfl rfl) h1
  clear hsz
  clear hA0 hval0
  simp only [Nl] at hW'
  have hlt0 : ∀ x ∈ p0, x.block < W.heap.size := fun x hx => by simpa using hW'.lt x (by simp [hx])
  have hlt1 : ∀ x ∈ p1, x.block < W.heap.size := fun x hx => by simpa using hW'.lt x (by simp [hx])
  refine Calls.mono (uE b0 x0 L1 v1 W hb0 hL1 hWd) ?_
  rintro e W' ⟨v, H', rfl, hm, rfl⟩
  exact ⟨_, rfl, uZ (pa := p0 ++ p1) (pv := []) hW' (fun _ _ _ => trodAll_mk1 (shut_bool Tryz.underlying4 true))
    (fun sp hsp => trodAll_mk2 (mQ mh (by kernel_rfl) (of_decide_eq_true (by kernel_rfl)) h0 hm.below hlt0 fun x hx => hsp x (by simp [hx])) (mQ mh (by kernel_rfl) (of_decide_eq_true (by kernel_rfl)) h1 hm.below hlt1 fun x hx => hsp x (by simp [hx])))
    (fun _ _ => rfl) (by simp) hm.below (ok_one (by kernel_rfl) rfl (okWide_bool_mk Tryz.underlying4 true))⟩

theorem uy : (Rows.bookAppliesRow.inPlace == Tryz.pinned.checked.prog.inPlace 3) = true := by kernel_rfl
theorem ux : (Rows.bookAppliesRow.unfollowed == Tryz.pinned.checked.prog.unfollowed 3) = true := by kernel_rfl
theorem uw : (Rows.bookAppliesRow.recurses == Tryz.pinned.checked.prog.recurses 3) = true := by kernel_rfl
theorem uu : (Rows.bookAppliesRow.named == Tryz.pinned.checked.prog.varsNamed 3) = true := by kernel_rfl
theorem ut : mapsRowed Tryz.pinned.checked.prog = true := by kernel_rfl
theorem ur : laidOutB Tryz.pinned.checked.prog = true := mh
set_option maxRecDepth 100000 in
theorem px : joinedFacts Tryz.pinned.checked.prog 3 Tryz.f3 Rows.bookAppliesSpec Rows.bookAppliesRow = true := by
  unfold joinedFacts
  rw [uy, ux, uw, uu, ut, ur]
  kernel_rfl
theorem qb : false = Rows.bookAppliesRow.goesBy Tryz.pinned.checked.prog := by kernel_rfl
theorem pu : (([28, 29] : List Nat).all fun u => !Tryz.prog.wantsStandIn u) = true := by kernel_rfl

theorem pw : Rows.BookAppliesSaid :=
  OpenClaim.holds_of_wide 3 Tryz.f3 rfl rfl rfl rfl rfl rfl rfl ⟨rfl, rfl, rfl, rfl, rfl⟩ rfl rfl rfl rfl rfl (by kernel_rfl) Tryz.func3 px
    (of_decide_eq_true (by kernel_rfl)) (by unfold Func.isWrapper; first | (rw [if_pos (by decide +kernel)]; kernel_rfl) | (rw [if_neg (by decide +kernel)]; exact ⟨rfl, rfl⟩))
    (fun os started H enc _ => nY os started H enc)

theorem xP : Rows.BookAppliesCardSaid :=
  Claim7.holds_tied_plain_at .later [] [.data] true (true, "fc3edb6548063e244778e537024da02a2b6624ff068467140e1145bd60a0ba00") true
    pw (fun _ h => by cases h) (by kernel_rfl) (fun _ h => by cases h) bookApplies_row_tie rfl ⟨rfl, rfl⟩ (by kernel_rfl) rfl
    (fun f fn hf hfn => by
      obtain rfl : f = 3 := Option.some.inj ((show Tryz.prog.funcNamed "louvre/louvrelaw31.BookApplies" = some 3 by kernel_rfl).symm.trans hf) |>.symm
      obtain rfl : fn = Tryz.f3 := (Option.some.inj (Tryz.func3.symm.trans hfn)).symm
      exact ⟨by kernel_rfl, fun j t ht => by
        rw [Tryz.params3] at ht
        have hm : t ∈ [28, 29] := by simpa using Array.mem_of_getElem? ht
        exact (show Tryz.prog.wantsStandIn t = false by simpa using Ou.1 pu t hm)⟩)
    qb

end Go.Proofs.YtoanpdoacdpgeaaGreatDoor

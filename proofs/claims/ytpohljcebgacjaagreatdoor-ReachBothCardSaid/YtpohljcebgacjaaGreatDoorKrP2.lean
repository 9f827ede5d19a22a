/-
  The given card of ReachBoth: for every input that its row allows, the call returns true and each argument reads afterwards as it read before. The row's listed variable holds what the program's text lays; the given tie ties it.
-/
import Derived.Test.YtpohljcebgacjaaGreatDoorKr27
import Derived.Test.YtpohljcebgacjaaGreatDoorKr33
namespace Go.Proofs.YtpohljcebgacjaaGreatDoor
open Go Go.ChangeShapes Go.WideShapes Go.ChangeAt Go.RowKit Go.SL

set_option maxRecDepth 100000 in
theorem reachBoth_lifted (os : Os) (started : os.Started) (H : Type) (enc : TypeId × Value → H) :
    ReturnsInHanded {} Tryz.checked os 11 .any (fun w args => (Rows.reachBothSpec.pre enc Tryz.prog Tryz.f11 Rows.reachBothRow.domain false w args ∧ laidMetH Tryz.prog laidWs w) ∧ sizedMet enc Tryz.prog Tryz.f11 (OpenSpec.ofChange Rows.reachBothSpec) false w args)
      (Rows.reachBothSpec.post enc Tryz.prog Tryz.f11 false true false false) := by
  refine returnsInHanded_of_change_and (C := Tryz.checked) (X := fun w _ => laidMetH Tryz.prog laidWs w) (fun _ _ _ hh h => h.of_heap hh) Try_own started (by kernel_rfl) Tryz.func11
    (ChangeSpec.witness_shaped (enc := enc) (C := Tryz.checked) (os := os) (X := fun w _ => laidMetH Tryz.prog laidWs w) false (World.laidAll Tryz.prog os laidWs) #[.slice none 0 0] 8 (World.laidAll_os _ _ _)
      (World.shaped_of_ZipB (by kernel_rfl) (by kernel_rfl)) (by kernel_rfl) (by kernel_rfl) (by kernel_rfl)
      (by rw [MakeChecks.laidMetH_plain _ _ _ (by kernel_rfl)]; exact laidMet_laidAll _ (by kernel_rfl) (by kernel_rfl))) ?_
  intro W base args ds gs before hval0 hW hcnd _ hLd _
  have hval : ∀ (j : Nat) t v, Tryz.f11.params[j]? = some t → args[j]? = some v → Value.okWide Tryz.prog W .any base t v := hval0
  have hWd := words_of_laid hLd
  have hW' := hW
  obtain ⟨p0, q, hA0, hV, rfl, hfz, hnd⟩ := hW
  have hA : DataW.TrodAll enc Tryz.prog W 0 (fun _ => true) true Tryz.f11.params.toList args.toList ds p0 := hA0
  rw [Tryz.params11] at hA hval
  obtain ⟨v0, d0, rfl, rfl, h0⟩ := trodAll_one hA
  obtain ⟨rfl, rfl⟩ := trodVars_none hV
  clear hcnd
  obtain ⟨L0, hL0, wL0⟩ := open_puts (hval 0 22 v0 rfl rfl) h0
  clear hA0 hval0
  simp only [List.append_nil] at hW'
  have hlt0 : ∀ x ∈ p0, x.block < W.heap.size := fun x hx => by simpa using hW'.lt x (by simp [hx])
  refine Calls.mono (ReachBoth_at L0 v0 W hL0 hWd) ?_
  rintro e W' ⟨v, H', rfl, hm, rfl⟩
  exact ⟨_, rfl, post_of_below (pa := p0) (pv := []) hW' (fun _ _ _ => trodAll_mk1 (shut_bool Tryz.underlying4 true))
    (fun sp hsp => trodAll_mk1 (trod_stays_of Try_laidOut (by kernel_rfl) (of_decide_eq_true (by kernel_rfl)) h0 hm.below hlt0 fun x hx => hsp x (by simp [hx])))
    (fun _ _ => rfl) (by simp) hm.below (ok_one (by kernel_rfl) rfl (okWide_bool_mk Tryz.underlying4 true))⟩

theorem reachBoth_f1 : (Rows.reachBothRow.inPlace == Tryz.pinned.checked.prog.inPlace 11) = true := by kernel_rfl
theorem reachBoth_f2 : (Rows.reachBothRow.unfollowed == Tryz.pinned.checked.prog.unfollowed 11) = true := by kernel_rfl
theorem reachBoth_f3 : (Rows.reachBothRow.recurses == Tryz.pinned.checked.prog.recurses 11) = true := by kernel_rfl
theorem reachBoth_f4 : (Rows.reachBothRow.named == Tryz.pinned.checked.prog.varsNamed 11) = true := by kernel_rfl
set_option maxRecDepth 100000 in
theorem reachBoth_facts : joinedFacts Tryz.pinned.checked.prog 11 Tryz.f11 Rows.reachBothSpec Rows.reachBothRow = true := by
  unfold joinedFacts
  rw [reachBoth_f1, reachBoth_f2, reachBoth_f3, reachBoth_f4]
  kernel_rfl
theorem reachBoth_goes : false = Rows.reachBothRow.goesBy Tryz.pinned.checked.prog := by kernel_rfl
theorem reachBoth_stand : (([22] : List Nat).all fun u => !Tryz.prog.wantsStandIn u) = true := by kernel_rfl

theorem reachBoth_holds : Rows.ReachBothSaid :=
  OpenClaim.holds_of_wide 11 Tryz.f11 rfl rfl rfl rfl rfl rfl rfl ⟨rfl, rfl, rfl, rfl, rfl⟩ rfl rfl rfl rfl rfl (by kernel_rfl) Tryz.func11 reachBoth_facts
    (of_decide_eq_true (by kernel_rfl)) (by unfold Func.isWrapper; first | (rw [if_pos (by decide +kernel)]; kernel_rfl) | (rw [if_neg (by decide +kernel)]; exact ⟨rfl, rfl⟩))
    (fun os started H enc _ => reachBoth_lifted os started H enc)

theorem reachBoth_card_holds : Rows.ReachBothCardSaid :=
  Claim7.holds_tied_plain_at .later [] [.data] true (true, "9e8a139603b98fc5e9b62dca495ee8046e160ab7754a7a0b01d1cb85f2427766") true
    reachBoth_holds (fun _ h => by cases h) (by kernel_rfl) (fun _ h => by cases h) reachBoth_row_tie rfl ⟨rfl, rfl⟩ (by kernel_rfl) rfl
    (fun f fn hf hfn => by
      obtain rfl : f = 11 := Option.some.inj ((show Tryz.prog.funcNamed "louvre/louvrelaw23.ReachBoth" = some 11 by kernel_rfl).symm.trans hf) |>.symm
      obtain rfl : fn = Tryz.f11 := (Option.some.inj (Tryz.func11.symm.trans hfn)).symm
      exact ⟨by kernel_rfl, fun j t ht => by
        rw [Tryz.params11] at ht
        have hm : t ∈ [22] := by simpa using Array.mem_of_getElem? ht
        exact (show Tryz.prog.wantsStandIn t = false by simpa using List.all_eq_true.1 reachBoth_stand t hm)⟩)
    reachBoth_goes

end Go.Proofs.YtpohljcebgacjaaGreatDoor

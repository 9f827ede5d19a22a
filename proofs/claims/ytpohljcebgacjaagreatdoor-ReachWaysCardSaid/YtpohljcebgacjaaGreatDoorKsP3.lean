/-
  The given card of ReachWays: for every input that its row allows, the call returns true and each argument reads afterwards as it read before. The row's listed variable holds what the program's text lays; the given tie ties it.
-/
import Derived.Test.YtpohljcebgacjaaGreatDoorKs01
namespace Go.Proofs.YtpohljcebgacjaaGreatDoor
open Go Go.ChangeShapes Go.WideShapes Go.ChangeAt Go.RowKit Go.SL

set_option maxRecDepth 100000 in
theorem reachWays_lifted (os : Os) (started : os.Started) (H : Type) (enc : TypeId × Value → H) :
    ReturnsInHanded {} Tryz.checked os 12 .any (fun w args => (Rows.reachWaysSpec.pre enc Tryz.prog Tryz.f12 Rows.reachWaysRow.domain false w args ∧ laidMetH Tryz.prog laidWs w) ∧ sizedMet enc Tryz.prog Tryz.f12 (OpenSpec.ofChange Rows.reachWaysSpec) false w args)
      (Rows.reachWaysSpec.post enc Tryz.prog Tryz.f12 false true false false) := by
  refine returnsInHanded_of_change_and (C := Tryz.checked) (X := fun w _ => laidMetH Tryz.prog laidWs w) (fun _ _ _ hh h => h.of_heap hh) Try_own started (by kernel_rfl) Tryz.func12
    (ChangeSpec.witness_shaped (enc := enc) (C := Tryz.checked) (os := os) (X := fun w _ => laidMetH Tryz.prog laidWs w) false (World.laidAll Tryz.prog os laidWs) #[.slice none 0 0, .agg #[.int .i64 0, .int .i64 0, .string ⟨#[]⟩], .agg #[.int .i64 0, .int .i64 0, .string ⟨#[]⟩]] 8 (World.laidAll_os _ _ _)
      (World.shaped_of_ZipB (by kernel_rfl) (by kernel_rfl)) (by kernel_rfl) (by kernel_rfl) (by kernel_rfl)
      (by rw [MakeChecks.laidMetH_plain _ _ _ (by kernel_rfl)]; exact laidMet_laidAll _ (by kernel_rfl) (by kernel_rfl))) ?_
  intro W base args ds gs before hval0 hW hcnd _ hLd _
  have hval : ∀ (j : Nat) t v, Tryz.f12.params[j]? = some t → args[j]? = some v → Value.okWide Tryz.prog W .any base t v := hval0
  have hWd := words_of_laid hLd
  have hW' := hW
  obtain ⟨p, q, hA0, hV, rfl, hfz, hnd⟩ := hW
  have hA : DataW.TrodAll enc Tryz.prog W 0 (fun _ => true) true Tryz.f12.params.toList args.toList ds p := hA0
  rw [Tryz.params12] at hA hval
  obtain ⟨v0, v1, v2, d0, d1, d2, p0, p1, p2, rfl, rfl, rfl, h0, h1, h2⟩ := trodAll_three hA
  obtain ⟨rfl, rfl⟩ := trodVars_none hV
  clear hcnd
  obtain ⟨L0, hL0, wL0⟩ := open_puts (hval 0 22 v0 rfl rfl) h0
  obtain ⟨r1, rfl, wr1⟩ := open_put (hval 1 73 v1 rfl rfl) h1
  obtain ⟨r2, rfl, wr2⟩ := open_put (hval 2 73 v2 rfl rfl) h2
  clear hA0 hval0
  simp only [List.append_nil] at hW'
  have hlt0 : ∀ x ∈ p0, x.block < W.heap.size := fun x hx => by simpa using hW'.lt x (by simp [hx])
  have hlt1 : ∀ x ∈ p1, x.block < W.heap.size := fun x hx => by simpa using hW'.lt x (by simp [hx])
  have hlt2 : ∀ x ∈ p2, x.block < W.heap.size := fun x hx => by simpa using hW'.lt x (by simp [hx])
  refine Calls.mono (ReachWays_at L0 r1 r2 v0 W hL0 hWd) ?_
  rintro e W' ⟨v, H', rfl, hm, rfl⟩
  exact ⟨_, rfl, post_of_below (pa := p0 ++ (p1 ++ p2)) (pv := []) hW' (fun _ _ _ => trodAll_mk1 (shut_bool Tryz.underlying4 true))
    (fun sp hsp => trodAll_mk3 (trod_stays_of Try_laidOut (by kernel_rfl) (of_decide_eq_true (by kernel_rfl)) h0 hm.below hlt0 fun x hx => hsp x (by simp [hx])) (trod_stays_of Try_laidOut (by kernel_rfl) (of_decide_eq_true (by kernel_rfl)) h1 hm.below hlt1 fun x hx => hsp x (by simp [hx])) (trod_stays_of Try_laidOut (by kernel_rfl) (of_decide_eq_true (by kernel_rfl)) h2 hm.below hlt2 fun x hx => hsp x (by simp [hx])))
    (fun _ _ => rfl) (by simp) hm.below (ok_one (by kernel_rfl) rfl (okWide_bool_mk Tryz.underlying4 true))⟩

theorem reachWays_f1 : (Rows.reachWaysRow.inPlace == Tryz.pinned.checked.prog.inPlace 12) = true := by kernel_rfl
theorem reachWays_f2 : (Rows.reachWaysRow.unfollowed == Tryz.pinned.checked.prog.unfollowed 12) = true := by kernel_rfl
theorem reachWays_f3 : (Rows.reachWaysRow.recurses == Tryz.pinned.checked.prog.recurses 12) = true := by kernel_rfl
theorem reachWays_f4 : (Rows.reachWaysRow.named == Tryz.pinned.checked.prog.varsNamed 12) = true := by kernel_rfl
set_option maxRecDepth 100000 in
theorem reachWays_facts : joinedFacts Tryz.pinned.checked.prog 12 Tryz.f12 Rows.reachWaysSpec Rows.reachWaysRow = true := by
  unfold joinedFacts
  rw [reachWays_f1, reachWays_f2, reachWays_f3, reachWays_f4]
  kernel_rfl
theorem reachWays_goes : false = Rows.reachWaysRow.goesBy Tryz.pinned.checked.prog := by kernel_rfl
theorem reachWays_stand : (([22, 73, 73] : List Nat).all fun u => !Tryz.prog.wantsStandIn u) = true := by kernel_rfl

theorem reachWays_holds : Rows.ReachWaysSaid :=
  OpenClaim.holds_of_wide 12 Tryz.f12 rfl rfl rfl rfl rfl rfl rfl ⟨rfl, rfl, rfl, rfl, rfl⟩ rfl rfl rfl rfl rfl (by kernel_rfl) Tryz.func12 reachWays_facts
    (of_decide_eq_true (by kernel_rfl)) (by unfold Func.isWrapper; first | (rw [if_pos (by decide +kernel)]; kernel_rfl) | (rw [if_neg (by decide +kernel)]; exact ⟨rfl, rfl⟩))
    (fun os started H enc _ => reachWays_lifted os started H enc)

theorem reachWays_card_holds : Rows.ReachWaysCardSaid :=
  Claim7.holds_tied_plain_at .later [] [.data] true (true, "9e8a139603b98fc5e9b62dca495ee8046e160ab7754a7a0b01d1cb85f2427766") true
    reachWays_holds (fun _ h => by cases h) (by kernel_rfl) (fun _ h => by cases h) reachWays_row_tie rfl ⟨rfl, rfl⟩ (by kernel_rfl) rfl
    (fun f fn hf hfn => by
      obtain rfl : f = 12 := Option.some.inj ((show Tryz.prog.funcNamed "louvre/louvrelaw23.ReachWays" = some 12 by kernel_rfl).symm.trans hf) |>.symm
      obtain rfl : fn = Tryz.f12 := (Option.some.inj (Tryz.func12.symm.trans hfn)).symm
      exact ⟨by kernel_rfl, fun j t ht => by
        rw [Tryz.params12] at ht
        have hm : t ∈ [22, 73, 73] := by simpa using Array.mem_of_getElem? ht
        exact (show Tryz.prog.wantsStandIn t = false by simpa using List.all_eq_true.1 reachWays_stand t hm)⟩)
    reachWays_goes

end Go.Proofs.YtpohljcebgacjaaGreatDoor

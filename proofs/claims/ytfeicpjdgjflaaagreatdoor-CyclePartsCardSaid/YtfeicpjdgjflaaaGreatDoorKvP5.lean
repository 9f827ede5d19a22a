/-
  The given card of CycleParts: for every input that its row allows, the call returns true and each argument reads afterwards as it read before. The row's listed variable holds what the program's text lays; the given tie ties it.
-/
import Derived.Test.YtfeicpjdgjflaaaGreatDoorKv35
namespace Go.Proofs.YtfeicpjdgjflaaaGreatDoor
open Go Go.ChangeShapes Go.WideShapes Go.ChangeAt Go.RowKit Go.SL

set_option maxRecDepth 100000 in
theorem uz (os : Os) (started : os.Started) (H : Type) (enc : TypeId × Value → H) :
    ReturnsInHanded {} Tryz.checked os 5 .any (fun w args => (Rows.cyclePartsSpec.pre enc Tryz.prog Tryz.f5 Rows.cyclePartsRow.domain false w args ∧ laidMetH Tryz.prog jQ w) ∧ sizedMet enc Tryz.prog Tryz.f5 (OpenSpec.ofChange Rows.cyclePartsSpec) false w args)
      (Rows.cyclePartsSpec.post enc Tryz.prog Tryz.f5 false true false false) := by
  refine returnsInHanded_of_change_and (C := Tryz.checked) (X := fun w _ => laidMetH Tryz.prog jQ w) (fun _ _ _ hh h => h.of_heap hh) Eo started (by kernel_rfl) Tryz.func5
    (ChangeSpec.witness_shaped (enc := enc) (C := Tryz.checked) (os := os) (X := fun w _ => laidMetH Tryz.prog jQ w) false (World.laidAll Tryz.prog os jQ) #[.slice none 0 0] 8 (World.laidAll_os _ _ _)
      (World.shaped_of_ZipB (by kernel_rfl) (by kernel_rfl)) (by kernel_rfl) (by kernel_rfl) (by kernel_rfl)
      (by rw [MakeChecks.laidMetH_plain _ _ _ (by kernel_rfl)]; exact laidMet_laidAll _ (by kernel_rfl) (by kernel_rfl))) ?_
  intro W base args ds gs before hval0 hW hcnd hsz hLd _
  have hval : ∀ (j : Nat) t v, Tryz.f5.params[j]? = some t → args[j]? = some v → Value.okWide Tryz.prog W .any base t v := hval0
  have hWd := m7 hLd
  have hW' := hW
  obtain ⟨p0, q, hA0, hV, rfl, hfz, hnd⟩ := hW
  have hA : DataW.TrodAll enc Tryz.prog W 0 (fun _ => true) true Tryz.f5.params.toList args.toList ds p0 := hA0
  rw [Tryz.params5] at hA hval
  obtain ⟨v0, d0, rfl, rfl, h0⟩ := trodAll_one hA
  obtain ⟨rfl, rfl⟩ := trodVars_none hV
  clear hcnd
  obtain ⟨L0, hL0, wL0⟩ := vk (hval 0 22 v0 rfl rfl) h0
  clear hsz
  clear hA0 hval0
  simp only [VB] at hW'
  have hlt0 : ∀ x ∈ p0, x.block < W.heap.size := fun x hx => by simpa using hW'.lt x (by simp [hx])
  refine Calls.mono (Bb L0 v0 W hL0 hWd) ?_
  rintro e W' ⟨v, H', rfl, hm, rfl⟩
  exact ⟨_, rfl, nn (pa := p0) (pv := []) hW' (fun _ _ _ => trodAll_mk1 (shut_bool Tryz.underlying4 true))
    (fun sp hsp => trodAll_mk1 (f9 fA (by kernel_rfl) (of_decide_eq_true (by kernel_rfl)) h0 hm.below hlt0 fun x hx => hsp x (by simp [hx])))
    (fun _ _ => rfl) (by simp) hm.below (ok_one (by kernel_rfl) rfl (okWide_bool_mk Tryz.underlying4 true))⟩

theorem AX : (Rows.cyclePartsRow.inPlace == Tryz.pinned.checked.prog.inPlace 5) = true := by kernel_rfl
theorem AW : (Rows.cyclePartsRow.unfollowed == Tryz.pinned.checked.prog.unfollowed 5) = true := by kernel_rfl
theorem AV : (Rows.cyclePartsRow.recurses == Tryz.pinned.checked.prog.recurses 5) = true := by kernel_rfl
theorem AU : (Rows.cyclePartsRow.named == Tryz.pinned.checked.prog.varsNamed 5) = true := by kernel_rfl
theorem AR : mapsRowed Tryz.pinned.checked.prog = true := by kernel_rfl
theorem AQ : laidOutB Tryz.pinned.checked.prog = true := fA
set_option maxRecDepth 100000 in
theorem vL : joinedFacts Tryz.pinned.checked.prog 5 Tryz.f5 Rows.cyclePartsSpec Rows.cyclePartsRow = true := by
  unfold joinedFacts
  rw [AX, AW, AV, AU, AR, AQ]
  kernel_rfl
theorem gO9 {P:Program} (h:P.funcs.toList.all (fun f=> !f.goes)=true) (c:OpenClaim):false=c.goesBy P:=by
 have h0:P.funcs.any Func.goes=false:=by
  rw [← Array.any_toList,List.any_eq_false];exact fun f hf=>by simpa using List.all_eq_true.1 h f hf
 have h1: ∀ f,P.goes f=false:=fun f=>by
  unfold Program.goes;rw [h0,Bool.and_false,Bool.or_false,List.any_eq_false];intro g _;cases e:P.funcs[g]? with
  |none=>simp
  |some x=>simpa using List.all_eq_true.1 h x (Array.mem_toList_iff.2 (Array.mem_of_getElem? e))
 unfold OpenClaim.goesBy Program.goesAt Program.goesFrom;cases P.funcNamed c.func<;>cases c.start<;>simp [h1]
theorem w5 : false = Rows.cyclePartsRow.goesBy Tryz.pinned.checked.prog :=gO9 (P:=Tryz.prog) (by kernel_rfl) _
theorem vJ : (([22] : List Nat).all fun u => !Tryz.prog.wantsStandIn u) = true := by kernel_rfl

theorem vK : Rows.CyclePartsSaid :=
  OpenClaim.holds_of_wide 5 Tryz.f5 rfl rfl rfl rfl rfl rfl rfl ⟨rfl, rfl, rfl, rfl, rfl⟩ rfl rfl rfl rfl rfl (by kernel_rfl) Tryz.func5 vL
    (of_decide_eq_true (by kernel_rfl)) (by unfold Func.isWrapper; first | (rw [if_pos (by decide +kernel)]; kernel_rfl) | (rw [if_neg (by decide +kernel)]; exact ⟨rfl, rfl⟩))
    (fun os started H enc _ => uz os started H enc)

theorem ED : Rows.CyclePartsCardSaid :=
  Claim7.holds_tied_plain_at .later [] [.data] true (true, "f16eef0217c20f5b41e196ab2551f48186a45d4488b2bb518a8b4910cd5fef6a") true
    vK (fun _ h => by cases h) (by kernel_rfl) (fun _ h => by cases h) cycleParts_row_tie rfl ⟨rfl, rfl⟩ (by kernel_rfl) rfl
    (fun f fn hf hfn => by
      obtain rfl : f = 5 := Option.some.inj ((show Tryz.prog.funcNamed "louvre/louvrelaw26.CycleParts" = some 5 by kernel_rfl).symm.trans hf) |>.symm
      obtain rfl : fn = Tryz.f5 := (Option.some.inj (Tryz.func5.symm.trans hfn)).symm
      exact ⟨by kernel_rfl, fun j t ht => by
        rw [Tryz.params5] at ht
        have hm : t ∈ [22] := by simpa using Y4 ht
        exact (show Tryz.prog.wantsStandIn t = false by simpa using WK.1 vJ t hm)⟩)
    w5

end Go.Proofs.YtfeicpjdgjflaaaGreatDoor

/-
  The given card of CycleAmongs: for every input that its row allows, the call returns true and each argument reads afterwards as it read before. The row's listed variable holds what the program's text lays; the given tie ties it.
-/
import Derived.Test.YtfeicpjdgjflaaaGreatDoorKv42
namespace Go.Proofs.YtfeicpjdgjflaaaGreatDoor
open Go Go.ChangeShapes Go.WideShapes Go.ChangeAt Go.RowKit Go.SL

set_option maxRecDepth 100000 in
theorem sV (os : Os) (started : os.Started) (H : Type) (enc : TypeId × Value → H) :
    ReturnsInHanded {} Tryz.checked os 3 .any (fun w args => (Rows.cycleAmongsSpec.pre enc Tryz.prog Tryz.f3 Rows.cycleAmongsRow.domain false w args ∧ laidMetH Tryz.prog jQ w) ∧ sizedMet enc Tryz.prog Tryz.f3 (OpenSpec.ofChange Rows.cycleAmongsSpec) false w args)
      (Rows.cycleAmongsSpec.post enc Tryz.prog Tryz.f3 false true false false) := by
  refine returnsInHanded_of_change_and (C := Tryz.checked) (X := fun w _ => laidMetH Tryz.prog jQ w) (fun _ _ _ hh h => h.of_heap hh) Eo started (by kernel_rfl) Tryz.func3
    (ChangeSpec.witness_shaped (enc := enc) (C := Tryz.checked) (os := os) (X := fun w _ => laidMetH Tryz.prog jQ w) false (World.laidAll Tryz.prog os jQ) #[.slice none 0 0, .slice none 0 0, .int .u64 0] 8 (World.laidAll_os _ _ _)
      (World.shaped_of_ZipB (by kernel_rfl) (by kernel_rfl)) (by kernel_rfl) (by kernel_rfl) (by kernel_rfl)
      (by rw [MakeChecks.laidMetH_plain _ _ _ (by kernel_rfl)]; exact laidMet_laidAll _ (by kernel_rfl) (by kernel_rfl))) ?_
  intro W base args ds gs before hval0 hW hcnd hsz hLd _
  have hval : ∀ (j : Nat) t v, Tryz.f3.params[j]? = some t → args[j]? = some v → Value.okWide Tryz.prog W .any base t v := hval0
  have hWd := m7 hLd
  have hW' := hW
  obtain ⟨p, q, hA0, hV, rfl, hfz, hnd⟩ := hW
  have hA : DataW.TrodAll enc Tryz.prog W 0 (fun _ => true) true Tryz.f3.params.toList args.toList ds p := hA0
  rw [Tryz.params3] at hA hval
  obtain ⟨v0, v1, v2, d0, d1, d2, p0, p1, p2, rfl, rfl, rfl, h0, h1, h2⟩ := trodAll_three hA
  obtain ⟨rfl, rfl⟩ := trodVars_none hV
  clear hcnd
  obtain ⟨L0, hL0, wL0⟩ := vk (hval 0 22 v0 rfl rfl) h0
  obtain ⟨L1, hL1, wL1⟩ := Mk (hval 1 23 v1 rfl rfl) h1
  obtain ⟨x2, rfl⟩ := Gc (hval 2 24 v2 rfl rfl) h2
  clear hsz
  clear hA0 hval0
  simp only [VB] at hW'
  have hlt0 : ∀ x ∈ p0, x.block < W.heap.size := fun x hx => by simpa using hW'.lt x (by simp [hx])
  have hlt1 : ∀ x ∈ p1, x.block < W.heap.size := fun x hx => by simpa using hW'.lt x (by simp [hx])
  have hlt2 : ∀ x ∈ p2, x.block < W.heap.size := fun x hx => by simpa using hW'.lt x (by simp [hx])
  refine Calls.mono (zX L0 v0 L1 v1 (x2.toNat : Int) W hL0 hL1 hWd) ?_
  rintro e W' ⟨v, H', rfl, hm, rfl⟩
  exact ⟨_, rfl, nn (pa := p0 ++ (p1 ++ p2)) (pv := []) hW' (fun _ _ _ => trodAll_mk1 (shut_bool Tryz.underlying4 true))
    (fun sp hsp => trodAll_mk3 (f9 fA (by kernel_rfl) (of_decide_eq_true (by kernel_rfl)) h0 hm.below hlt0 fun x hx => hsp x (by simp [hx])) (f9 fA (by kernel_rfl) (of_decide_eq_true (by kernel_rfl)) h1 hm.below hlt1 fun x hx => hsp x (by simp [hx])) (f9 fA (by kernel_rfl) (of_decide_eq_true (by kernel_rfl)) h2 hm.below hlt2 fun x hx => hsp x (by simp [hx])))
    (fun _ _ => rfl) (by simp) hm.below (ok_one (by kernel_rfl) rfl (okWide_bool_mk Tryz.underlying4 true))⟩

theorem zM : (Rows.cycleAmongsRow.inPlace == Tryz.pinned.checked.prog.inPlace 3) = true := by kernel_rfl
theorem zL : (Rows.cycleAmongsRow.unfollowed == Tryz.pinned.checked.prog.unfollowed 3) = true := by kernel_rfl
theorem zJ : (Rows.cycleAmongsRow.recurses == Tryz.pinned.checked.prog.recurses 3) = true := by kernel_rfl
theorem zI : (Rows.cycleAmongsRow.named == Tryz.pinned.checked.prog.varsNamed 3) = true := by kernel_rfl
theorem zH : mapsRowed Tryz.pinned.checked.prog = true := by kernel_rfl
theorem zG : laidOutB Tryz.pinned.checked.prog = true := fA
set_option maxRecDepth 100000 in
theorem uC : joinedFacts Tryz.pinned.checked.prog 3 Tryz.f3 Rows.cycleAmongsSpec Rows.cycleAmongsRow = true := by
  unfold joinedFacts
  rw [zM, zL, zJ, zI, zH, zG]
  kernel_rfl
theorem gO9 {P:Program} (h:P.funcs.toList.all (fun f=> !f.goes)=true) (c:OpenClaim):false=c.goesBy P:=by
 have h0:P.funcs.any Func.goes=false:=by
  rw [← Array.any_toList,List.any_eq_false];exact fun f hf=>by simpa using List.all_eq_true.1 h f hf
 have h1: ∀ f,P.goes f=false:=fun f=>by
  unfold Program.goes;rw [h0,Bool.and_false,Bool.or_false,List.any_eq_false];intro g _;cases e:P.funcs[g]? with
  |none=>simp
  |some x=>simpa using List.all_eq_true.1 h x (Array.mem_toList_iff.2 (Array.mem_of_getElem? e))
 unfold OpenClaim.goesBy Program.goesAt Program.goesFrom;cases P.funcNamed c.func<;>cases c.start<;>simp [h1]
theorem vM : false = Rows.cycleAmongsRow.goesBy Tryz.pinned.checked.prog :=gO9 (P:=Tryz.prog) (by kernel_rfl) _
theorem uA : (([22, 23, 24] : List Nat).all fun u => !Tryz.prog.wantsStandIn u) = true := by kernel_rfl

theorem uB : Rows.CycleAmongsSaid :=
  OpenClaim.holds_of_wide 3 Tryz.f3 rfl rfl rfl rfl rfl rfl rfl ⟨rfl, rfl, rfl, rfl, rfl⟩ rfl rfl rfl rfl rfl (by kernel_rfl) Tryz.func3 uC
    (of_decide_eq_true (by kernel_rfl)) (by unfold Func.isWrapper; first | (rw [if_pos (by decide +kernel)]; kernel_rfl) | (rw [if_neg (by decide +kernel)]; exact ⟨rfl, rfl⟩))
    (fun os started H enc _ => sV os started H enc)

theorem Ed : Rows.CycleAmongsCardSaid :=
  Claim7.holds_tied_plain_at .later [] [.data] true (true, "f16eef0217c20f5b41e196ab2551f48186a45d4488b2bb518a8b4910cd5fef6a") true
    uB (fun _ h => by cases h) (by kernel_rfl) (fun _ h => by cases h) cycleAmongs_row_tie rfl ⟨rfl, rfl⟩ (by kernel_rfl) rfl
    (fun f fn hf hfn => by
      obtain rfl : f = 3 := Option.some.inj ((show Tryz.prog.funcNamed "louvre/louvrelaw26.CycleAmongs" = some 3 by kernel_rfl).symm.trans hf) |>.symm
      obtain rfl : fn = Tryz.f3 := (Option.some.inj (Tryz.func3.symm.trans hfn)).symm
      exact ⟨by kernel_rfl, fun j t ht => by
        rw [Tryz.params3] at ht
        have hm : t ∈ [22, 23, 24] := by simpa using Y4 ht
        exact (show Tryz.prog.wantsStandIn t = false by simpa using WK.1 uA t hm)⟩)
    vM

end Go.Proofs.YtfeicpjdgjflaaaGreatDoor

/-
  The given card of CycleSome: for every input that its row allows, the call returns true and each argument reads afterwards as it read before. The row's listed variable holds what the program's text lays; the given tie ties it.
-/
import Derived.Test.YtfeicpjdgjflaaaGreatDoorKv36
import Derived.Test.YtfeicpjdgjflaaaGreatDoorKv43
namespace Go.Proofs.YtfeicpjdgjflaaaGreatDoor
open Go Go.ChangeShapes Go.WideShapes Go.ChangeAt Go.RowKit Go.SL

set_option maxRecDepth 100000 in
theorem vH (os : Os) (started : os.Started) (H : Type) (enc : TypeId × Value → H) :
    ReturnsInHanded {} Tryz.checked os 4 .any (fun w args => (Rows.cycleSomeSpec.pre enc Tryz.prog Tryz.f4 Rows.cycleSomeRow.domain false w args ∧ laidMetH Tryz.prog jQ w) ∧ sizedMet enc Tryz.prog Tryz.f4 (OpenSpec.ofChange Rows.cycleSomeSpec) false w args)
      (Rows.cycleSomeSpec.post enc Tryz.prog Tryz.f4 false true false false) := by
  refine returnsInHanded_of_change_and (C := Tryz.checked) (X := fun w _ => laidMetH Tryz.prog jQ w) (fun _ _ _ hh h => h.of_heap hh) Eo started (by kernel_rfl) Tryz.func4
    (ChangeSpec.witness_shaped (enc := enc) (C := Tryz.checked) (os := os) (X := fun w _ => laidMetH Tryz.prog jQ w) false (World.laidAll Tryz.prog os jQ) #[.slice none 0 0, .int .u64 0] 8 (World.laidAll_os _ _ _)
      (World.shaped_of_ZipB (by kernel_rfl) (by kernel_rfl)) (by kernel_rfl) (by kernel_rfl) (by kernel_rfl)
      (by rw [MakeChecks.laidMetH_plain _ _ _ (by kernel_rfl)]; exact laidMet_laidAll _ (by kernel_rfl) (by kernel_rfl))) ?_
  intro W base args ds gs before hval0 hW hcnd hsz hLd _
  have hval : ∀ (j : Nat) t v, Tryz.f4.params[j]? = some t → args[j]? = some v → Value.okWide Tryz.prog W .any base t v := hval0
  have hWd := m7 hLd
  have hW' := hW
  obtain ⟨p, q, hA0, hV, rfl, hfz, hnd⟩ := hW
  have hA : DataW.TrodAll enc Tryz.prog W 0 (fun _ => true) true Tryz.f4.params.toList args.toList ds p := hA0
  rw [Tryz.params4] at hA hval
  obtain ⟨v0, v1, d0, d1, p0, p1, rfl, rfl, rfl, h0, h1⟩ := trodAll_two hA
  obtain ⟨rfl, rfl⟩ := trodVars_none hV
  clear hcnd
  obtain ⟨L0, hL0, wL0⟩ := vk (hval 0 22 v0 rfl rfl) h0
  obtain ⟨x1, rfl⟩ := Gc (hval 1 24 v1 rfl rfl) h1
  clear hsz
  clear hA0 hval0
  simp only [VB] at hW'
  have hlt0 : ∀ x ∈ p0, x.block < W.heap.size := fun x hx => by simpa using hW'.lt x (by simp [hx])
  have hlt1 : ∀ x ∈ p1, x.block < W.heap.size := fun x hx => by simpa using hW'.lt x (by simp [hx])
  refine Calls.mono (EA L0 v0 (x1.toNat : Int) W hL0 hWd) ?_
  rintro e W' ⟨v, H', rfl, hm, rfl⟩
  exact ⟨_, rfl, nn (pa := p0 ++ p1) (pv := []) hW' (fun _ _ _ => trodAll_mk1 (shut_bool Tryz.underlying4 true))
    (fun sp hsp => trodAll_mk2 (f9 fA (by kernel_rfl) (of_decide_eq_true (by kernel_rfl)) h0 hm.below hlt0 fun x hx => hsp x (by simp [hx])) (f9 fA (by kernel_rfl) (of_decide_eq_true (by kernel_rfl)) h1 hm.below hlt1 fun x hx => hsp x (by simp [hx])))
    (fun _ _ => rfl) (by simp) hm.below (ok_one (by kernel_rfl) rfl (okWide_bool_mk Tryz.underlying4 true))⟩

theorem Ec : (Rows.cycleSomeRow.inPlace == Tryz.pinned.checked.prog.inPlace 4) = true := by kernel_rfl
theorem Eb : (Rows.cycleSomeRow.unfollowed == Tryz.pinned.checked.prog.unfollowed 4) = true := by kernel_rfl
theorem Ea : (Rows.cycleSomeRow.recurses == Tryz.pinned.checked.prog.recurses 4) = true := by kernel_rfl
theorem D0 : (Rows.cycleSomeRow.named == Tryz.pinned.checked.prog.varsNamed 4) = true := by kernel_rfl
theorem DZ : mapsRowed Tryz.pinned.checked.prog = true := by kernel_rfl
theorem DY : laidOutB Tryz.pinned.checked.prog = true := fA
set_option maxRecDepth 100000 in
theorem wZ : joinedFacts Tryz.pinned.checked.prog 4 Tryz.f4 Rows.cycleSomeSpec Rows.cycleSomeRow = true := by
  unfold joinedFacts
  rw [Ec, Eb, Ea, D0, DZ, DY]
  kernel_rfl
theorem gO9 {P:Program} (h:P.funcs.toList.all (fun f=> !f.goes)=true) (c:OpenClaim):false=c.goesBy P:=by
 have h0:P.funcs.any Func.goes=false:=by
  rw [← Array.any_toList,List.any_eq_false];exact fun f hf=>by simpa using List.all_eq_true.1 h f hf
 have h1: ∀ f,P.goes f=false:=fun f=>by
  unfold Program.goes;rw [h0,Bool.and_false,Bool.or_false,List.any_eq_false];intro g _;cases e:P.funcs[g]? with
  |none=>simp
  |some x=>simpa using List.all_eq_true.1 h x (Array.mem_toList_iff.2 (Array.mem_of_getElem? e))
 unfold OpenClaim.goesBy Program.goesAt Program.goesFrom;cases P.funcNamed c.func<;>cases c.start<;>simp [h1]
theorem zF : false = Rows.cycleSomeRow.goesBy Tryz.pinned.checked.prog :=gO9 (P:=Tryz.prog) (by kernel_rfl) _
theorem wX : (([22, 24] : List Nat).all fun u => !Tryz.prog.wantsStandIn u) = true := by kernel_rfl

theorem wY : Rows.CycleSomeSaid :=
  OpenClaim.holds_of_wide 4 Tryz.f4 rfl rfl rfl rfl rfl rfl rfl ⟨rfl, rfl, rfl, rfl, rfl⟩ rfl rfl rfl rfl rfl (by kernel_rfl) Tryz.func4 wZ
    (of_decide_eq_true (by kernel_rfl)) (by unfold Func.isWrapper; first | (rw [if_pos (by decide +kernel)]; kernel_rfl) | (rw [if_neg (by decide +kernel)]; exact ⟨rfl, rfl⟩))
    (fun os started H enc _ => vH os started H enc)

theorem Hj : Rows.CycleSomeCardSaid :=
  Claim7.holds_tied_plain_at .later [] [.data] true (true, "f16eef0217c20f5b41e196ab2551f48186a45d4488b2bb518a8b4910cd5fef6a") true
    wY (fun _ h => by cases h) (by kernel_rfl) (fun _ h => by cases h) cycleSome_row_tie rfl ⟨rfl, rfl⟩ (by kernel_rfl) rfl
    (fun f fn hf hfn => by
      obtain rfl : f = 4 := Option.some.inj ((show Tryz.prog.funcNamed "louvre/louvrelaw26.CycleSome" = some 4 by kernel_rfl).symm.trans hf) |>.symm
      obtain rfl : fn = Tryz.f4 := (Option.some.inj (Tryz.func4.symm.trans hfn)).symm
      exact ⟨by kernel_rfl, fun j t ht => by
        rw [Tryz.params4] at ht
        have hm : t ∈ [22, 24] := by simpa using Y4 ht
        exact (show Tryz.prog.wantsStandIn t = false by simpa using WK.1 wX t hm)⟩)
    zF

end Go.Proofs.YtfeicpjdgjflaaaGreatDoor

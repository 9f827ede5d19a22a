/-
  The given card of FlowSees: for every input that its row allows, the call returns true and each argument reads afterwards as it read eM. The row's listed variable holds what the program's text lays; the given tie ties it.
-/
import Derived.Test.YthefeclkaaocnaaGreatDoorKg02
namespace Go.Proofs.YthefeclkaaocnaaGreatDoor
open Go Go.ChangeShapes Go.WideShapes Go.ChangeAt Go.RowKit Go.SL

set_option maxRecDepth 100000 in
theorem wh (os : Os) (started : os.Started) (H : Type) (enc : TypeId × Value → H) :
    ReturnsInHanded {} Tryz.checked os 7 .any (fun w args => (Rows.flowSeesSpec.pre enc Tryz.prog Tryz.f7 Rows.flowSeesRow.domain false w args ∧ laidMetH Tryz.prog gj w) ∧ sizedMet enc Tryz.prog Tryz.f7 (OpenSpec.ofChange Rows.flowSeesSpec) false w args)
      (Rows.flowSeesSpec.post enc Tryz.prog Tryz.f7 false true false false) := by
  refine returnsInHanded_of_change_and (C := Tryz.checked) (X := fun w _ => laidMetH Tryz.prog gj w) (fun _ _ _ hh h => h.of_heap hh) wK started (by kernel_rfl) Tryz.func7
    (ChangeSpec.witness_shaped (enc := enc) (C := Tryz.checked) (os := os) (X := fun w _ => laidMetH Tryz.prog gj w) false (World.laidAll Tryz.prog os gj) #[.slice none 0 0, .slice none 0 0, .slice none 0 0, .slice none 0 0] 8 (World.laidAll_os _ _ _)
      (World.shaped_of_ZipB (by kernel_rfl) (by kernel_rfl)) (by kernel_rfl) (by kernel_rfl) (by kernel_rfl)
      (by rw [MakeChecks.laidMetH_plain _ _ _ (by kernel_rfl)]; exact laidMet_laidAll _ (by kernel_rfl) (by kernel_rfl))) ?_
  intro W base args ds gs eM hval0 hW hcnd hsz hLd _
  have hval : ∀ (j : Nat) t v, Tryz.f7.params[j]? = some t → args[j]? = some v → Value.okWide Tryz.prog W .any base t v := hval0
  have hWd := jx hLd
  have hW' := hW
  obtain ⟨p, q, hA0, hV, rfl, hfz, hnd⟩ := hW
  have hA : DataW.TrodAll enc Tryz.prog W 0 (fun _ => true) true Tryz.f7.params.toList args.toList ds p := hA0
  rw [Tryz.params7] at hA hval
  obtain ⟨v0, v1, v2, v3, d0, d1, d2, d3, p0, p1, p2, p3, rfl, rfl, rfl, h0, h1, h2, h3⟩ := trodAll_four hA
  obtain ⟨rfl, rfl⟩ := trodVars_none hV
  clear hcnd
  obtain ⟨L0, hL0, wL0⟩ := kq (hval 0 22 v0 rfl rfl) h0
  obtain ⟨L1, hL1⟩ := nH (hval 1 23 v1 rfl rfl) h1
  obtain ⟨L2, hL2⟩ := lI (hval 2 24 v2 rfl rfl) h2
  obtain ⟨L3, hL3, wL3⟩ := KT (hval 3 65 v3 rfl rfl) h3
  clear hsz
  clear hA0 hval0
  simp only [TR] at hW'
  have hlt0 : ∀ x ∈ p0, x.block < W.heap.size := fun x hx => by simpa using hW'.lt x (by simp [hx])
  have hlt1 : ∀ x ∈ p1, x.block < W.heap.size := fun x hx => by simpa using hW'.lt x (by simp [hx])
  have hlt2 : ∀ x ∈ p2, x.block < W.heap.size := fun x hx => by simpa using hW'.lt x (by simp [hx])
  have hlt3 : ∀ x ∈ p3, x.block < W.heap.size := fun x hx => by simpa using hW'.lt x (by simp [hx])
  refine Calls.mono (FZ L0 L1 L2 L3 v0 v1 v2 v3 W hL0 hL1 hL2 hL3 hWd) ?_
  rintro e W' ⟨v, H', rfl, hm, rfl⟩
  exact ⟨_, rfl, jB (pa := p0 ++ (p1 ++ (p2 ++ p3))) (pv := []) hW' (fun _ _ _ => trodAll_mk1 (shut_bool Tryz.underlying4 true))
    (fun sp hsp => trodAll_mk4 (bu bq (by kernel_rfl) (of_decide_eq_true (by kernel_rfl)) h0 hm.below hlt0 fun x hx => hsp x (by simp [hx])) (bu bq (by kernel_rfl) (of_decide_eq_true (by kernel_rfl)) h1 hm.below hlt1 fun x hx => hsp x (by simp [hx])) (bu bq (by kernel_rfl) (of_decide_eq_true (by kernel_rfl)) h2 hm.below hlt2 fun x hx => hsp x (by simp [hx])) (bu bq (by kernel_rfl) (of_decide_eq_true (by kernel_rfl)) h3 hm.below hlt3 fun x hx => hsp x (by simp [hx])))
    (fun _ _ => rfl) (by simp) hm.below (ok_one (by kernel_rfl) rfl (okWide_bool_mk Tryz.underlying4 true))⟩

theorem Fh : (Rows.flowSeesRow.inPlace == Tryz.pinned.checked.prog.inPlace 7) = true := by kernel_rfl
theorem Fg : (Rows.flowSeesRow.unfollowed == Tryz.pinned.checked.prog.unfollowed 7) = true := by kernel_rfl
theorem Ff : (Rows.flowSeesRow.recurses == Tryz.pinned.checked.prog.recurses 7) = true := by kernel_rfl
theorem Fe : (Rows.flowSeesRow.named == Tryz.pinned.checked.prog.varsNamed 7) = true := by kernel_rfl
theorem Fb : mapsRowed Tryz.pinned.checked.prog = true := by kernel_rfl
theorem Fa : laidOutB Tryz.pinned.checked.prog = true := bq
set_option maxRecDepth 100000 in
theorem yz : joinedFacts Tryz.pinned.checked.prog 7 Tryz.f7 Rows.flowSeesSpec Rows.flowSeesRow = true := by
  unfold joinedFacts
  rw [Fh, Fg, Ff, Fe, Fb, Fa]
  kernel_rfl
theorem zr : false = Rows.flowSeesRow.goesBy Tryz.pinned.checked.prog := by kernel_rfl
theorem yw : (([22, 23, 24, 65] : List Nat).all fun u => !Tryz.prog.wantsStandIn u) = true := by kernel_rfl

theorem yx : Rows.FlowSeesSaid :=
  OpenClaim.holds_of_wide 7 Tryz.f7 rfl rfl rfl rfl rfl rfl rfl ⟨rfl, rfl, rfl, rfl, rfl⟩ rfl rfl rfl rfl rfl (by kernel_rfl) Tryz.func7 yz
    (of_decide_eq_true (by kernel_rfl)) (by unfold Func.isWrapper; first | (rw [if_pos (by decide +kernel)]; kernel_rfl) | (rw [if_neg (by decide +kernel)]; exact ⟨rfl, rfl⟩))
    (fun os started H enc _ => wh os started H enc)

theorem F6 : Rows.FlowSeesCardSaid :=
  Claim7.holds_tied_plain_at .later [] [.data] true (true, "5d27a65236db43743fdcf343a1e4647ad0ae3f8110dc6a117830f1b97844653f") true
    yx (fun _ h => by cases h) (by kernel_rfl) (fun _ h => by cases h) flowSees_row_tie rfl ⟨rfl, rfl⟩ (by kernel_rfl) rfl
    (fun f fn hf hfn => by
      obtain rfl : f = 7 := Option.some.inj ((show Tryz.prog.funcNamed "louvre/louvrelaw27.FlowSees" = some 7 by kernel_rfl).symm.trans hf) |>.symm
      obtain rfl : fn = Tryz.f7 := (Option.some.inj (Tryz.func7.symm.trans hfn)).symm
      exact ⟨by kernel_rfl, fun j t ht => by
        rw [Tryz.params7] at ht
        have hm : t ∈ [22, 23, 24, 65] := by simpa using Wl ht
        exact (show Tryz.prog.wantsStandIn t = false by simpa using UT.1 yw t hm)⟩)
    zr

end Go.Proofs.YthefeclkaaocnaaGreatDoor

/-
  The given card of FlowConstants: for every input that its row allows, the call returns true and each argument reads afterwards as it read eM. The row's listed variable holds what the program's text lays; the given tie ties it.
-/
import Derived.Test.YthefeclkaaocnaaGreatDoorKh01
namespace Go.Proofs.YthefeclkaaocnaaGreatDoor
open Go Go.ChangeShapes Go.WideShapes Go.ChangeAt Go.RowKit Go.SL

set_option maxRecDepth 100000 in
theorem pN (os : Os) (started : os.Started) (H : Type) (enc : TypeId × Value → H) :
    ReturnsInHanded {} Tryz.checked os 8 .any (fun w args => (Rows.flowConstantsSpec.pre enc Tryz.prog Tryz.f8 Rows.flowConstantsRow.domain false w args ∧ laidMetH Tryz.prog gj w) ∧ sizedMet enc Tryz.prog Tryz.f8 (OpenSpec.ofChange Rows.flowConstantsSpec) false w args)
      (Rows.flowConstantsSpec.post enc Tryz.prog Tryz.f8 false true false false) := by
  refine returnsInHanded_of_change_and (C := Tryz.checked) (X := fun w _ => laidMetH Tryz.prog gj w) (fun _ _ _ hh h => h.of_heap hh) wK started (by kernel_rfl) Tryz.func8
    (ChangeSpec.witness_shaped (enc := enc) (C := Tryz.checked) (os := os) (X := fun w _ => laidMetH Tryz.prog gj w) false (World.laidAll Tryz.prog os gj) #[.slice none 0 0, .slice none 0 0, .slice none 0 0, .int .u8 0] 8 (World.laidAll_os _ _ _)
      (World.shaped_of_ZipB (by kernel_rfl) (by kernel_rfl)) (by kernel_rfl) (by kernel_rfl) (by kernel_rfl)
      (by rw [MakeChecks.laidMetH_plain _ _ _ (by kernel_rfl)]; exact laidMet_laidAll _ (by kernel_rfl) (by kernel_rfl))) ?_
  intro W base args ds gs eM hval0 hW hcnd hsz hLd _
  have hval : ∀ (j : Nat) t v, Tryz.f8.params[j]? = some t → args[j]? = some v → Value.okWide Tryz.prog W .any base t v := hval0
  have hWd := jx hLd
  have hW' := hW
  obtain ⟨p, q, hA0, hV, rfl, hfz, hnd⟩ := hW
  have hA : DataW.TrodAll enc Tryz.prog W 0 (fun _ => true) true Tryz.f8.params.toList args.toList ds p := hA0
  rw [Tryz.params8] at hA hval
  obtain ⟨v0, v1, v2, v3, d0, d1, d2, d3, p0, p1, p2, p3, rfl, rfl, rfl, h0, h1, h2, h3⟩ := trodAll_four hA
  obtain ⟨rfl, rfl⟩ := trodVars_none hV
  clear hcnd
  obtain ⟨L0, hL0, wL0⟩ := kq (hval 0 22 v0 rfl rfl) h0
  obtain ⟨L1, hL1⟩ := nH (hval 1 23 v1 rfl rfl) h1
  obtain ⟨L2, hL2⟩ := lI (hval 2 24 v2 rfl rfl) h2
  obtain ⟨x3, rfl, -, -, wx3⟩ := open_int Tryz.underlying5 (hval 3 5 v3 rfl rfl) h3
  have bx3 := bounds_u8 wx3
  clear hsz
  clear hA0 hval0
  simp only [TR] at hW'
  have hlt0 : ∀ x ∈ p0, x.block < W.heap.size := fun x hx => by simpa using hW'.lt x (by simp [hx])
  have hlt1 : ∀ x ∈ p1, x.block < W.heap.size := fun x hx => by simpa using hW'.lt x (by simp [hx])
  have hlt2 : ∀ x ∈ p2, x.block < W.heap.size := fun x hx => by simpa using hW'.lt x (by simp [hx])
  have hlt3 : ∀ x ∈ p3, x.block < W.heap.size := fun x hx => by simpa using hW'.lt x (by simp [hx])
  refine Calls.mono (uS L0 L1 L2 x3 bx3 v0 v1 v2 W hL0 hL1 hL2 hWd) ?_
  rintro e W' ⟨v, H', rfl, hm, rfl⟩
  exact ⟨_, rfl, jB (pa := p0 ++ (p1 ++ (p2 ++ p3))) (pv := []) hW' (fun _ _ _ => trodAll_mk1 (shut_bool Tryz.underlying4 true))
    (fun sp hsp => trodAll_mk4 (bu bq (by kernel_rfl) (of_decide_eq_true (by kernel_rfl)) h0 hm.below hlt0 fun x hx => hsp x (by simp [hx])) (bu bq (by kernel_rfl) (of_decide_eq_true (by kernel_rfl)) h1 hm.below hlt1 fun x hx => hsp x (by simp [hx])) (bu bq (by kernel_rfl) (of_decide_eq_true (by kernel_rfl)) h2 hm.below hlt2 fun x hx => hsp x (by simp [hx])) (bu bq (by kernel_rfl) (of_decide_eq_true (by kernel_rfl)) h3 hm.below hlt3 fun x hx => hsp x (by simp [hx])))
    (fun _ _ => rfl) (by simp) hm.below (ok_one (by kernel_rfl) rfl (okWide_bool_mk Tryz.underlying4 true))⟩

theorem uH : (Rows.flowConstantsRow.inPlace == Tryz.pinned.checked.prog.inPlace 8) = true := by kernel_rfl
theorem uG : (Rows.flowConstantsRow.unfollowed == Tryz.pinned.checked.prog.unfollowed 8) = true := by kernel_rfl
theorem uF : (Rows.flowConstantsRow.recurses == Tryz.pinned.checked.prog.recurses 8) = true := by kernel_rfl
theorem uE : (Rows.flowConstantsRow.named == Tryz.pinned.checked.prog.varsNamed 8) = true := by kernel_rfl
theorem uD : mapsRowed Tryz.pinned.checked.prog = true := by kernel_rfl
theorem uC : laidOutB Tryz.pinned.checked.prog = true := bq
set_option maxRecDepth 100000 in
theorem qB : joinedFacts Tryz.pinned.checked.prog 8 Tryz.f8 Rows.flowConstantsSpec Rows.flowConstantsRow = true := by
  unfold joinedFacts
  rw [uH, uG, uF, uE, uD, uC]
  kernel_rfl
theorem rL : false = Rows.flowConstantsRow.goesBy Tryz.pinned.checked.prog := by kernel_rfl
theorem qz : (([22, 23, 24, 5] : List Nat).all fun u => !Tryz.prog.wantsStandIn u) = true := by kernel_rfl

theorem qA : Rows.FlowConstantsSaid :=
  OpenClaim.holds_of_wide 8 Tryz.f8 rfl rfl rfl rfl rfl rfl rfl ⟨rfl, rfl, rfl, rfl, rfl⟩ rfl rfl rfl rfl rfl (by kernel_rfl) Tryz.func8 qB
    (of_decide_eq_true (by kernel_rfl)) (by unfold Func.isWrapper; first | (rw [if_pos (by decide +kernel)]; kernel_rfl) | (rw [if_neg (by decide +kernel)]; exact ⟨rfl, rfl⟩))
    (fun os started H enc _ => pN os started H enc)

theorem zu : Rows.FlowConstantsCardSaid :=
  Claim7.holds_tied_plain_at .later [] [.data] true (true, "5d27a65236db43743fdcf343a1e4647ad0ae3f8110dc6a117830f1b97844653f") true
    qA (fun _ h => by cases h) (by kernel_rfl) (fun _ h => by cases h) flowConstants_row_tie rfl ⟨rfl, rfl⟩ (by kernel_rfl) rfl
    (fun f fn hf hfn => by
      obtain rfl : f = 8 := Option.some.inj ((show Tryz.prog.funcNamed "louvre/louvrelaw27.FlowConstants" = some 8 by kernel_rfl).symm.trans hf) |>.symm
      obtain rfl : fn = Tryz.f8 := (Option.some.inj (Tryz.func8.symm.trans hfn)).symm
      exact ⟨by kernel_rfl, fun j t ht => by
        rw [Tryz.params8] at ht
        have hm : t ∈ [22, 23, 24, 5] := by simpa using Wl ht
        exact (show Tryz.prog.wantsStandIn t = false by simpa using UT.1 qz t hm)⟩)
    rL

end Go.Proofs.YthefeclkaaocnaaGreatDoor

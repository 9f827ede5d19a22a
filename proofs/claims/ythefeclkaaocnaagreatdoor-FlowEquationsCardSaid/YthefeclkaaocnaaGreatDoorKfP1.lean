/-
  The given card of FlowEquations: for every input that its row allows, the call returns true and each argument reads afterwards as it read eM. The row's listed variable holds what the program's text lays; the given tie ties it.
-/
import Derived.Test.YthefeclkaaocnaaGreatDoorKf26
import Derived.Test.YthefeclkaaocnaaGreatDoorKf34
import Derived.Test.YthefeclkaaocnaaGreatDoorKf35
namespace Go.Proofs.YthefeclkaaocnaaGreatDoor
open Go Go.ChangeShapes Go.WideShapes Go.ChangeAt Go.RowKit Go.SL

set_option maxRecDepth 100000 in
theorem pM (os : Os) (started : os.Started) (H : Type) (enc : TypeId × Value → H) :
    ReturnsInHanded {} Tryz.checked os 9 .any (fun w args => (Rows.flowEquationsSpec.pre enc Tryz.prog Tryz.f9 Rows.flowEquationsRow.domain false w args ∧ laidMetH Tryz.prog gj w) ∧ sizedMet enc Tryz.prog Tryz.f9 (OpenSpec.ofChange Rows.flowEquationsSpec) false w args)
      (Rows.flowEquationsSpec.post enc Tryz.prog Tryz.f9 false true false false) := by
  refine returnsInHanded_of_change_and (C := Tryz.checked) (X := fun w _ => laidMetH Tryz.prog gj w) (fun _ _ _ hh h => h.of_heap hh) wK started (by kernel_rfl) Tryz.func9
    (ChangeSpec.witness_shaped (enc := enc) (C := Tryz.checked) (os := os) (X := fun w _ => laidMetH Tryz.prog gj w) false (World.laidAll Tryz.prog os gj) #[.slice none 0 0, .slice none 0 0, .slice none 0 0] 8 (World.laidAll_os _ _ _)
      (World.shaped_of_ZipB (by kernel_rfl) (by kernel_rfl)) (by kernel_rfl) (by kernel_rfl) (by kernel_rfl)
      (by rw [MakeChecks.laidMetH_plain _ _ _ (by kernel_rfl)]; exact laidMet_laidAll _ (by kernel_rfl) (by kernel_rfl))) ?_
  intro W base args ds gs eM hval0 hW hcnd hsz hLd _
  have hval : ∀ (j : Nat) t v, Tryz.f9.params[j]? = some t → args[j]? = some v → Value.okWide Tryz.prog W .any base t v := hval0
  have hWd := jx hLd
  have hW' := hW
  obtain ⟨p, q, hA0, hV, rfl, hfz, hnd⟩ := hW
  have hA : DataW.TrodAll enc Tryz.prog W 0 (fun _ => true) true Tryz.f9.params.toList args.toList ds p := hA0
  rw [Tryz.params9] at hA hval
  obtain ⟨v0, v1, v2, d0, d1, d2, p0, p1, p2, rfl, rfl, rfl, h0, h1, h2⟩ := trodAll_three hA
  obtain ⟨rfl, rfl⟩ := trodVars_none hV
  clear hcnd
  obtain ⟨L0, hL0, wL0⟩ := kq (hval 0 22 v0 rfl rfl) h0
  obtain ⟨L1, hL1⟩ := nH (hval 1 23 v1 rfl rfl) h1
  obtain ⟨L2, hL2⟩ := lI (hval 2 24 v2 rfl rfl) h2
  clear hsz
  clear hA0 hval0
  simp only [TR] at hW'
  have hlt0 : ∀ x ∈ p0, x.block < W.heap.size := fun x hx => by simpa using hW'.lt x (by simp [hx])
  have hlt1 : ∀ x ∈ p1, x.block < W.heap.size := fun x hx => by simpa using hW'.lt x (by simp [hx])
  have hlt2 : ∀ x ∈ p2, x.block < W.heap.size := fun x hx => by simpa using hW'.lt x (by simp [hx])
  refine Calls.mono (uR L0 L1 L2 v0 v1 v2 W hL0 hL1 hL2 hWd) ?_
  rintro e W' ⟨v, H', rfl, hm, rfl⟩
  exact ⟨_, rfl, jB (pa := p0 ++ (p1 ++ p2)) (pv := []) hW' (fun _ _ _ => trodAll_mk1 (shut_bool Tryz.underlying4 true))
    (fun sp hsp => trodAll_mk3 (bu bq (by kernel_rfl) (of_decide_eq_true (by kernel_rfl)) h0 hm.below hlt0 fun x hx => hsp x (by simp [hx])) (bu bq (by kernel_rfl) (of_decide_eq_true (by kernel_rfl)) h1 hm.below hlt1 fun x hx => hsp x (by simp [hx])) (bu bq (by kernel_rfl) (of_decide_eq_true (by kernel_rfl)) h2 hm.below hlt2 fun x hx => hsp x (by simp [hx])))
    (fun _ _ => rfl) (by simp) hm.below (ok_one (by kernel_rfl) rfl (okWide_bool_mk Tryz.underlying4 true))⟩

theorem uB : (Rows.flowEquationsRow.inPlace == Tryz.pinned.checked.prog.inPlace 9) = true := by kernel_rfl
theorem uA : (Rows.flowEquationsRow.unfollowed == Tryz.pinned.checked.prog.unfollowed 9) = true := by kernel_rfl
theorem uz : (Rows.flowEquationsRow.recurses == Tryz.pinned.checked.prog.recurses 9) = true := by kernel_rfl
theorem uy : (Rows.flowEquationsRow.named == Tryz.pinned.checked.prog.varsNamed 9) = true := by kernel_rfl
theorem ux : mapsRowed Tryz.pinned.checked.prog = true := by kernel_rfl
theorem uw : laidOutB Tryz.pinned.checked.prog = true := bq
set_option maxRecDepth 100000 in
theorem qy : joinedFacts Tryz.pinned.checked.prog 9 Tryz.f9 Rows.flowEquationsSpec Rows.flowEquationsRow = true := by
  unfold joinedFacts
  rw [uB, uA, uz, uy, ux, uw]
  kernel_rfl
theorem rK : false = Rows.flowEquationsRow.goesBy Tryz.pinned.checked.prog := by kernel_rfl
theorem qw : (([22, 23, 24] : List Nat).all fun u => !Tryz.prog.wantsStandIn u) = true := by kernel_rfl

theorem qx : Rows.FlowEquationsSaid :=
  OpenClaim.holds_of_wide 9 Tryz.f9 rfl rfl rfl rfl rfl rfl rfl ⟨rfl, rfl, rfl, rfl, rfl⟩ rfl rfl rfl rfl rfl (by kernel_rfl) Tryz.func9 qy
    (of_decide_eq_true (by kernel_rfl)) (by unfold Func.isWrapper; first | (rw [if_pos (by decide +kernel)]; kernel_rfl) | (rw [if_neg (by decide +kernel)]; exact ⟨rfl, rfl⟩))
    (fun os started H enc _ => pM os started H enc)

theorem zt : Rows.FlowEquationsCardSaid :=
  Claim7.holds_tied_plain_at .later [] [.data] true (true, "5d27a65236db43743fdcf343a1e4647ad0ae3f8110dc6a117830f1b97844653f") true
    qx (fun _ h => by cases h) (by kernel_rfl) (fun _ h => by cases h) flowEquations_row_tie rfl ⟨rfl, rfl⟩ (by kernel_rfl) rfl
    (fun f fn hf hfn => by
      obtain rfl : f = 9 := Option.some.inj ((show Tryz.prog.funcNamed "louvre/louvrelaw27.FlowEquations" = some 9 by kernel_rfl).symm.trans hf) |>.symm
      obtain rfl : fn = Tryz.f9 := (Option.some.inj (Tryz.func9.symm.trans hfn)).symm
      exact ⟨by kernel_rfl, fun j t ht => by
        rw [Tryz.params9] at ht
        have hm : t ∈ [22, 23, 24] := by simpa using Wl ht
        exact (show Tryz.prog.wantsStandIn t = false by simpa using UT.1 qw t hm)⟩)
    rK

end Go.Proofs.YthefeclkaaocnaaGreatDoor

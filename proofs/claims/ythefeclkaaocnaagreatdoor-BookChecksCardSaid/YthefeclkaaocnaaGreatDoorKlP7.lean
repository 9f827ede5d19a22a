/-
  The given card of BookChecks: for every input that its row allows, the call returns true and each argument reads afterwards as it read before. The row's listed variable holds what the program's text lays; the given tie ties it.
-/
import Derived.Test.YthefeclkaaocnaaGreatDoorKl29
import Derived.Test.YthefeclkaaocnaaGreatDoorKl34
import Derived.Test.YthefeclkaaocnaaGreatDoorKl39
namespace Go.Proofs.YthefeclkaaocnaaGreatDoor
open Go Go.ChangeShapes Go.WideShapes Go.ChangeAt Go.RowKit Go.SL

set_option maxRecDepth 100000 in
theorem od (os : Os) (started : os.Started) (H : Type) (enc : TypeId × Value → H) :
    ReturnsInHanded {} Tryz.checked os 5 .any (fun w args => (Rows.bookChecksSpec.pre enc Tryz.prog Tryz.f5 Rows.bookChecksRow.domain false w args ∧ laidMetH Tryz.prog rM w) ∧ sizedMet enc Tryz.prog Tryz.f5 (OpenSpec.ofChange Rows.bookChecksSpec) false w args)
      (Rows.bookChecksSpec.post enc Tryz.prog Tryz.f5 false true false false) := by
  refine returnsInHanded_of_change_and (C := Tryz.checked) (X := fun w _ => laidMetH Tryz.prog rM w) (fun _ _ _ hh h => h.of_heap hh) Jf started (by kernel_rfl) Tryz.func5
    (ChangeSpec.witness_shaped (enc := enc) (C := Tryz.checked) (os := os) (X := fun w _ => laidMetH Tryz.prog rM w) false (World.laidAll Tryz.prog os rM) #[.agg #[.int .i64 0, .slice none 0 0, .slice none 0 0, .slice none 0 0, .slice none 0 0, .slice none 0 0, .int .i64 0], .agg #[.int .i64 0, .slice none 0 0, .slice none 0 0, .slice none 0 0, .slice none 0 0, .slice none 0 0, .int .i64 0], .slice none 0 0] 8 (World.laidAll_os _ _ _)
      (World.shaped_of_ZipB (by kernel_rfl) (by kernel_rfl)) (by kernel_rfl) (by kernel_rfl) (by kernel_rfl)
      (by rw [MakeChecks.laidMetH_plain _ _ _ (by kernel_rfl)]; exact laidMet_laidAll _ (by kernel_rfl) (by kernel_rfl))) ?_
  intro W base args ds gs before hval0 hW hcnd hsz hLd _
  have hval : ∀ (j : Nat) t v, Tryz.f5.params[j]? = some t → args[j]? = some v → Value.okWide Tryz.prog W .any base t v := hval0
  have hWd := s8 hLd
  have hW' := hW
  obtain ⟨p, q, hA0, hV, rfl, hfz, hnd⟩ := hW
  have hA : DataW.TrodAll enc Tryz.prog W 0 (fun _ => true) true Tryz.f5.params.toList args.toList ds p := hA0
  rw [Tryz.params5] at hA hval
  obtain ⟨v0, v1, v2, d0, d1, d2, p0, p1, p2, rfl, rfl, rfl, h0, h1, h2⟩ := trodAll_three hA
  obtain ⟨rfl, rfl⟩ := trodVars_none hV
  clear hcnd
  obtain ⟨b0, x0, rfl, hb0, hw0⟩ := uD (hval 0 28 v0 rfl rfl) h0
  obtain ⟨b1, x1, rfl, hb1, hw1⟩ := uD (hval 1 28 v1 rfl rfl) h1
  obtain ⟨L2, hL2, wL2⟩ := DV (hval 2 65 v2 rfl rfl) h2
  clear hsz
  clear hA0 hval0
  simp only [LN] at hW'
  have hlt0 : ∀ x ∈ p0, x.block < W.heap.size := fun x hx => by simpa using hW'.lt x (by simp [hx])
  have hlt1 : ∀ x ∈ p1, x.block < W.heap.size := fun x hx => by simpa using hW'.lt x (by simp [hx])
  have hlt2 : ∀ x ∈ p2, x.block < W.heap.size := fun x hx => by simpa using hW'.lt x (by simp [hx])
  refine Calls.mono (tT b0 b1 x0 x1 L2 v2 W hb0 hb1 hL2 hWd) ?_
  rintro e W' ⟨v, H', rfl, hm, rfl⟩
  exact ⟨_, rfl, tG (pa := p0 ++ (p1 ++ p2)) (pv := []) hW' (fun _ _ _ => trodAll_mk1 (shut_bool Tryz.underlying4 true))
    (fun sp hsp => trodAll_mk3 (jt jo (by kernel_rfl) (of_decide_eq_true (by kernel_rfl)) h0 hm.below hlt0 fun x hx => hsp x (by simp [hx])) (jt jo (by kernel_rfl) (of_decide_eq_true (by kernel_rfl)) h1 hm.below hlt1 fun x hx => hsp x (by simp [hx])) (jt jo (by kernel_rfl) (of_decide_eq_true (by kernel_rfl)) h2 hm.below hlt2 fun x hx => hsp x (by simp [hx])))
    (fun _ _ => rfl) (by simp) hm.below (ok_one (by kernel_rfl) rfl (okWide_bool_mk Tryz.underlying4 true))⟩

theorem tO : (Rows.bookChecksRow.inPlace == Tryz.pinned.checked.prog.inPlace 5) = true := by kernel_rfl
theorem tN : (Rows.bookChecksRow.unfollowed == Tryz.pinned.checked.prog.unfollowed 5) = true := by kernel_rfl
theorem tM : (Rows.bookChecksRow.recurses == Tryz.pinned.checked.prog.recurses 5) = true := by kernel_rfl
theorem tL : (Rows.bookChecksRow.named == Tryz.pinned.checked.prog.varsNamed 5) = true := by kernel_rfl
theorem tK : mapsRowed Tryz.pinned.checked.prog = true := by kernel_rfl
theorem tJ : laidOutB Tryz.pinned.checked.prog = true := jo
set_option maxRecDepth 100000 in
theorem o9 : joinedFacts Tryz.pinned.checked.prog 5 Tryz.f5 Rows.bookChecksSpec Rows.bookChecksRow = true := by
  unfold joinedFacts
  rw [tO, tN, tM, tL, tK, tJ]
  kernel_rfl
theorem p7 : false = Rows.bookChecksRow.goesBy Tryz.pinned.checked.prog := by kernel_rfl
theorem o7 : (([28, 28, 65] : List Nat).all fun u => !Tryz.prog.wantsStandIn u) = true := by kernel_rfl

theorem o8 : Rows.BookChecksSaid :=
  OpenClaim.holds_of_wide 5 Tryz.f5 rfl rfl rfl rfl rfl rfl rfl ⟨rfl, rfl, rfl, rfl, rfl⟩ rfl rfl rfl rfl rfl (by kernel_rfl) Tryz.func5 o9
    (of_decide_eq_true (by kernel_rfl)) (by unfold Func.isWrapper; first | (rw [if_pos (by decide +kernel)]; kernel_rfl) | (rw [if_neg (by decide +kernel)]; exact ⟨rfl, rfl⟩))
    (fun os started H enc _ => od os started H enc)

theorem wP : Rows.BookChecksCardSaid :=
  Claim7.holds_tied_plain_at .later [] [.data] true (true, "5d27a65236db43743fdcf343a1e4647ad0ae3f8110dc6a117830f1b97844653f") true
    o8 (fun _ h => by cases h) (by kernel_rfl) (fun _ h => by cases h) bookChecks_row_tie rfl ⟨rfl, rfl⟩ (by kernel_rfl) rfl
    (fun f fn hf hfn => by
      obtain rfl : f = 5 := Option.some.inj ((show Tryz.prog.funcNamed "louvre/louvrelaw31.BookChecks" = some 5 by kernel_rfl).symm.trans hf) |>.symm
      obtain rfl : fn = Tryz.f5 := (Option.some.inj (Tryz.func5.symm.trans hfn)).symm
      exact ⟨by kernel_rfl, fun j t ht => by
        rw [Tryz.params5] at ht
        have hm : t ∈ [28, 28, 65] := by simpa using Array.mem_of_getElem? ht
        exact (show Tryz.prog.wantsStandIn t = false by simpa using MJ.1 o7 t hm)⟩)
    p7

end Go.Proofs.YthefeclkaaocnaaGreatDoor

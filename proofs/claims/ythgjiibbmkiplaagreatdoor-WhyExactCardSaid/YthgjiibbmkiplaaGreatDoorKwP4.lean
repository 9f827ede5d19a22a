/-
  The given card of WhyExact: for every input that its row allows, the call returns true and each argument reads afterwards as it read before. The row's listed variable holds what the program's text lays; the given tie ties it.
-/
import Derived.Test.YthgjiibbmkiplaaGreatDoorKw45
import Derived.Test.YthgjiibbmkiplaaGreatDoorKw49
namespace Go.Proofs.YthgjiibbmkiplaaGreatDoor
open Go Go.ChangeShapes Go.WideShapes Go.ChangeAt Go.RowKit Go.SL

set_option maxRecDepth 100000 in
theorem wk (os : Os) (started : os.Started) (H : Type) (enc : TypeId × Value → H) :
    ReturnsInHanded {} Tryz.checked os 7 .any (fun w args => (Rows.whyExactSpec.pre enc Tryz.prog Tryz.f7 Rows.whyExactRow.domain false w args ∧ laidMetH Tryz.prog dW w) ∧ sizedMet enc Tryz.prog Tryz.f7 (OpenSpec.ofChange Rows.whyExactSpec) false w args)
      (Rows.whyExactSpec.post enc Tryz.prog Tryz.f7 false true false false) := by
  refine returnsInHanded_of_change_and (C := Tryz.checked) (X := fun w _ => laidMetH Tryz.prog dW w) (fun _ _ _ hh h => h.of_heap hh) tW started (by kernel_rfl) Tryz.func7
    (ChangeSpec.witness_shaped (enc := enc) (C := Tryz.checked) (os := os) (X := fun w _ => laidMetH Tryz.prog dW w) false (World.laidAll Tryz.prog os dW) #[.int .i64 0, .agg #[.int .i64 0, .int .i64 0], .agg #[.int .i64 0, .slice none 0 0, .slice none 0 0, .slice none 0 0, .slice none 0 0, .slice none 0 0, .int .i64 0], .agg #[.int .i64 0, .int .i64 0]] 8 (World.laidAll_os _ _ _)
      (World.shaped_of_ZipB (by kernel_rfl) (by kernel_rfl)) (by kernel_rfl) (by kernel_rfl) (by kernel_rfl)
      (by rw [MakeChecks.laidMetH_plain _ _ _ (by kernel_rfl)]; exact laidMet_laidAll _ (by kernel_rfl) (by kernel_rfl))) ?_
  intro W base args ds gs before hval0 hW hcnd hsz hLd _
  have hval : ∀ (j : Nat) t v, Tryz.f7.params[j]? = some t → args[j]? = some v → Value.okWide Tryz.prog W .any base t v := hval0
  have hWd := gQ hLd
  have hW' := hW
  obtain ⟨p, q, hA0, hV, rfl, hfz, hnd⟩ := hW
  have hA : DataW.TrodAll enc Tryz.prog W 0 (fun _ => true) true Tryz.f7.params.toList args.toList ds p := hA0
  rw [Tryz.params7] at hA hval
  obtain ⟨v0, v1, v2, v3, d0, d1, d2, d3, p0, p1, p2, p3, rfl, rfl, rfl, h0, h1, h2, h3⟩ := trodAll_four hA
  obtain ⟨rfl, rfl⟩ := trodVars_none hV
  clear hcnd
  obtain ⟨x0, rfl, -, -, wx0⟩ := open_int Tryz.underlying3 (hval 0 3 v0 rfl rfl) h0
  have bx0 := bounds_i64 wx0
  obtain ⟨r1, rfl, wr1⟩ := oR (hval 1 34 v1 rfl rfl) h1
  obtain ⟨b2, x2, rfl, hb2, hw2⟩ := qh (hval 2 28 v2 rfl rfl) h2
  obtain ⟨r3, rfl, wr3⟩ := oR (hval 3 34 v3 rfl rfl) h3
  have hs2 : SmallW b2 := ny h2 fun n hn => by
    have h1 := Yt.1 hsz _ (DataW.weights_mem_each (j := 2) (t := 28) (by rw [Tryz.params7]; rfl) rfl _ hn)
    simpa using h1
  clear hsz
  clear hA0 hval0
  simp only [Xm] at hW'
  have hlt0 : ∀ x ∈ p0, x.block < W.heap.size := fun x hx => by simpa using hW'.lt x (by simp [hx])
  have hlt1 : ∀ x ∈ p1, x.block < W.heap.size := fun x hx => by simpa using hW'.lt x (by simp [hx])
  have hlt2 : ∀ x ∈ p2, x.block < W.heap.size := fun x hx => by simpa using hW'.lt x (by simp [hx])
  have hlt3 : ∀ x ∈ p3, x.block < W.heap.size := fun x hx => by simpa using hW'.lt x (by simp [hx])
  refine Calls.mono (HC x0 r1 r3 b2 x2 W hb2 hWd hs2) ?_
  rintro e W' ⟨v, H', rfl, hm, rfl⟩
  exact ⟨_, rfl, gT (pa := p0 ++ (p1 ++ (p2 ++ p3))) (pv := []) hW' (fun _ _ _ => trodAll_mk1 (shut_bool Tryz.underlying4 true))
    (fun sp hsp => trodAll_mk4 (bF bC (by kernel_rfl) (of_decide_eq_true (by kernel_rfl)) h0 hm.below hlt0 fun x hx => hsp x (by simp [hx])) (bF bC (by kernel_rfl) (of_decide_eq_true (by kernel_rfl)) h1 hm.below hlt1 fun x hx => hsp x (by simp [hx])) (bF bC (by kernel_rfl) (of_decide_eq_true (by kernel_rfl)) h2 hm.below hlt2 fun x hx => hsp x (by simp [hx])) (bF bC (by kernel_rfl) (of_decide_eq_true (by kernel_rfl)) h3 hm.below hlt3 fun x hx => hsp x (by simp [hx])))
    (fun _ _ => rfl) (by simp) hm.below (ok_one (by kernel_rfl) rfl (okWide_bool_mk Tryz.underlying4 true))⟩

theorem Ew : (Rows.whyExactRow.inPlace == Tryz.pinned.checked.prog.inPlace 7) = true := by kernel_rfl
theorem Eu : (Rows.whyExactRow.unfollowed == Tryz.pinned.checked.prog.unfollowed 7) = true := by kernel_rfl
theorem Es : (Rows.whyExactRow.recurses == Tryz.pinned.checked.prog.recurses 7) = true := by kernel_rfl
theorem Er : (Rows.whyExactRow.named == Tryz.pinned.checked.prog.varsNamed 7) = true := by kernel_rfl
theorem Ep : mapsRowed Tryz.pinned.checked.prog = true := by kernel_rfl
theorem Eo : laidOutB Tryz.pinned.checked.prog = true := bC
set_option maxRecDepth 100000 in
theorem xz : joinedFacts Tryz.pinned.checked.prog 7 Tryz.f7 Rows.whyExactSpec Rows.whyExactRow = true := by
  unfold joinedFacts
  rw [Ew, Eu, Es, Er, Ep, Eo]
  kernel_rfl
theorem zH : false = Rows.whyExactRow.goesBy Tryz.pinned.checked.prog := o6 (P := Tryz.prog) (by kernel_rfl) _
theorem xx : (([3, 34, 28, 34] : List Nat).all fun u => !Tryz.prog.wantsStandIn u) = true := by kernel_rfl

theorem xy : Rows.WhyExactSaid :=
  OpenClaim.holds_of_wide 7 Tryz.f7 rfl rfl rfl rfl rfl rfl rfl ⟨rfl, rfl, rfl, rfl, rfl⟩ rfl rfl rfl rfl rfl (by kernel_rfl) Tryz.func7 xz
    (of_decide_eq_true (by kernel_rfl)) (by unfold Func.isWrapper; first | (rw [if_pos (by decide +kernel)]; kernel_rfl) | (rw [if_neg (by decide +kernel)]; exact ⟨rfl, rfl⟩))
    (fun os started H enc _ => wk os started H enc)

theorem HP : Rows.WhyExactCardSaid :=
  Claim7.holds_tied_plain_at .later [] [.data] true (true, "6a93ec261334ab35d843de081f4d41d196502952b01acf77b09caa339a40ede3") true
    xy (fun _ h => by cases h) (by kernel_rfl) (fun _ h => by cases h) whyExact_row_tie rfl ⟨rfl, rfl⟩ (by kernel_rfl) rfl
    (fun f fn hf hfn => by
      obtain rfl : f = 7 := Option.some.inj ((show Tryz.prog.funcNamed "louvre/louvrelaw40.WhyExact" = some 7 by kernel_rfl).symm.trans hf) |>.symm
      obtain rfl : fn = Tryz.f7 := (Option.some.inj (Tryz.func7.symm.trans hfn)).symm
      exact ⟨by kernel_rfl, fun j t ht => by
        rw [Tryz.params7] at ht
        have hm : t ∈ [3, 34, 28, 34] := by simpa using ZI ht
        exact (show Tryz.prog.wantsStandIn t = false by simpa using Yt.1 xx t hm)⟩)
    zH

end Go.Proofs.YthgjiibbmkiplaaGreatDoor

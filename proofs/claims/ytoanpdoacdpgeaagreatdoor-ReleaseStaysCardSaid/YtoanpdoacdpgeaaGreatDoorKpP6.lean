/-
  The given card of ReleaseStays: for every input that its row allows, the call returns true and each argument reads afterwards as it read before. The row's listed variable holds what the program's text lays; the given tie ties it.
-/
import Derived.Test.YtoanpdoacdpgeaaGreatDoorKp11
import Derived.Test.YtoanpdoacdpgeaaGreatDoorKp20
import Derived.Test.YtoanpdoacdpgeaaGreatDoorKp27
namespace Go.Proofs.YtoanpdoacdpgeaaGreatDoor
open Go Go.ChangeShapes Go.WideShapes Go.ChangeAt Go.RowKit Go.SL

set_option maxRecDepth 100000 in
theorem nZ (os : Os) (started : os.Started) (H : Type) (enc : TypeId × Value → H) :
    ReturnsInHanded {} Tryz.checked os 7 .any (fun w args => (Rows.releaseStaysSpec.pre enc Tryz.prog Tryz.f7 Rows.releaseStaysRow.domain false w args ∧ laidMetH Tryz.prog uZ w) ∧ sizedMet enc Tryz.prog Tryz.f7 (OpenSpec.ofChange Rows.releaseStaysSpec) false w args)
      (Rows.releaseStaysSpec.post enc Tryz.prog Tryz.f7 false true false false) := by
  refine returnsInHanded_of_change_and (C := Tryz.checked) (X := fun w _ => laidMetH Tryz.prog uZ w) (fun _ _ _ hh h => h.of_heap hh) Nw started (by kernel_rfl) Tryz.func7
    (ChangeSpec.witness_shaped (enc := enc) (C := Tryz.checked) (os := os) (X := fun w _ => laidMetH Tryz.prog uZ w) false (World.laidAll Tryz.prog os uZ) #[.agg #[.int .i64 0, .slice none 0 0, .slice none 0 0, .slice none 0 0, .slice none 0 0, .slice none 0 0, .int .i64 0], .agg #[.int .u8 0, .int .i64 0, .int .i64 0, .int .i64 0, .int .i64 0, .int .i64 0, .string ⟨#[]⟩, .int .u64 0, .int .u64 0, .int .u64 0, .int .u8 0, .int .u64 0, .int .i64 0], .int .u8 0] 8 (World.laidAll_os _ _ _)
      (World.shaped_of_ZipB (by kernel_rfl) (by kernel_rfl)) (by kernel_rfl) (by kernel_rfl) (by kernel_rfl)
      (by rw [MakeChecks.laidMetH_plain _ _ _ (by kernel_rfl)]; exact laidMet_laidAll _ (by kernel_rfl) (by kernel_rfl))) ?_
  intro W base args ds gs before hval0 hW hcnd hsz hLd _
  have hval : ∀ (j : Nat) t v, Tryz.f7.params[j]? = some t → args[j]? = some v → Value.okWide Tryz.prog W .any base t v := hval0
  have hWd := wn hLd
  have hW' := hW
  obtain ⟨p, q, hA0, hV, rfl, hfz, hnd⟩ := hW
  have hA : DataW.TrodAll enc Tryz.prog W 0 (fun _ => true) true Tryz.f7.params.toList args.toList ds p := hA0
  rw [Tryz.params7] at hA hval
  obtain ⟨v0, v1, v2, d0, d1, d2, p0, p1, p2, rfl, rfl, rfl, h0, h1, h2⟩ := trodAll_three hA
  obtain ⟨rfl, rfl⟩ := trodVars_none hV
  clear hcnd
  obtain ⟨b0, x0, rfl, hb0, hw0⟩ := Hq (hval 0 28 v0 rfl rfl) h0
  obtain ⟨o1, rfl⟩ := MD (hval 1 37 v1 rfl rfl) h1
  obtain ⟨x2, rfl, -, -, wx2⟩ := open_int Tryz.underlying5 (hval 2 5 v2 rfl rfl) h2
  have bx2 := bounds_u8 wx2
  clear hsz
  clear hA0 hval0
  simp only [Qr] at hW'
  have hlt0 : ∀ x ∈ p0, x.block < W.heap.size := fun x hx => by simpa using hW'.lt x (by simp [hx])
  have hlt1 : ∀ x ∈ p1, x.block < W.heap.size := fun x hx => by simpa using hW'.lt x (by simp [hx])
  have hlt2 : ∀ x ∈ p2, x.block < W.heap.size := fun x hx => by simpa using hW'.lt x (by simp [hx])
  refine Calls.mono (sF b0 x0 o1 x2 bx2 W hb0 hWd) ?_
  rintro e W' ⟨v, H', rfl, hm, rfl⟩
  exact ⟨_, rfl, wI (pa := p0 ++ (p1 ++ p2)) (pv := []) hW' (fun _ _ _ => trodAll_mk1 (shut_bool Tryz.underlying4 true))
    (fun sp hsp => trodAll_mk3 (kq j9 (by kernel_rfl) (of_decide_eq_true (by kernel_rfl)) h0 hm.below hlt0 fun x hx => hsp x (by simp [hx])) (kq j9 (by kernel_rfl) (of_decide_eq_true (by kernel_rfl)) h1 hm.below hlt1 fun x hx => hsp x (by simp [hx])) (kq j9 (by kernel_rfl) (of_decide_eq_true (by kernel_rfl)) h2 hm.below hlt2 fun x hx => hsp x (by simp [hx])))
    (fun _ _ => rfl) (by simp) hm.below (ok_one (by kernel_rfl) rfl (okWide_bool_mk Tryz.underlying4 true))⟩

theorem sq : (Rows.releaseStaysRow.inPlace == Tryz.pinned.checked.prog.inPlace 7) = true := by kernel_rfl
theorem sn : (Rows.releaseStaysRow.unfollowed == Tryz.pinned.checked.prog.unfollowed 7) = true := by kernel_rfl
theorem sm : (Rows.releaseStaysRow.recurses == Tryz.pinned.checked.prog.recurses 7) = true := by kernel_rfl
theorem sj : (Rows.releaseStaysRow.named == Tryz.pinned.checked.prog.varsNamed 7) = true := by kernel_rfl
theorem si : mapsRowed Tryz.pinned.checked.prog = true := by kernel_rfl
theorem r9 : laidOutB Tryz.pinned.checked.prog = true := j9
set_option maxRecDepth 100000 in
theorem o3 : joinedFacts Tryz.pinned.checked.prog 7 Tryz.f7 Rows.releaseStaysSpec Rows.releaseStaysRow = true := by
  unfold joinedFacts
  rw [sq, sn, sm, sj, si, r9]
  kernel_rfl
theorem pX : false = Rows.releaseStaysRow.goesBy Tryz.pinned.checked.prog := by kernel_rfl
theorem oY : (([28, 37, 5] : List Nat).all fun u => !Tryz.prog.wantsStandIn u) = true := by kernel_rfl

theorem oZ : Rows.ReleaseStaysSaid :=
  OpenClaim.holds_of_wide 7 Tryz.f7 rfl rfl rfl rfl rfl rfl rfl ⟨rfl, rfl, rfl, rfl, rfl⟩ rfl rfl rfl rfl rfl (by kernel_rfl) Tryz.func7 o3
    (of_decide_eq_true (by kernel_rfl)) (by unfold Func.isWrapper; first | (rw [if_pos (by decide +kernel)]; kernel_rfl) | (rw [if_neg (by decide +kernel)]; exact ⟨rfl, rfl⟩))
    (fun os started H enc _ => nZ os started H enc)

theorem xj : Rows.ReleaseStaysCardSaid :=
  Claim7.holds_tied_plain_at .later [] [.data] true (true, "fc3edb6548063e244778e537024da02a2b6624ff068467140e1145bd60a0ba00") true
    oZ (fun _ h => by cases h) (by kernel_rfl) (fun _ h => by cases h) releaseStays_row_tie rfl ⟨rfl, rfl⟩ (by kernel_rfl) rfl
    (fun f fn hf hfn => by
      obtain rfl : f = 7 := Option.some.inj ((show Tryz.prog.funcNamed "louvre/louvrelaw34.ReleaseStays" = some 7 by kernel_rfl).symm.trans hf) |>.symm
      obtain rfl : fn = Tryz.f7 := (Option.some.inj (Tryz.func7.symm.trans hfn)).symm
      exact ⟨by kernel_rfl, fun j t ht => by
        rw [Tryz.params7] at ht
        have hm : t ∈ [28, 37, 5] := by simpa using Array.mem_of_getElem? ht
        exact (show Tryz.prog.wantsStandIn t = false by simpa using RK.1 oY t hm)⟩)
    pX

end Go.Proofs.YtoanpdoacdpgeaaGreatDoor

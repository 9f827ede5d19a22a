/-
  The given card of ReleaseMatches: for every input that its row allows, the call returns true and each argument reads afterwards as it read before; the given tie ties its listed variable.
-/
import Derived.Test.YtoanpdoacdpgeaaGreatDoorKo13
import Derived.Test.YtoanpdoacdpgeaaGreatDoorKo23
import Derived.Test.YtoanpdoacdpgeaaGreatDoorKo30
namespace Go.Proofs.YtoanpdoacdpgeaaGreatDoor
open Go Go.ChangeShapes Go.WideShapes Go.ChangeAt Go.RowKit Go.SL

set_option maxRecDepth 100000 in
theorem mX (os : Os) (started : os.Started) (H : Type) (enc : TypeId × Value → H) :
    ReturnsInHanded {} Tryz.checked os 5 .any (fun w args => (Rows.releaseMatchesSpec.pre enc Tryz.prog Tryz.f5 Rows.releaseMatchesRow.domain false w args ∧ laidMetH Tryz.prog wS w) ∧ sizedMet enc Tryz.prog Tryz.f5 (OpenSpec.ofChange Rows.releaseMatchesSpec) false w args)
      (Rows.releaseMatchesSpec.post enc Tryz.prog Tryz.f5 false true false false):=by
  refine returnsInHanded_of_change_and (C:=Tryz.checked) (X:=fun w _ => laidMetH Tryz.prog wS w) (fun _ _ _ hh h => h.of_heap hh) Oo started (by kernel_rfl) Tryz.func5
    (ChangeSpec.witness_shaped (enc:=enc) (C:=Tryz.checked) (os:=os) (X:=fun w _ => laidMetH Tryz.prog wS w) false (World.laidAll Tryz.prog os wS) #[.agg #[.int .i64 0,.slice none 0 0,.slice none 0 0,.slice none 0 0,.slice none 0 0,.slice none 0 0,.int .i64 0],.agg #[.int .i64 0,.slice none 0 0,.slice none 0 0,.slice none 0 0,.slice none 0 0,.slice none 0 0,.int .i64 0]] 8 (World.laidAll_os _ _ _)
      (World.shaped_of_ZipB (by kernel_rfl) (by kernel_rfl)) (by kernel_rfl) (by kernel_rfl) (by kernel_rfl)
      (by rw [MakeChecks.laidMetH_plain _ _ _ (by kernel_rfl)]; exact laidMet_laidAll _ (by kernel_rfl) (by kernel_rfl))) ?_
  intro W base args ds gs before hval0 hW hcnd hsz hLd _
  have hval : ∀ (j : Nat) t v,Tryz.f5.params[j]? = some t → args[j]? = some v → Value.okWide Tryz.prog W .any base t v:=hval0
  have hWd:=xM hLd
  have hW':=hW
  obtain ⟨p,q,hA0,hV,rfl,hfz,hnd⟩:=hW
  have hA : DataW.TrodAll enc Tryz.prog W 0 (fun _ => true) true Tryz.f5.params.toList args.toList ds p:=hA0
  rw [Tryz.params5] at hA hval
  obtain ⟨v0,v1,d0,d1,p0,p1,rfl,rfl,rfl,h0,h1⟩:=trodAll_two hA
  obtain ⟨rfl,rfl⟩:=trodVars_none hV
  clear hcnd
  obtain ⟨b0,x0,rfl,hb0,hw0⟩:=yX (hval 0 28 v0 rfl rfl) h0
  obtain ⟨b1,x1,rfl,hb1,hw1⟩:=yX (hval 1 28 v1 rfl rfl) h1
  clear hsz
  clear hA0 hval0
  simp only [QZ] at hW'
  have hlt0 : ∀ x ∈ p0,x.block < W.heap.size:=fun x hx => by simpa using hW'.lt x (by simp [hx])
  have hlt1 : ∀ x ∈ p1,x.block < W.heap.size:=fun x hx => by simpa using hW'.lt x (by simp [hx])
  refine Calls.mono (sj b0 b1 x0 x1 W hb0 hb1 hWd) ?_
  rintro e W' ⟨v,H',rfl,hm,rfl⟩
  exact ⟨_,rfl,x9 (pa:=p0 ++ p1) (pv:=[]) hW' (fun _ _ _ => trodAll_mk1 (shut_bool Tryz.underlying4 true))
    (fun sp hsp => trodAll_mk2 (pE oJ (by kernel_rfl) (of_decide_eq_true (by kernel_rfl)) h0 hm.below hlt0 fun x hx => hsp x (by simp [hx])) (pE oJ (by kernel_rfl) (of_decide_eq_true (by kernel_rfl)) h1 hm.below hlt1 fun x hx => hsp x (by simp [hx])))
    (fun _ _ => rfl) (by simp) hm.below (ok_one (by kernel_rfl) rfl (okWide_bool_mk Tryz.underlying4 true))⟩

theorem rk : (Rows.releaseMatchesRow.inPlace == Tryz.pinned.checked.prog.inPlace 5) = true:=by kernel_rfl
theorem rj : (Rows.releaseMatchesRow.unfollowed == Tryz.pinned.checked.prog.unfollowed 5) = true:=by kernel_rfl
theorem ri : (Rows.releaseMatchesRow.recurses == Tryz.pinned.checked.prog.recurses 5) = true:=by kernel_rfl
theorem ra : (Rows.releaseMatchesRow.named == Tryz.pinned.checked.prog.varsNamed 5) = true:=by kernel_rfl
theorem q9 : mapsRowed Tryz.pinned.checked.prog = true:=by kernel_rfl
theorem qZ : laidOutB Tryz.pinned.checked.prog = true:=oJ
set_option maxRecDepth 100000 in
theorem nH : joinedFacts Tryz.pinned.checked.prog 5 Tryz.f5 Rows.releaseMatchesSpec Rows.releaseMatchesRow = true:=by
  unfold joinedFacts
  rw [rk,rj,ri,ra,q9,qZ]
  kernel_rfl
theorem px : false = Rows.releaseMatchesRow.goesBy Tryz.pinned.checked.prog:=by kernel_rfl
theorem nD : (([28,28] : List Nat).all fun u => !Tryz.prog.wantsStandIn u) = true:=by kernel_rfl

theorem nF : Rows.ReleaseMatchesSaid :=
  OpenClaim.holds_of_wide 5 Tryz.f5 rfl rfl rfl rfl rfl rfl rfl ⟨rfl,rfl,rfl,rfl,rfl⟩ rfl rfl rfl rfl rfl (by kernel_rfl) Tryz.func5 nH
    (of_decide_eq_true (by kernel_rfl)) (by unfold Func.isWrapper; first | (rw [if_pos (by decide +kernel)]; kernel_rfl) | (rw [if_neg (by decide +kernel)]; exact ⟨rfl,rfl⟩))
    (fun os started H enc _ => mX os started H enc)

theorem xK : Rows.ReleaseMatchesCardSaid :=
  Claim7.holds_tied_plain_at .later [] [.data] true (true,"fc3edb6548063e244778e537024da02a2b6624ff068467140e1145bd60a0ba00") true
    nF (fun _ h => by cases h) (by kernel_rfl) (fun _ h => by cases h) releaseMatches_row_tie rfl ⟨rfl,rfl⟩ (by kernel_rfl) rfl
    (fun f fn hf hfn => by
      obtain rfl : f = 5:=Option.some.inj ((show Tryz.prog.funcNamed "louvre/louvrelaw34.ReleaseMatches" = some 5 by kernel_rfl).symm.trans hf) |>.symm
      obtain rfl : fn = Tryz.f5:=(Option.some.inj (Tryz.func5.symm.trans hfn)).symm
      exact ⟨by kernel_rfl,fun j t ht => by
        rw [Tryz.params5] at ht
        have hm : t ∈ [28,28]:=by simpa using Array.mem_of_getElem? ht
        exact (show Tryz.prog.wantsStandIn t = false by simpa using SE.1 nD t hm)⟩)
    px

end Go.Proofs.YtoanpdoacdpgeaaGreatDoor

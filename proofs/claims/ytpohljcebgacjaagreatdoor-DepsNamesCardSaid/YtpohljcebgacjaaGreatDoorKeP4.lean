/-
 The given card of DepsNames: whenever its row allows, the call returns true. Condition: the row's listed variable holds what the program's text lays (the given tie).
-/
import Derived.Test.YtpohljcebgacjaaGreatDoorKe33
import Derived.Test.YtpohljcebgacjaaGreatDoorKe39
namespace Go.Proofs.YtpohljcebgacjaaGreatDoor
open Go Go.ChangeShapes Go.WideShapes Go.ChangeAt Go.RowKit Go.SL
set_option maxRecDepth 100000 in
theorem depsNames_lifted (os:Os) (started:os.Started) (H:Type) (enc:TypeId × Value→H):
  ReturnsInHanded {} Tryz.checked os 6 .any (fun w args=>(Rows.depsNamesSpec.pre enc Tryz.prog Tryz.f6 Rows.depsNamesRow.domain false w args∧laidMetH Tryz.prog laidWs w)∧sizedMet enc Tryz.prog Tryz.f6 (OpenSpec.ofChange Rows.depsNamesSpec) false w args)
   (Rows.depsNamesSpec.post enc Tryz.prog Tryz.f6 false true false false):=by
 refine returnsInHanded_of_change_and (C:=Tryz.checked) (X:=fun w _=>laidMetH Tryz.prog laidWs w) (fun _ _ _ hh h=>h.of_heap hh) Try_own started (by kernel_rfl) Tryz.func6
  (ChangeSpec.witness_shaped (enc:=enc) (C:=Tryz.checked) (os:=os) (X:=fun w _=>laidMetH Tryz.prog laidWs w) false (World.laidAll Tryz.prog os laidWs) #[] 8 (World.laidAll_os _ _ _)
   (World.shaped_of_ZipB (by kernel_rfl) (by kernel_rfl)) (by kernel_rfl) (by kernel_rfl) (by kernel_rfl)
   (by rw [MakeChecks.laidMetH_plain _ _ _ (by kernel_rfl)];exact laidMet_laidAll _ (by kernel_rfl) (by kernel_rfl))) ?_
 intro W base args ds gs before hval0 hW hcnd _ hLd _
 have hval: ∀ (j:Nat) t v,Tryz.f6.params[j]? =some t→args[j]? =some v→Value.okWide Tryz.prog W .any base t v:=hval0
 have hWd:=words_of_laid hLd
 have hW' :=hW
 obtain ⟨p,q,hA0,hV,rfl,hfz,hnd⟩:=hW
 have hA:DataW.TrodAll enc Tryz.prog W 0 (fun _=>true) true Tryz.f6.params.toList args.toList ds p:=hA0
 rw [Tryz.params6] at hA hval
 obtain ⟨rfl,rfl,rfl⟩:=trodAll_none hA
 obtain ⟨rfl,rfl⟩:=trodVars_none hV
 clear hcnd
 clear hA0 hval0
 simp only [List.append_nil] at hW'
 refine Calls.mono (DepsNames_at W hWd) ?_
 rintro e W' ⟨v,H',rfl,hm,rfl⟩
 exact ⟨_,rfl,post_of_below (pa:= []) (pv:= []) hW' (fun _ _ _=>trodAll_mk1 (shut_bool Tryz.underlying4 true))
  (fun sp hsp=>trodAll_mk0)
  (fun _ _=>rfl) (by simp) hm.below (ok_one (by kernel_rfl) rfl (okWide_bool_mk Tryz.underlying4 true))⟩
theorem depsNames_f1:(Rows.depsNamesRow.inPlace==Tryz.pinned.checked.prog.inPlace 6)=true:=by kernel_rfl
theorem depsNames_f2:(Rows.depsNamesRow.unfollowed==Tryz.pinned.checked.prog.unfollowed 6)=true:=by kernel_rfl
theorem depsNames_f3:(Rows.depsNamesRow.recurses==Tryz.pinned.checked.prog.recurses 6)=true:=by kernel_rfl
theorem depsNames_f4:(Rows.depsNamesRow.named==Tryz.pinned.checked.prog.varsNamed 6)=true:=by kernel_rfl
set_option maxRecDepth 100000 in
theorem depsNames_facts:joinedFacts Tryz.pinned.checked.prog 6 Tryz.f6 Rows.depsNamesSpec Rows.depsNamesRow=true:=by
 unfold joinedFacts
 rw [depsNames_f1,depsNames_f2,depsNames_f3,depsNames_f4]
 kernel_rfl
theorem depsNames_goes:false=Rows.depsNamesRow.goesBy Tryz.pinned.checked.prog:=by kernel_rfl
theorem depsNames_stand:(([]:List Nat).all fun u=> !Tryz.prog.wantsStandIn u)=true:=by kernel_rfl
theorem depsNames_holds:Rows.DepsNamesSaid:=
 OpenClaim.holds_of_wide 6 Tryz.f6 rfl rfl rfl rfl rfl rfl rfl ⟨rfl,rfl,rfl,rfl,rfl⟩ rfl rfl rfl rfl rfl (by kernel_rfl) Tryz.func6 depsNames_facts
  (of_decide_eq_true (by kernel_rfl)) (by unfold Func.isWrapper;first|(rw [if_pos (by decide+kernel)];kernel_rfl)|(rw [if_neg (by decide+kernel)];exact ⟨rfl,rfl⟩))
  (fun os started H enc _=>depsNames_lifted os started H enc)
theorem depsNames_card_holds:Rows.DepsNamesCardSaid:=
 Claim7.holds_tied_plain_at .later [] [.data] true (true, "9e8a139603b98fc5e9b62dca495ee8046e160ab7754a7a0b01d1cb85f2427766") true
  depsNames_holds (fun _ h=>by cases h) (by kernel_rfl) (fun _ h=>by cases h) depsNames_row_tie rfl ⟨rfl,rfl⟩ (by kernel_rfl) rfl
  (fun f fn hf hfn=>by
   obtain rfl:f=6:=Option.some.inj ((show Tryz.prog.funcNamed "louvre/louvrelaw22.DepsNames" =some 6 by kernel_rfl).symm.trans hf)|>.symm
   obtain rfl:fn=Tryz.f6:=(Option.some.inj (Tryz.func6.symm.trans hfn)).symm
   exact ⟨by kernel_rfl,fun j t ht=>by
    rw [Tryz.params6] at ht
    simp at ht⟩)
  depsNames_goes
end Go.Proofs.YtpohljcebgacjaaGreatDoor

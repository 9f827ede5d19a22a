/-
 The given card of ReachPaths: whenever its row allows, the call returns true and the arguments read as before. Condition: the row's listed variable holds what the program's text lays (the given tie).
-/
import Derived.Test.YtpohljcebgacjaaGreatDoorKt01
namespace Go.Proofs.YtpohljcebgacjaaGreatDoor
open Go Go.ChangeShapes Go.WideShapes Go.ChangeAt Go.RowKit Go.SL
set_option maxRecDepth 100000 in
theorem reachPaths_lifted (os:Os) (started:os.Started) (H:Type) (enc:TypeId × Value→H):
  ReturnsInHanded {} Tryz.checked os 10 .any (fun w args=>(Rows.reachPathsSpec.pre enc Tryz.prog Tryz.f10 Rows.reachPathsRow.domain false w args∧laidMetH Tryz.prog laidWs w)∧sizedMet enc Tryz.prog Tryz.f10 (OpenSpec.ofChange Rows.reachPathsSpec) false w args)
   (Rows.reachPathsSpec.post enc Tryz.prog Tryz.f10 false true false false):=by
 refine returnsInHanded_of_change_and (C:=Tryz.checked) (X:=fun w _=>laidMetH Tryz.prog laidWs w) (fun _ _ _ hh h=>h.of_heap hh) Try_own started (by kernel_rfl) Tryz.func10
  (ChangeSpec.witness_shaped (enc:=enc) (C:=Tryz.checked) (os:=os) (X:=fun w _=>laidMetH Tryz.prog laidWs w) false (World.laidAll Tryz.prog os laidWs) #[.slice none 0 0,.agg #[.int .i64 0,.int .i64 0,.string ⟨#[]⟩]] 8 (World.laidAll_os _ _ _)
   (World.shaped_of_ZipB (by kernel_rfl) (by kernel_rfl)) (by kernel_rfl) (by kernel_rfl) (by kernel_rfl)
   (by rw [MakeChecks.laidMetH_plain _ _ _ (by kernel_rfl)];exact laidMet_laidAll _ (by kernel_rfl) (by kernel_rfl))) ?_
 intro W base args ds gs before hval0 hW hcnd _ hLd _
 have hval: ∀ (j:Nat) t v,Tryz.f10.params[j]? =some t→args[j]? =some v→Value.okWide Tryz.prog W .any base t v:=hval0
 have hWd:=words_of_laid hLd
 have hW' :=hW
 obtain ⟨p,q,hA0,hV,rfl,hfz,hnd⟩:=hW
 have hA:DataW.TrodAll enc Tryz.prog W 0 (fun _=>true) true Tryz.f10.params.toList args.toList ds p:=hA0
 rw [Tryz.params10] at hA hval
 obtain ⟨v0,v1,d0,d1,p0,p1,rfl,rfl,rfl,h0,h1⟩:=trodAll_two hA
 obtain ⟨rfl,rfl⟩:=trodVars_none hV
 clear hcnd
 obtain ⟨L0,hL0,wL0⟩:=open_puts (hval 0 22 v0 rfl rfl) h0
 obtain ⟨r1,rfl,wr1⟩:=open_put (hval 1 73 v1 rfl rfl) h1
 clear hA0 hval0
 simp only [List.append_nil] at hW'
 have hlt0: ∀ x∈p0,x.block<W.heap.size:=fun x hx=>by simpa using hW'.lt x (by simp [hx])
 have hlt1: ∀ x∈p1,x.block<W.heap.size:=fun x hx=>by simpa using hW'.lt x (by simp [hx])
 refine Calls.mono (ReachPaths_at L0 r1 v0 W hL0 hWd) ?_
 rintro e W' ⟨v,H',rfl,hm,rfl⟩
 exact ⟨_,rfl,post_of_below (pa:=p0++p1) (pv:= []) hW' (fun _ _ _=>trodAll_mk1 (shut_bool Tryz.underlying4 true))
  (fun sp hsp=>trodAll_mk2 (trod_stays_of Try_laidOut (by kernel_rfl) (of_decide_eq_true (by kernel_rfl)) h0 hm.below hlt0 fun x hx=>hsp x (by simp [hx])) (trod_stays_of Try_laidOut (by kernel_rfl) (of_decide_eq_true (by kernel_rfl)) h1 hm.below hlt1 fun x hx=>hsp x (by simp [hx])))
  (fun _ _=>rfl) (by simp) hm.below (ok_one (by kernel_rfl) rfl (okWide_bool_mk Tryz.underlying4 true))⟩
theorem reachPaths_f1:(Rows.reachPathsRow.inPlace==Tryz.pinned.checked.prog.inPlace 10)=true:=by kernel_rfl
theorem reachPaths_f2:(Rows.reachPathsRow.unfollowed==Tryz.pinned.checked.prog.unfollowed 10)=true:=by kernel_rfl
theorem reachPaths_f3:(Rows.reachPathsRow.recurses==Tryz.pinned.checked.prog.recurses 10)=true:=by kernel_rfl
theorem reachPaths_f4:(Rows.reachPathsRow.named==Tryz.pinned.checked.prog.varsNamed 10)=true:=by kernel_rfl
set_option maxRecDepth 100000 in
theorem reachPaths_facts:joinedFacts Tryz.pinned.checked.prog 10 Tryz.f10 Rows.reachPathsSpec Rows.reachPathsRow=true:=by
 unfold joinedFacts
 rw [reachPaths_f1,reachPaths_f2,reachPaths_f3,reachPaths_f4]
 kernel_rfl
theorem reachPaths_goes:false=Rows.reachPathsRow.goesBy Tryz.pinned.checked.prog:=by kernel_rfl
theorem reachPaths_stand:(([22,73]:List Nat).all fun u=> !Tryz.prog.wantsStandIn u)=true:=by kernel_rfl
theorem reachPaths_holds:Rows.ReachPathsSaid:=
 OpenClaim.holds_of_wide 10 Tryz.f10 rfl rfl rfl rfl rfl rfl rfl ⟨rfl,rfl,rfl,rfl,rfl⟩ rfl rfl rfl rfl rfl (by kernel_rfl) Tryz.func10 reachPaths_facts
  (of_decide_eq_true (by kernel_rfl)) (by unfold Func.isWrapper;first|(rw [if_pos (by decide+kernel)];kernel_rfl)|(rw [if_neg (by decide+kernel)];exact ⟨rfl,rfl⟩))
  (fun os started H enc _=>reachPaths_lifted os started H enc)
theorem reachPaths_card_holds:Rows.ReachPathsCardSaid:=
 Claim7.holds_tied_plain_at .later [] [.data] true (true, "9e8a139603b98fc5e9b62dca495ee8046e160ab7754a7a0b01d1cb85f2427766") true
  reachPaths_holds (fun _ h=>by cases h) (by kernel_rfl) (fun _ h=>by cases h) reachPaths_row_tie rfl ⟨rfl,rfl⟩ (by kernel_rfl) rfl
  (fun f fn hf hfn=>by
   obtain rfl:f=10:=Option.some.inj ((show Tryz.prog.funcNamed "louvre/louvrelaw23.ReachPaths" =some 10 by kernel_rfl).symm.trans hf)|>.symm
   obtain rfl:fn=Tryz.f10:=(Option.some.inj (Tryz.func10.symm.trans hfn)).symm
   exact ⟨by kernel_rfl,fun j t ht=>by
    rw [Tryz.params10] at ht
    have hm:t∈ [22,73]:=by simpa using Array.mem_of_getElem? ht
    exact (show Tryz.prog.wantsStandIn t=false by simpa using List.all_eq_true.1 reachPaths_stand t hm)⟩)
  reachPaths_goes
end Go.Proofs.YtpohljcebgacjaaGreatDoor

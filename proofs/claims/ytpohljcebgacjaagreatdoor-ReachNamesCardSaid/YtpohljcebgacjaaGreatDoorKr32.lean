/-
  Lemmas and walks, put together: Rp.
-/
import Derived.Test.YtpohljcebgacjaaGreatDoorKr31
set_option linter.unusedSimpArgs false
set_option linter.unusedVariables false
set_option maxRecDepth 20000
namespace Go.SL
open Go Go.Proofs
attribute [local irreducible] W WL WQ WG WA WX WLI WR WT WC WE VOp RW thn blk cutP scp retP retPP endB FnAt FnIn FnP ceP
theorem nilAbove_at (lv:Value) (w:World):Pure Tryz.prog 46 [.pointer none,lv] w (.tuple #[.slice none 0 0,.int .i64 1]):=by
 refine fn_at Tryz.func46 rfl Tryz.ntmps46 rfl ?_
 repeat' (first|((with_reducible apply wl_callp (f:=88));exact rfl;exact rfl;(intro w' _;exact checkA_nil _ _ w'))|refine sT ?_|refine sS ?_|refine sM fun _=> ?_|(refine sC ?_ ?_<;>intro hb<;>try omega)|fail)
 all_goals exact ret2 eIO rfl rfl rfl (.nil _) rfl
theorem nilBelow_at (a:Rf) (w:World):Pure Tryz.prog 47 [.pointer none,keyF a] w (.tuple #[.slice none 0 0,.int .i64 1]):=by
 refine fn_at Tryz.func47 rfl Tryz.ntmps47 rfl ?_
 repeat' (first|((with_reducible apply wl_callp (f:=88));exact rfl;exact rfl;(intro w' _;exact checkA_nil _ _ w'))|refine sT ?_|refine sS ?_|refine sM fun _=> ?_|(refine sC ?_ ?_<;>intro hb<;>try omega)|fail)
 all_goals exact ret2 eIO rfl rfl rfl (.nil _) rfl
theorem nilLeaves_at (a:Rf) (w:World):Pure Tryz.prog 48 [.pointer none,keyF a] w (.tuple #[.slice none 0 0,.int .i64 1]):=by
 refine fn_at Tryz.func48 rfl Tryz.ntmps48 rfl ?_
 repeat' (first|((with_reducible apply wl_callp (f:=88));exact rfl;exact rfl;(intro w' _;exact checkA_nil _ _ w'))|refine sT ?_|refine sS ?_|refine sM fun _=> ?_|(refine sC ?_ ?_<;>intro hb<;>try omega)|fail)
 all_goals exact ret2 eIO rfl rfl rfl (.nil _) rfl
theorem nilReaches_at (a b:Rf) (w:World):Pure Tryz.prog 49 [.pointer none,keyF a,keyF b] w (.tuple #[.bool false,.int .i64 1]):=by
 refine fn_at Tryz.func49 rfl Tryz.ntmps49 rfl ?_
 repeat' (first|((with_reducible apply wl_callp (f:=88));exact rfl;exact rfl;(intro w' _;exact checkA_nil _ _ w'))|refine sT ?_|refine sS ?_|refine sM fun _=> ?_|(refine sC ?_ ?_<;>intro hb<;>try omega)|fail)
 all_goals exact ret2 eIO rfl rfl rfl (.nil _) rfl
theorem nilPath_at (a b:Rf) (w:World):Pure Tryz.prog 50 [.pointer none,keyF a,keyF b] w (.tuple #[.slice none 0 0,.bool false,.int .i64 1]):=by
 refine fn_at Tryz.func50 rfl Tryz.ntmps50 rfl ?_
 repeat' (first|((with_reducible apply wl_callp (f:=88));exact rfl;exact rfl;(intro w' _;exact checkA_nil _ _ w'))|refine sT ?_|refine sS ?_|refine sM fun _=> ?_|(refine sC ?_ ?_<;>intro hb<;>try omega)|fail)
 all_goals exact ret3 eIO rfl rfl rfl rfl (.nil _) rfl
def exG2:Gr:= [
 (⟨1,2⟩,[refN 1 1,refN 2 1,nodeOp 6 1],[⟨oneA 1 1, -1,0⟩,⟨oneA 2 1, -1,0⟩]),
 (⟨1,3⟩,[⟨3,zeroV,⟨2,1,2,3⟩,0,0,0⟩,⟨7,zeroV,zeroR,0,46,1⟩],[⟨⟨2,1,2,3⟩,1,46⟩]),
 (⟨2,3⟩,[refN 1 4],[⟨oneA 1 4, -1,0⟩]),
 (⟨1,4⟩,[refN 1 3,⟨1,⟨1,0,emptyB⟩,zeroR,0,0,0⟩,⟨7,zeroV,zeroR,0,25,2⟩,⟨1,⟨1,10000,emptyB⟩,zeroR,0,0,0⟩,nodeOp 6 1],[⟨oneA 1 3, -1,0⟩])]
theorem rn_set:setG exG ⟨2,3⟩ ⟨#[61,65,52]⟩=(exG2,0):=by decide+kernel
theorem exG2_ok:GrOk exG2:=by
 have h:=exG_ok.set ⟨2,3⟩ ⟨#[61,65,52]⟩
 rw [rn_set] at h
 exact h
theorem no_A {G:Gr} {L:List Rct} (h:checkR [] L≠0):aboveR G L= []:=by rw [aboveR,if_neg h]
theorem no_B {G:Gr} {a:Rf} (h:checkR [a] []≠0):belowR G a= []:=by rw [belowR,if_neg h]
theorem no_L {G:Gr} {a:Rf} (h:checkR [a] []≠0):leavesR G a= []:=by rw [leavesR,if_neg h]
theorem no_R {G:Gr} {a b:Rf} (h:checkR [a,b] []≠0):reachesR G a b=false:=by rw [reachesR,decide_eq_false h,Bool.false_and]
theorem no_P {G:Gr} {a b:Rf} (h:checkR [a,b] []≠0):pathR G a b= []:=by rw [pathR,if_neg h]
theorem no_PB {G:Gr} {a b:Rf} (h:checkR [a,b] []≠0):pathB G a b=false:=by rw [pathB,decide_eq_false h,Bool.false_and]
theorem rn_1:aboveR exG []= []:=by rw [aboveR,if_pos (by decide+kernel)];exact aboveF_nil _
theorem rn_2:aboveR exG [oneA 2 1,oneA 1 1]= [⟨1,2⟩,⟨1,3⟩,⟨1,4⟩]:=by rw [aboveR,if_pos (by decide+kernel),above_comp];decide+kernel
theorem rn_3:belowR exG ⟨1,3⟩= []:=by rw [belowR,if_pos (by decide+kernel),below_comp];decide+kernel
theorem rn_4:leavesR exG ⟨1,1⟩= []:=by rw [leavesR,if_pos (by decide+kernel)];exact leaves_is (by decide+kernel)
theorem rn_5:pathR exG ⟨1,2⟩ ⟨1,3⟩= []:=by decide+kernel
theorem rn_6:pathB exG ⟨1,2⟩ ⟨1,3⟩=false:=by decide+kernel
theorem rn_7:aboveR exG2 [oneA 1 4]= [⟨1,3⟩,⟨2,3⟩,⟨1,4⟩]:=by rw [aboveR,if_pos (by decide+kernel),above_comp];decide+kernel
theorem rn_8:pathR exG2 ⟨1,4⟩ ⟨1,4⟩= [⟨1,4⟩,⟨1,3⟩,⟨2,3⟩,⟨1,4⟩]:=by decide+kernel
theorem rn_9:pathB exG2 ⟨1,4⟩ ⟨1,4⟩=true:=by decide+kernel
set_option maxHeartbeats 4000000 in
theorem ReachNames_at (w:World) (hW:Words w):Pure Tryz.prog 9 [] w (.bool true):=by
 have hN: ∀ (w' :World) (H:List Blk) (tv:Value),Mem w w' H→Reads w' tv exL.length (exL.flatMap encEt)→FnAt Tryz.prog 38 [tv] w' fun v H=> ∃ gg gm E clock R,v= .tuple #[.pointer (some ⟨gg,0,none⟩),.int .i64 0]∧H=gB gg gm (E.map En.m) clock++R∧GOk R E clock exG:=by
  intro w' H tv hm ht
  have h1:=New_at exL tv w' ht (by decide) (hW.next hm)
  rw [ex_new] at h1
  exact h1
 refine fn_at Tryz.func9 rfl Tryz.ntmps9 rfl ?_
 repeat' (first|((with_reducible apply wl_callp);exact rfl;exact rfl;(intro w hm;exact nilAbove_at _ w))|((with_reducible apply wl_callp);exact rfl;exact rfl;(intro w hm;exact nilBelow_at ⟨0,0⟩ w))|((with_reducible apply wl_callp);exact rfl;exact rfl;(intro w hm;exact nilLeaves_at ⟨0,0⟩ w))|((with_reducible apply wl_callp);exact rfl;exact rfl;(intro w hm;exact nilReaches_at ⟨0,0⟩ ⟨0,0⟩ w))|((with_reducible apply wl_callp);exact rfl;exact rfl;(intro w hm;exact nilPath_at ⟨0,0⟩ ⟨0,0⟩ w))|((with_reducible apply wl_call (f:=51));exact rfl;exact rfl;(intro w' hm;exact Example_at w');rintro _ _ ⟨ge,rfl,rfl⟩)|((with_reducible apply wl_call (f:=38));exact rfl;exact rfl;(intro w' hm;exact hN w' _ _ hm (Reads.of_own (A:=some _) hm pK));rintro _ _ ⟨gg,gm,E,clock,R,rfl,rfl,hG⟩;refine wl_subH (gB gg gm (E.map En.m) clock++R) (MSub.appL _ _) ?_)|((with_reducible apply wl_callp);exact rfl;exact rfl;(intro w hm;exact refL23_at _ _ w))|((with_reducible apply wl_callp);exact rfl;exact rfl;(intro w hm;exact One_at _ w))|((with_reducible apply wl_callin (f:=27));exact rfl;exact rfl;exact hG.set_to gg gm [] mS hW rn_set;rintro _ _ ⟨rfl,E1,k1,R1,rfl,hG1⟩;rw [List.nil_append])|((with_reducible apply wl_callin (f:=46));exact rfl;exact rfl;exact (hG1.rdr exG2_ok (by decide) gg gm w).above_to mS rn_7 (by decide+kernel:_=(0:Int)) (by decide) _ (fun w' hm=>Reads.of_own (A:=some _) hm pK);rintro _ _ ⟨A7,c7,rfl,rfl⟩)|((with_reducible apply wl_callin (f:=50));exact rfl;exact rfl;exact (hG1.rdr exG2_ok (by decide) gg gm w).path_to mS rn_8 rn_9 (by decide+kernel:_=(0:Int));rintro _ _ ⟨A8,c8,rfl,rfl⟩)|((with_reducible apply wl_callin (f:=46));exact rfl;exact rfl;exact (hG.rdr exG_ok (by decide) gg gm w).above_to (L:= []) mS rn_1 (by decide+kernel:_=(0:Int)) (by decide) _ (fun w' hm=>reads_nil w');rintro _ _ ⟨A3,c3,rfl,rfl⟩)|((with_reducible apply wl_callin (f:=46));exact rfl;exact rfl;exact (hG.rdr exG_ok (by decide) gg gm w).above_to (L:= [oneA 2 1,oneA 1 1]) mS rn_2 (by decide+kernel:_=(0:Int)) (by decide) _ (fun w' hm=>Reads.of_own (A:=some _) hm pK);rintro _ _ ⟨A4,c4,rfl,rfl⟩)|((with_reducible apply wl_callin (f:=46));exact rfl;exact rfl;exact (hG.rdr exG_ok (by decide) gg gm w).above_to (L:= [oneA 1 1,⟨2,1,1,1⟩]) mS (no_A (by decide+kernel)) (by decide+kernel:_=(3:Int)) (by decide) _ (fun w' hm=>Reads.of_own (A:=some _) hm pK);rintro _ _ ⟨A1,c1,rfl,rfl⟩)|((with_reducible apply wl_callin (f:=47));exact rfl;exact rfl;exact (hG.rdr exG_ok (by decide) gg gm w).below_to (c:=⟨0,1⟩) mS (no_B (by decide+kernel)) (by decide+kernel:_=(3:Int));rintro _ _ ⟨A2,c2,rfl,rfl⟩)|((with_reducible apply wl_callin (f:=47));exact rfl;exact rfl;exact (hG.rdr exG_ok (by decide) gg gm w).below_to (c:=⟨1,3⟩) mS rn_3 (by decide+kernel:_=(0:Int));rintro _ _ ⟨A5,c5,rfl,rfl⟩)|((with_reducible apply wl_callin (f:=48));exact rfl;exact rfl;exact (hG.rdr exG_ok (by decide) gg gm w).leaves_to (c:=⟨1,1025⟩) mS (no_L (by decide+kernel)) (by decide+kernel:_=(3:Int));rintro _ _ ⟨A9,c9,rfl,rfl⟩)|((with_reducible apply wl_callin (f:=48));exact rfl;exact rfl;exact (hG.rdr exG_ok (by decide) gg gm w).leaves_to (c:=⟨1,1⟩) mS rn_4 (by decide+kernel:_=(0:Int));rintro _ _ ⟨A10,c10,rfl,rfl⟩)|((with_reducible apply wl_callin (f:=49));exact rfl;exact rfl;exact (hG.rdr exG_ok (by decide) gg gm w).reaches_to (a:=⟨1,1⟩) (b:=⟨1025,1⟩) mS (no_R (by decide+kernel)) (by decide+kernel:_=(3:Int));rintro _ _ ⟨rfl,rfl⟩)|((with_reducible apply wl_callin (f:=50));exact rfl;exact rfl;exact (hG.rdr exG_ok (by decide) gg gm w).path_to (a:=⟨1,4⟩) (b:=⟨0,0⟩) mS (no_P (by decide+kernel)) (no_PB (by decide+kernel)) (by decide+kernel:_=(3:Int));rintro _ _ ⟨A11,c11,rfl,rfl⟩)|((with_reducible apply wl_callin (f:=50));exact rfl;exact rfl;exact (hG.rdr exG_ok (by decide) gg gm w).path_to (a:=⟨1,2⟩) (b:=⟨1,3⟩) mS rn_5 rn_6 (by decide+kernel:_=(0:Int));rintro _ _ ⟨A12,c12,rfl,rfl⟩)|((with_reducible apply wl_callp (f:=34));exact rfl;exact rfl;(intro w' hm;exact EqualRefs_to rfl (Reads.of_own hm pK) (Reads.of_own (A:=some _) hm pK)))|((with_reducible apply wl_callp (f:=53));exact rfl;exact rfl;(intro w' hm;exact awake23_at w' (hW.next hm)))|refine sT ?_|refine sS ?_|refine sBG ?_|refine sM fun _=> ?_|(refine sC ?_ ?_<;>intro hb<;>try omega)|fail)
 all_goals first
  |(exfalso;omega)
  |((refine rT1 ?_);rfl)
  |trace_state
end Go.SL

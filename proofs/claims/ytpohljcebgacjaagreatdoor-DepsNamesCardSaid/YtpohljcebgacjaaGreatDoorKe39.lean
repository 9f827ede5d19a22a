/-
  L10.
-/
import Derived.Test.YtpohljcebgacjaaGreatDoorKe34
import Derived.Test.YtpohljcebgacjaaGreatDoorKe38
set_option maxRecDepth 20000
namespace Go.SL
open Go Go.Proofs
attribute [local irreducible] W WL WQ WG WA WX WLI WR WT WC WE VOp RW thn blk cutP scp retP retPP endB FnAt FnIn FnP ceP
theorem nTr (a:Rf) (w:World):Pure Tryz.prog 29 [.pointer none,keyF a] w (.tuple #[.slice none 0 0,.bool false]):=by
 refine fn_at Tryz.func29 rfl Tryz.ntmps29 rfl ?_
 repeat' (first|refine sT ?_|refine sS ?_|refine sM fun _=> ?_|(refine sC ?_ ?_<;>intro hb<;>try omega)|fail)
 all_goals ((refine rT2 ?_);rfl)
theorem nSe (a:Rf) (b:ByteArray) (w:World):Pure Tryz.prog 27 [.pointer none,keyF a,.string b] w (.int .i64 1):=by
 refine fn_at Tryz.func27 rfl Tryz.ntmps27 rfl ?_
 repeat' (first|refine sT ?_|refine sS ?_|refine sM fun _=> ?_|(refine sC ?_ ?_<;>intro hb<;>try omega)|fail)
 all_goals ((refine rT1 ?_);rfl)
theorem nUs (a:Rf) (w:World):Pure Tryz.prog 21 [.pointer none,keyF a] w (.slice none 0 0):=by
 refine fn_at Tryz.func21 rfl Tryz.ntmps21 rfl ?_
 repeat' (first|refine sT ?_|refine sS ?_|refine sM fun _=> ?_|(refine sC ?_ ?_<;>intro hb<;>try omega)|fail)
 all_goals ((refine rT1 ?_);rfl)
theorem nUr (r:Rct) (w:World):Pure Tryz.prog 16 [.pointer none,.agg (encR r).toArray] w (.slice none 0 0):=by
 refine fn_at Tryz.func16 rfl Tryz.ntmps16 rfl ?_
 repeat' (first|refine sT ?_|refine sS ?_|refine sM fun _=> ?_|(refine sC ?_ ?_<;>intro hb<;>try omega)|fail)
 all_goals ((refine rT1 ?_);rfl)
theorem nFo (w:World):Pure Tryz.prog 17 [.pointer none] w (.slice none 0 0):=by
 refine fn_at Tryz.func17 rfl Tryz.ntmps17 rfl ?_
 repeat' (first|refine sT ?_|refine sS ?_|refine sM fun _=> ?_|(refine sC ?_ ?_<;>intro hb<;>try omega)|fail)
 all_goals ((refine rT1 ?_);rfl)
theorem nEd (w:World):Pure Tryz.prog 23 [.pointer none] w (.slice none 0 0):=by
 refine fn_at Tryz.func23 rfl Tryz.ntmps23 rfl ?_
 repeat' (first|refine sT ?_|refine sS ?_|refine sM fun _=> ?_|(refine sC ?_ ?_<;>intro hb<;>try omega)|fail)
 all_goals ((refine rT1 ?_);rfl)
theorem nCo (w:World):Pure Tryz.prog 41 [.pointer none] w (.pointer none):=by
 refine fn_at Tryz.func41 rfl Tryz.ntmps41 rfl ?_
 repeat' (first|refine sT ?_|refine sS ?_|refine sM fun _=> ?_|(refine sC ?_ ?_<;>intro hb<;>try omega)|fail)
 all_goals ((refine rT1 ?_);rfl)
def uA1:List Us:= [⟨oneA 1 1, -1,0⟩]
def gn1:Gr:= [(⟨1024,1024⟩,[refN 1 1],uA1)]
def gn2:Gr:= [(⟨1,1⟩,[refN 1 1],uA1),(⟨1024,1024⟩,[refN 1 1],uA1)]
def gn3:Gr:= [(⟨1,1⟩,[refN 1 1],uA1)]
theorem nn_1:setG [] ⟨1024,1024⟩ ⟨#[61,65,49]⟩=(gn1,0):=by decide+kernel
theorem nn_2:setG gn1 ⟨1025,1⟩ ⟨#[49]⟩=(gn1,3):=by decide+kernel
theorem nn_3:setG gn1 ⟨1,1025⟩ ⟨#[49]⟩=(gn1,3):=by decide+kernel
theorem nn_4:setG gn1 ⟨0,1⟩ ⟨#[61]⟩=(gn1,3):=by decide+kernel
theorem nn_u1:usersG gn1 ⟨1,1,1024,1024⟩= [⟨1024,1024⟩]:=by decide+kernel
theorem nn_u2:usersG gn1 ⟨2,1,1,1⟩= []:=by decide+kernel
theorem nn_u3:usersG gn1 ⟨0,0,0,0⟩= []:=by decide+kernel
theorem nn_5:setG gn1 ⟨1,1⟩ ⟨#[61,65,49]⟩=(gn2,0):=by decide+kernel
theorem nn_e:edgesG gn2= [(⟨1,1⟩,⟨1,1⟩),(⟨1024,1024⟩,⟨1,1⟩)]:=by decide+kernel
theorem nn_6:setG gn2 ⟨1024,1024⟩ ⟨#[55]⟩=(gn3,0):=by decide+kernel
theorem nn_k:keysG gn3= [⟨1,1⟩]:=by decide+kernel
theorem nn_k0:keysG []= []:=rfl
theorem gn1_ok:GrOk gn1:=by
 have h:=grOk_nil.set ⟨1024,1024⟩ ⟨#[61,65,49]⟩
 rw [nn_1] at h
 exact h
set_option maxHeartbeats 8000000 in
theorem DepsNames_at (w:World) (hW:Words w):Pure Tryz.prog 6 [] w (.bool true):=by
 have hN: ∀ (w' :World) (H:List Blk),Mem w w' H→FnAt Tryz.prog 38 [.slice none 0 0] w' fun v H=> ∃ gg gm E clock R,v= .tuple #[.pointer (some ⟨gg,0,none⟩),.int .i64 0]∧H=gB gg gm (E.map En.m) clock++R∧GOk R E clock []:=by
  intro w' H hm
  have h1:=New_at [] (.slice none 0 0) w' ⟨none,0,rfl,Nat.le_refl _,Nat.zero_le _,fun h=>by cases h⟩ (by simp) (hW.next hm)
  rw [newG_nil] at h1
  exact h1
 refine fn_at Tryz.func6 rfl Tryz.ntmps6 rfl ?_
 repeat' (first|((with_reducible apply wl_callp);exact rfl;exact rfl;(intro w hm;exact refL_at _ _ w))|((with_reducible apply wl_callp);exact rfl;exact rfl;(intro w hm;exact One_at _ w))|((with_reducible apply wl_callp);exact rfl;exact rfl;(intro w hm;exact nTr ⟨1,1⟩ w))|((with_reducible apply wl_callp);exact rfl;exact rfl;(intro w hm;exact nSe ⟨1,1⟩ _ w))|((with_reducible apply wl_callp);exact rfl;exact rfl;(intro w hm;exact nUs ⟨1,1⟩ w))|((with_reducible apply wl_callp);exact rfl;exact rfl;(intro w hm;exact nUr (oneA 1 1) w))|((with_reducible apply wl_callp);exact rfl;exact rfl;(intro w hm;exact nFo w))|((with_reducible apply wl_callp);exact rfl;exact rfl;(intro w hm;exact nEd w))|((with_reducible apply wl_callp);exact rfl;exact rfl;(intro w hm;exact nCo w))|((with_reducible apply wl_call (f:=38));exact rfl;exact rfl;(intro w' hm;exact hN w' _ hm);rintro _ _ ⟨gg,gm,E,clock,R,rfl,rfl,hG⟩;refine wl_subH (gB gg gm (E.map En.m) clock++R) (MSub.appL _ _) ?_)|((with_reducible apply wl_callin (f:=17));exact rfl;exact rfl;exact hG.formulas_any gg gm mS w (by decide);rw [nn_k0];rintro _ _ ⟨A1,c1,rfl,rfl⟩)|refine sT ?_|refine sS ?_|refine sM fun _=> ?_|(refine sC ?_ ?_<;>intro hb<;>try omega)|fail)
 rename_i g6
 refine w_subH ([.box g6 38 (encF ⟨1024,1024⟩)]++(gB gg gm (E.map En.m) clock++R)) mS ?_
 refine w_drawE (id:=9) [2,6,7,12,13,18,19,25,27,28,34,41] [.box g6 38 (encF ⟨1024,1024⟩)] 45 rfl rfl mS ?_
 (with_reducible apply we_v (i:=0));(iterate 4 exact rfl);decide+kernel;decide+kernel;decide+kernel;((with_reducible apply vop_ok);exact rfl)
 (with_reducible apply we_v (i:=1));(iterate 4 exact rfl);decide+kernel;decide+kernel;decide+kernel;(first|((with_reducible apply v_loadn_box);exact rfl;exact .hd;exact rfl;exact rfl)|((with_reducible apply v_loadw_box);exact rfl;exact .hd;exact rfl))
 (with_reducible apply we_one (i:=2));(iterate 3 exact rfl);decide+kernel
 repeat' (first|((with_reducible apply wl_callin (f:=27));exact rfl;exact rfl;exact hG.set_to gg gm [.box g6 38 (encF ⟨1024,1024⟩)] mS hW nn_1;rintro _ _ ⟨rfl,E_hG1,k_hG1,R_hG1,rfl,hG1⟩)|((with_reducible apply ce_n);(focus (exact mS;done)))|refine sT ?_|refine sM fun _=> ?_|(refine sC ?_ ?_<;>intro hb<;>try omega)|fail)
 (with_reducible apply we_v (i:=3));(iterate 4 exact rfl);decide+kernel;decide+kernel;decide+kernel;((with_reducible apply v_neq);exact rfl;exact rfl)
 (with_reducible apply we_v (i:=4));(iterate 4 exact rfl);decide+kernel;decide+kernel;decide+kernel;((with_reducible apply vop_ok);exact rfl)
 (with_reducible apply we_v (i:=5));(iterate 4 exact rfl);decide+kernel;decide+kernel;decide+kernel;((with_reducible apply vop_ok);exact rfl)
 (with_reducible apply we_one (i:=6));(iterate 3 exact rfl);decide+kernel
 repeat' (first|((with_reducible apply wl_callp);exact rfl;exact rfl;(intro w hm;exact refL_at _ _ w))|((with_reducible apply ce_n);(focus (exact mS;done)))|refine sT ?_|refine sM fun _=> ?_|(refine sC ?_ ?_<;>intro hb<;>try omega)|fail)
 (with_reducible apply we_one (i:=7));(iterate 3 exact rfl);decide+kernel
 repeat' (first|((with_reducible apply wl_callin (f:=27));exact rfl;exact rfl;exact hG1.set_to gg gm [.box g6 38 (encF ⟨1024,1024⟩)] mS hW nn_2;rintro _ _ ⟨rfl,E_hG2,k_hG2,R_hG2,rfl,hG2⟩)|((with_reducible apply ce_n);(focus (exact mS;done)))|refine sT ?_|refine sM fun _=> ?_|(refine sC ?_ ?_<;>intro hb<;>try omega)|fail)
 (with_reducible apply we_v (i:=8));(iterate 4 exact rfl);decide+kernel;decide+kernel;decide+kernel;((with_reducible apply v_neq);exact rfl;exact rfl)
 (with_reducible apply we_v (i:=9));(iterate 4 exact rfl);decide+kernel;decide+kernel;decide+kernel;((with_reducible apply vop_ok);exact rfl)
 (with_reducible apply we_v (i:=10));(iterate 4 exact rfl);decide+kernel;decide+kernel;decide+kernel;((with_reducible apply vop_ok);exact rfl)
 (with_reducible apply we_v (i:=11));(iterate 4 exact rfl);decide+kernel;decide+kernel;decide+kernel;((with_reducible apply vop_ok);exact rfl)
 (with_reducible apply we_one (i:=12));(iterate 3 exact rfl);decide+kernel
 repeat' (first|((with_reducible apply wl_callp);exact rfl;exact rfl;(intro w hm;exact refL_at _ _ w))|((with_reducible apply ce_n);(focus (exact mS;done)))|refine sT ?_|refine sM fun _=> ?_|(refine sC ?_ ?_<;>intro hb<;>try omega)|fail)
 (with_reducible apply we_one (i:=13));(iterate 3 exact rfl);decide+kernel
 repeat' (first|((with_reducible apply wl_callin (f:=27));exact rfl;exact rfl;exact hG2.set_to gg gm [.box g6 38 (encF ⟨1024,1024⟩)] mS hW nn_3;rintro _ _ ⟨rfl,E_hG3,k_hG3,R_hG3,rfl,hG3⟩)|((with_reducible apply ce_n);(focus (exact mS;done)))|refine sT ?_|refine sM fun _=> ?_|(refine sC ?_ ?_<;>intro hb<;>try omega)|fail)
 (with_reducible apply we_v (i:=14));(iterate 4 exact rfl);decide+kernel;decide+kernel;decide+kernel;((with_reducible apply v_neq);exact rfl;exact rfl)
 (with_reducible apply we_v (i:=15));(iterate 4 exact rfl);decide+kernel;decide+kernel;decide+kernel;((with_reducible apply vop_ok);exact rfl)
 (with_reducible apply we_v (i:=16));(iterate 4 exact rfl);decide+kernel;decide+kernel;decide+kernel;((with_reducible apply vop_ok);exact rfl)
 (with_reducible apply we_v (i:=17));(iterate 4 exact rfl);decide+kernel;decide+kernel;decide+kernel;((with_reducible apply vop_ok);exact rfl)
 (with_reducible apply we_one (i:=18));(iterate 3 exact rfl);decide+kernel
 repeat' (first|((with_reducible apply wl_callp);exact rfl;exact rfl;(intro w hm;exact refL_at _ _ w))|((with_reducible apply ce_n);(focus (exact mS;done)))|refine sT ?_|refine sM fun _=> ?_|(refine sC ?_ ?_<;>intro hb<;>try omega)|fail)
 (with_reducible apply we_one (i:=19));(iterate 3 exact rfl);decide+kernel
 repeat' (first|((with_reducible apply wl_callin (f:=27));exact rfl;exact rfl;exact hG3.set_to gg gm [.box g6 38 (encF ⟨1024,1024⟩)] mS hW nn_4;rintro _ _ ⟨rfl,E_hG4,k_hG4,R_hG4,rfl,hG4⟩)|((with_reducible apply ce_n);(focus (exact mS;done)))|refine sT ?_|refine sM fun _=> ?_|(refine sC ?_ ?_<;>intro hb<;>try omega)|fail)
 (with_reducible apply we_v (i:=20));(iterate 4 exact rfl);decide+kernel;decide+kernel;decide+kernel;((with_reducible apply v_neq);exact rfl;exact rfl)
 (with_reducible apply we_v (i:=21));(iterate 4 exact rfl);decide+kernel;decide+kernel;decide+kernel;((with_reducible apply vop_ok);exact rfl)
 (with_reducible apply we_v (i:=22));(iterate 4 exact rfl);decide+kernel;decide+kernel;decide+kernel;((with_reducible apply vop_ok);exact rfl)
 (with_reducible apply we_v (i:=23));(iterate 4 exact rfl);decide+kernel;decide+kernel;decide+kernel;((with_reducible apply vop_ok);exact rfl)
 (with_reducible apply we_v (i:=24));(iterate 4 exact rfl);decide+kernel;decide+kernel;decide+kernel;((with_reducible apply v_build);(iterate 3 exact rfl))
 (with_reducible apply we_v (i:=26));(iterate 4 exact rfl);decide+kernel;decide+kernel;decide+kernel;(first|((with_reducible apply v_loadn_box);exact rfl;exact .hd;exact rfl;exact rfl)|((with_reducible apply v_loadw_box);exact rfl;exact .hd;exact rfl))
 with_reducible apply we_two (i:=25) (j:=27)
 ·
  exact rfl
 ·
  exact rfl
 ·
  exact rfl
 ·
  exact rfl
 ·
  exact rfl
 ·
  exact rfl
 ·
  decide+kernel
 repeat' (first|((with_reducible apply wl_callin (f:=16));exact rfl;exact rfl;exact hG4.users_any gg gm mS w (by decide) gn1_ok ⟨1,1,1024,1024⟩;rintro _ _ ⟨A2,c2,rfl,rfl⟩)|((with_reducible apply ce_n);(focus (exact mS;done)))|refine sT ?_|refine sM fun _=> ?_|(refine sC ?_ ?_<;>intro hb<;>try omega)|fail)
 (with_reducible apply we_one (i:=27));(iterate 3 exact rfl);decide+kernel
 rotate_left 1
 (with_reducible apply we_one (i:=25));(iterate 3 exact rfl);decide+kernel
 repeat' (first|((with_reducible apply wl_callin (f:=16));exact rfl;exact rfl;exact hG4.users_any gg gm mS w (by decide) gn1_ok ⟨1,1,1024,1024⟩;rintro _ _ ⟨A2,c2,rfl,rfl⟩)|((with_reducible apply ce_n);(focus (exact mS;done)))|refine sT ?_|refine sM fun _=> ?_|(refine sC ?_ ?_<;>intro hb<;>try omega)|fail)
 all_goals
  (with_reducible apply we_one (i:=28));(iterate 3 exact rfl);decide+kernel
  repeat' (first|((with_reducible apply wl_callp (f:=34));exact rfl;exact rfl;(intro w' hm;exact EqualRefs_to nn_u1 (Reads.of_own hm pK) (Reads.of_own (A:=some _) hm pK)))|((with_reducible apply ce_n);(focus (exact mS;done)))|refine sT ?_|refine sM fun _=> ?_|(refine sC ?_ ?_<;>intro hb<;>try omega)|fail)
  (with_reducible apply we_v (i:=29));(iterate 4 exact rfl);decide+kernel;decide+kernel;decide+kernel;((with_reducible apply vop_ok);exact rfl)
  (with_reducible apply we_v (i:=30));(iterate 4 exact rfl);decide+kernel;decide+kernel;decide+kernel;((with_reducible apply vop_ok);exact rfl)
  (with_reducible apply we_v (i:=31));(iterate 4 exact rfl);decide+kernel;decide+kernel;decide+kernel;((with_reducible apply vop_ok);exact rfl)
  (with_reducible apply we_v (i:=32));(iterate 4 exact rfl);decide+kernel;decide+kernel;decide+kernel;((with_reducible apply vop_ok);exact rfl)
  (with_reducible apply we_v (i:=33));(iterate 4 exact rfl);decide+kernel;decide+kernel;decide+kernel;((with_reducible apply v_build);(iterate 3 exact rfl))
  (with_reducible apply we_one (i:=34));(iterate 3 exact rfl);decide+kernel
  repeat' (first|((with_reducible apply wl_callin (f:=16));exact rfl;exact rfl;exact hG4.users_any gg gm mS w (by decide) gn1_ok ⟨2,1,1,1⟩;rw [nn_u2];rintro _ _ ⟨A3,c3,rfl,rfl⟩)|((with_reducible apply ce_n);(focus (exact mS;done)))|refine sT ?_|refine sM fun _=> ?_|(refine sC ?_ ?_<;>intro hb<;>try omega)|fail)
  (with_reducible apply we_v (i:=35));(iterate 4 exact rfl);decide+kernel;decide+kernel;decide+kernel;(first|((with_reducible apply v_lens);exact rfl)|((with_reducible apply v_len);exact rfl))
  (with_reducible apply we_v (i:=36));(iterate 4 exact rfl);decide+kernel;decide+kernel;decide+kernel;((with_reducible apply v_neq);exact rfl;exact rfl)
  (with_reducible apply we_v (i:=37));(iterate 4 exact rfl);decide+kernel;decide+kernel;decide+kernel;((with_reducible apply vop_ok);exact rfl)
  (with_reducible apply we_v (i:=38));(iterate 4 exact rfl);decide+kernel;decide+kernel;decide+kernel;((with_reducible apply vop_ok);exact rfl)
  (with_reducible apply we_v (i:=39));(iterate 4 exact rfl);decide+kernel;decide+kernel;decide+kernel;((with_reducible apply vop_ok);exact rfl)
  (with_reducible apply we_v (i:=40));(iterate 4 exact rfl);decide+kernel;decide+kernel;decide+kernel;((with_reducible apply v_build);(iterate 3 exact rfl))
  (with_reducible apply we_one (i:=41));(iterate 3 exact rfl);decide+kernel
  repeat' (first|((with_reducible apply wl_callin (f:=16));exact rfl;exact rfl;exact hG4.users_any gg gm mS w (by decide) gn1_ok ⟨0,0,0,0⟩;rw [nn_u3];rintro _ _ ⟨A4,c4,rfl,rfl⟩)|((with_reducible apply ce_n);(focus (exact mS;done)))|refine sT ?_|refine sM fun _=> ?_|(refine sC ?_ ?_<;>intro hb<;>try omega)|fail)
  (with_reducible apply we_v (i:=42));(iterate 4 exact rfl);decide+kernel;decide+kernel;decide+kernel;(first|((with_reducible apply v_lens);exact rfl)|((with_reducible apply v_len);exact rfl))
  (with_reducible apply we_v (i:=43));(iterate 4 exact rfl);decide+kernel;decide+kernel;decide+kernel;((with_reducible apply v_neq);exact rfl;exact rfl)
  (with_reducible apply we_v (i:=44));(iterate 4 exact rfl);decide+kernel;decide+kernel;decide+kernel;((with_reducible apply vop_ok);exact rfl)
  (with_reducible apply we_done);decide+kernel
 repeat' (first|refine sT ?_|refine sS ?_|refine sM fun _=> ?_|(refine sC ?_ ?_<;>intro hb<;>try omega)|fail)
 all_goals first|(exfalso;omega)|skip
 all_goals
  refine w_subH ([.box g6 38 (encF ⟨1024,1024⟩)]++(gB gg gm (E_hG4.map En.m) k_hG4++R_hG4)) mS ?_
  refine w_drawC (id:=11) [1,2,6,7,8,11,13,14] [] [.box g6 38 (encF ⟨1024,1024⟩)] (by kernel_rfl) (by kernel_rfl) (by kernel_rfl) mS ?_
  repeat' (first|((with_reducible apply wc_callp);(iterate 4 exact rfl);(intro w hm;exact refL_at _ _ w))|((with_reducible apply wl_callin (f:=27));exact rfl;exact rfl;exact hG4.set_to gg gm [.box g6 38 (encF ⟨1024,1024⟩)] mS hW nn_5;rintro _ _ ⟨rfl,E5,k5,R5,rfl,hG5⟩)|((with_reducible apply wl_callin (f:=23));exact rfl;exact rfl;exact hG5.edges_any gg gm mS w (by decide);rintro _ _ ⟨A5,c5,rfl,rfl⟩)|((with_reducible apply wc_v);(iterate 3 exact rfl);(with_reducible apply v_buildAr);(iterate 5 exact rfl))|((with_reducible apply wl_callp (f:=42));exact rfl;exact rfl;(intro w' hm;exact EqualPairs_to nn_e (Reads.of_own hm pK) (Reads.of_own (A:=some _) hm pK)))|refine sT ?_|refine sS ?_|refine sW ?_|refine sM fun _=> ?_|(refine sC ?_ ?_<;>intro hb<;>try omega)|(refine sCW ?_ ?_<;>intro hb<;>try omega)|fail)
 all_goals first|(exfalso;omega)|skip
 all_goals
  refine wl_subH ([.box g6 38 (encF ⟨1024,1024⟩)]++(gB gg gm (E5.map En.m) k5++R5)) mS ?_
  repeat' (first|((with_reducible apply wl_callp);exact rfl;exact rfl;(intro w hm;exact refL_at _ _ w))|((with_reducible apply wl_callin (f:=27));exact rfl;exact rfl;exact hG5.set_to gg gm [.box g6 38 (encF ⟨1024,1024⟩)] mS hW nn_6;rintro _ _ ⟨rfl,E6,k6,R6,rfl,hG6⟩)|((with_reducible apply wl_callin (f:=17));exact rfl;exact rfl;exact hG6.formulas_any gg gm mS w (by decide);rintro _ _ ⟨A6,c6,rfl,rfl⟩)|((with_reducible apply wl_callp (f:=34));exact rfl;exact rfl;(intro w' hm;exact EqualRefs_to nn_k (Reads.of_own hm pK) (Reads.of_own (A:=some _) hm pK)))|((with_reducible apply wl_callp (f:=26));exact rfl;exact rfl;(intro w' hm;exact awake22_at w' (hW.next hm)))|refine sT ?_|refine sS ?_|refine sM fun _=> ?_|(refine sC ?_ ?_<;>intro hb<;>try omega)|fail)
 all_goals first
  |(exfalso;omega)
  |((refine rT1 ?_);rfl)
  |trace_state
end Go.SL

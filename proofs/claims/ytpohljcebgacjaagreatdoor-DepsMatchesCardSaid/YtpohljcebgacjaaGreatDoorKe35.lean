/-
  Lemmas and walks, put together: L4.
-/
import Derived.Test.YtpohljcebgacjaaGreatDoorKe34
set_option linter.unusedSimpArgs false
set_option linter.unusedVariables false
set_option maxRecDepth 20000
namespace Go.SL
open Go Go.Proofs
attribute [local irreducible] W WL WQ WG WA WX WLI WR WT WC VOp RW thn blk cutP scp retP retPP endB FnAt FnIn FnP ceP
set_option maxHeartbeats 4000000 in
theorem DepsMatches_at (L : List Pu) (a : Rf) (i : ByteArray) (r : Rct) (tv : Value) (w : World) (ht : Reads w tv L.length (L.flatMap encPu)) (hW : Words w) :
  Pure Tryz.prog 4 [tv, .agg (encF a).toArray, .string i, .agg (encR r).toArray] w (.bool true) := by
 refine fn_at Tryz.func4 rfl Tryz.ntmps4 rfl ?_
 have hS := fun (w' : World) (H : List Blk) (hm : Mem w w' H) => StartP_at L tv w' (ht.of_w0 hm) (hW.next hm)
 have hlen := startG_len L
 generalize startG L = G at hS hlen
 repeat' (first | ((with_reducible apply wl_call (f := 14)); exact rfl; exact rfl; (intro w' hm; exact hS w' _ hm); rintro _ _ ⟨x, rfl, rfl, hx⟩; refine wl_subH _ (MSub.appS _ _) ?_) | refine sT ?_ | refine sS ?_ | refine sM fun _ => ?_ | (refine sC ?_ ?_ <;> intro hb <;> try omega) | fail)
 rename_i g5 g7 g9
 have hT := fun F => x.set G hx a i F w hW
 have hT2 := fun (y : Gp) (h : RGOk y.R y.Q G) F => y.rset G h hx.g.sort (by omega) a i F w
 have hg' := hx.g.set a i
 have hgl := setG_len G a i
 generalize setG G a i = sg at hT hT2 hg' hgl
 obtain ⟨G', se⟩ := sg
 dsimp only at hT hT2 hg' hgl
 refine w_drawC (id := 2) [7, 12] [] [.box g9 28 [x.pa, x.pb], .box g5 38 (encF a)] (by kernel_rfl) (by kernel_rfl) (by kernel_rfl) mS ?_
 repeat' (first | ((with_reducible apply wl_callin (f := 27)); exact rfl; exact rfl; exact FnIn.msub (hT [.box g9 28 [x.pa, x.pb], .box g7 24 (encR r), .box g5 38 (encF a)]) (MSub.refl _); rintro _ _ ⟨rfl, E1, k1, R1, rfl, hs1, hG1⟩) | ((with_reducible apply wl_callin (f := 28)); exact rfl; exact rfl; exact FnIn.msub (hT2 { x with E := E1, clock := k1, R := R1 } (hx.b.sub hs1) [.box g9 28 [x.pa, x.pb], .box g7 24 (encR r), .box g5 38 (encF a)]) (MSub.refl _); rintro _ _ ⟨rfl, A2, c2, Q2, R2, rfl, hs2, hG2⟩) | ((with_reducible apply wc_v); (iterate 3 exact rfl); (with_reducible apply v_neq_same); exact rfl; exact rfl) | refine sT ?_ | refine sS ?_ | refine sW ?_ | refine sM fun _ => ?_ | (refine sC ?_ ?_ <;> intro hb <;> try omega) | (refine sCW ?_ ?_ <;> intro hb <;> try omega) | fail)
 all_goals first | (exfalso; omega) | skip
 obtain ⟨y, hy⟩ : ∃ y : Gp, y = { x with E := E1, clock := k1, A := A2, cap := c2, Q := Q2, R := R2 } := ⟨_, rfl⟩
 have hyo : y.ok G' := by
  subst hy
  exact ⟨hG1.sub hs2, hG2, hg'⟩
 have hpa : x.pa = y.pa := by subst hy; rfl
 have hpb : x.pb = y.pb := by subst hy; rfl
 rw [hpa, hpb]
 refine wl_subH ([.box g9 28 [y.pa, y.pb], .box g7 24 (encR r), .box g5 38 (encF a)] ++ y.H) (by subst hy; exact MSub.refl _) ?_
 clear hT hT2 hS
 have hl' : G'.length ≤ 900 := by omega
 repeat' (first | ((with_reducible apply wl_callin (f := 29)); exact rfl; exact rfl; exact y.treeA G' hyo mS w a; rintro _ _ ⟨A7, c7, rfl, rfl⟩) | ((with_reducible apply wl_callin (f := 30)); exact rfl; exact rfl; exact y.treeB G' hyo mS w hl' a; rintro _ _ ⟨A8, c8, rfl, rfl⟩) | refine sT ?_ | refine sS ?_ | refine sM fun _ => ?_ | (refine sC ?_ ?_ <;> intro hb <;> try omega) | fail)
 refine w_drawC (id := 6) [6, 12, 16, 17, 23, 27, 28, 32, 36, 39] [] [.box g9 28 [y.pa, y.pb], .box g7 24 (encR r), .box g5 38 (encF a)] (by kernel_rfl) (by kernel_rfl) (by kernel_rfl) mS ?_
 repeat' (first | ((with_reducible apply wc_v); (iterate 3 exact rfl); (with_reducible apply v_eqlb_same); exact rfl; exact rfl) | ((with_reducible apply wl_callin (f := 21)); exact rfl; exact rfl; exact y.usesA G' hyo mS w a; rintro _ _ ⟨A9, c9, rfl, rfl⟩) | ((with_reducible apply wl_callin (f := 33)); exact rfl; exact rfl; exact y.usesB G' hyo mS w hl' a; rintro _ _ ⟨A10, c10, rfl, rfl⟩) | ((with_reducible apply wl_callin (f := 16)); exact rfl; exact rfl; exact y.users G' hyo mS w hl' r; rintro _ _ ⟨A11, c11, rfl, rfl⟩) | ((with_reducible apply wl_callin (f := 35)); exact rfl; exact rfl; exact y.usersB G' hyo mS w hl' r; rintro _ _ ⟨A12, c12, rfl, rfl⟩) | ((with_reducible apply wl_callp (f := 32)); exact rfl; exact rfl; (intro w' hm; exact EqualUses_to rfl (Reads.of_own hm pK) (Reads.of_own hm pK))) | ((with_reducible apply wl_callp (f := 31)); exact rfl; exact rfl; (intro w' hm; exact EqualTree_to rfl (Reads.of_own hm pK) (Reads.of_own hm pK))) | ((with_reducible apply wl_callp (f := 34)); exact rfl; exact rfl; (intro w' hm; exact EqualRefs_to rfl (Reads.of_own hm pK) (Reads.of_own hm pK))) | ((with_reducible apply wl_callin (f := 36)); exact rfl; exact rfl; exact Same_in y G' hyo hl' mS w; rintro _ _ ⟨rfl, rfl⟩) | ((with_reducible apply wl_callp (f := 26)); exact rfl; exact rfl; (intro w' hm; exact awake22_at w' (hW.next hm))) | refine sT ?_ | refine sS ?_ | refine sW ?_ | refine sM fun _ => ?_ | (refine sC ?_ ?_ <;> intro hb <;> try omega) | (refine sCW ?_ ?_ <;> intro hb <;> try omega) | fail)
 all_goals first
  | (exfalso; omega)
  | ((refine rT1 ?_); rfl)
  | trace_state
end Go.SL

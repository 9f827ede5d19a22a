/-
  Lemmas and walks, put together: L9.
-/
import Derived.Test.YtpohljcebgacjaaGreatDoorKe34
import Derived.Test.YtpohljcebgacjaaGreatDoorKe38
set_option linter.unusedSimpArgs false
set_option linter.unusedVariables false
set_option maxRecDepth 20000
namespace Go.SL
open Go Go.Proofs
attribute [local irreducible] W WL WQ WG WA WX WLI WR WT WC WE VOp RW thn blk cutP scp retP retPP endB FnAt FnIn FnP ceP
theorem two_sub (x y : Gp) (hR : x.R = y.R) (b9 b7 b5 : Blk) : MSub ([b7, b5] ++ ((y.a ++ y.b) ++ x.H)) (([b9, b7, b5] ++ (x.a ++ x.b)) ++ y.H) := by
 refine MSub.trans (MSub.of_perm ?_) (MSub.drop .hd (MSub.refl (([b7, b5] ++ (x.a ++ x.b)) ++ y.H)))
 rw [← List.append_assoc]
 exact (Gp.swap y x hR.symm [b7, b5]).symm.symm.symm
theorem two_in (x y : Gp) (hR : x.R = y.R) (B : List Blk) : MSub x.H ((B ++ (x.a ++ x.b)) ++ y.H) :=
 MSub.trans (MSub.appR x.H (B ++ (y.a ++ y.b))) (MSub.of_perm (Gp.swap x y hR B))
set_option maxHeartbeats 8000000 in
theorem DepsApart_at (L M : List Pu) (tv mv : Value) (w : World) (ht : Reads w tv L.length (L.flatMap encPu)) (hmv : Reads w mv M.length (M.flatMap encPu)) (hW : Words w) :
  Pure Tryz.prog 7 [tv, mv] w (.bool true) := by
 obtain ⟨Am, cm, rfl, hm3, hm4, hm5⟩ := hmv
 refine fn_at Tryz.func7 rfl Tryz.ntmps7 rfl ?_
 have hS := fun (w' : World) (H : List Blk) (hm : Mem w w' H) => StartP_at L tv w' (ht.of_w0 hm) (hW.next hm)
 have hlen := startG_len L
 generalize startG L = G at hS hlen
 repeat' (first | ((with_reducible apply wl_call (f := 14)); exact rfl; exact rfl; (intro w' hm; exact hS w' _ hm); rintro _ _ ⟨x, rfl, rfl, hx⟩; refine wl_subH _ (MSub.appS _ _) ?_) | refine sT ?_ | refine sS ?_ | refine sM fun _ => ?_ | (refine sC ?_ ?_ <;> intro hb <;> try omega) | exact cT | fail)
 rename_i g5
 refine w_cut' (fun y : Nat × Gp × Gp => [(1, .slice Am M.length cm), (5, .pointer (some ⟨g5, 0, none⟩)), (7, .pointer (some ⟨y.1, 0, none⟩))]) (fun y => [.box y.1 28 [y.2.2.pa, y.2.2.pb], .box g5 28 [y.2.1.pa, y.2.1.pb]] ++ ((y.2.2.a ++ y.2.2.b) ++ y.2.1.H)) (fun y => y.2.1.R = y.2.2.R ∧ y.2.1.ok G ∧ y.2.2.ok G) ?_ ?_
 ·
  have hC := fun F => x.copyA G hx.a F w
  have hD := fun (z : Gp) (h : RGOk z.R z.Q G) F => z.copyB G h (by omega) F w
  refine w_drawE (id := 4) [2, 5, 7, 8] [.box g5 28 [x.pa, x.pb]] 9 rfl rfl mS ?_
  repeat' (first | ((with_reducible apply we_v (i := 0)); (iterate 4 exact rfl); decide +kernel; decide +kernel; decide +kernel; (first | ((with_reducible apply v_fieldAddr); exact rfl) | ((with_reducible apply v_loadn_box); exact rfl; exact .hd; exact rfl; exact rfl) | ((with_reducible apply v_load_box); exact rfl; exact .hd; exact rfl) | ((with_reducible apply v_build); (iterate 3 exact rfl)))) | ((with_reducible apply we_v (i := 1)); (iterate 4 exact rfl); decide +kernel; decide +kernel; decide +kernel; (first | ((with_reducible apply v_fieldAddr); exact rfl) | ((with_reducible apply v_loadn_box); exact rfl; exact .hd; exact rfl; exact rfl) | ((with_reducible apply v_load_box); exact rfl; exact .hd; exact rfl) | ((with_reducible apply v_build); (iterate 3 exact rfl)))) | ((with_reducible apply we_v (i := 3)); (iterate 4 exact rfl); decide +kernel; decide +kernel; decide +kernel; (first | ((with_reducible apply v_fieldAddr); exact rfl) | ((with_reducible apply v_loadn_box); exact rfl; exact .hd; exact rfl; exact rfl) | ((with_reducible apply v_load_box); exact rfl; exact .hd; exact rfl) | ((with_reducible apply v_build); (iterate 3 exact rfl)))) | ((with_reducible apply we_v (i := 4)); (iterate 4 exact rfl); decide +kernel; decide +kernel; decide +kernel; (first | ((with_reducible apply v_fieldAddr); exact rfl) | ((with_reducible apply v_loadn_box); exact rfl; exact .hd; exact rfl; exact rfl) | ((with_reducible apply v_load_box); exact rfl; exact .hd; exact rfl) | ((with_reducible apply v_build); (iterate 3 exact rfl)))) | ((with_reducible apply we_v (i := 6)); (iterate 4 exact rfl); decide +kernel; decide +kernel; decide +kernel; (first | ((with_reducible apply v_fieldAddr); exact rfl) | ((with_reducible apply v_loadn_box); exact rfl; exact .hd; exact rfl; exact rfl) | ((with_reducible apply v_load_box); exact rfl; exact .hd; exact rfl) | ((with_reducible apply v_build); (iterate 3 exact rfl)))) | ((with_reducible apply we_two (i := 2) (j := 7)); (iterate 6 exact rfl); decide +kernel) | ((with_reducible apply we_two (i := 5) (j := 7)); (iterate 6 exact rfl); decide +kernel) | ((with_reducible apply we_one (i := 2)); (iterate 3 exact rfl); decide +kernel) | ((with_reducible apply we_one (i := 5)); (iterate 3 exact rfl); decide +kernel) | ((with_reducible apply we_one (i := 7)); (iterate 3 exact rfl); decide +kernel) | ((with_reducible apply we_one (i := 8)); (iterate 3 exact rfl); decide +kernel) | ((with_reducible apply we_done); decide +kernel) | ((with_reducible apply ce_n); (focus (exact mS; done))) | ((with_reducible apply wl_callin (f := 41)); exact rfl; exact rfl; (first | exact FnIn.msub (hC [.box g5 28 [x.pa, x.pb]]) (MSub.refl _) | exact FnIn.msub (hC [_, .box g5 28 [x.pa, x.pb]]) (MSub.refl _)); rintro _ _ ⟨gc, gm2, E2, clock2, R2, rfl, rfl, hs2, hG2⟩) | ((with_reducible apply wl_callin (f := 43)); exact rfl; exact rfl; (first | exact FnIn.msub (hD { x with R := R2 } (hx.b.sub hs2) (gB gc gm2 (E2.map En.m) clock2 ++ [.box g5 28 [x.pa, x.pb]])) (MSub.refl _) | exact FnIn.msub (hD { x with R := R2 } (hx.b.sub hs2) (_ :: (gB gc gm2 (E2.map En.m) clock2 ++ [.box g5 28 [x.pa, x.pb]]))) (MSub.refl _) | exact FnIn.msub (hD { x with R := R2 } (hx.b.sub hs2) (gB gc gm2 (E2.map En.m) clock2 ++ [_, .box g5 28 [x.pa, x.pb]])) (MSub.refl _)); rintro _ _ ⟨g2, A2, c2, rfl, rfl⟩) | refine sT ?_ | refine sS ?_ | refine sM fun _ => ?_ | (refine sC ?_ ?_ <;> intro hb <;> try omega) | exact cT | fail)
  all_goals
   rename_i g7
   refine cut_n (i := (g7, { x with R := R2 }, Gp.mk gc gm2 E2 clock2 g2 A2 c2 x.Q R2)) ⟨rfl, ⟨hx.a.sub hs2, hx.b.sub hs2, hx.g⟩, ⟨hG2, hx.b.sub hs2, hx.g⟩⟩ sB mS
 ·
  clear hS hx x
  rintro ⟨g7, x, y⟩ ⟨hR, hx, hy⟩
  dsimp only at hR hx hy ⊢
  repeat' (first | refine sT ?_ | refine sS ?_ | refine sM fun _ => ?_ | (refine sC ?_ ?_ <;> intro hb <;> try omega) | exact cT | fail)
  refine w_loopK [1, 5, 7] rfl (fun z : Nat × Gp × Gp × Gr × Gr => [(8, .int .i64 (z.1 : Int))]) (fun z => [.box g7 28 [z.2.2.1.pa, z.2.2.1.pb], .box g5 28 [z.2.1.pa, z.2.1.pb]] ++ ((z.2.2.1.a ++ z.2.2.1.b) ++ z.2.1.H)) (fun z => z.1 ≤ M.length ∧ z.1 ≤ 20 ∧ z.2.1.R = z.2.2.1.R ∧ z.2.1.ok z.2.2.2.1 ∧ z.2.2.1.ok z.2.2.2.2 ∧ z.2.2.2.1.length ≤ 40 + z.1 ∧ z.2.2.2.2.length ≤ 40 + z.1) (fun z => M.length - z.1) (0, x, y, G, G) ⟨Nat.zero_le _, Nat.zero_le _, hR, hx, hy, hlen, hlen⟩ sB (MSub.refl _) ?_
  clear hR hx hy hlen x y G
  rintro ⟨i, x, y, G, G'⟩ ⟨hi, hi2, hR, hx, hy, hl1, hl2⟩
  dsimp only at hi hi2 hR hx hy hl1 hl2 ⊢
  by_cases hlt : i < M.length ∧ i < 20
  ·
   obtain ⟨hlt, hlt2⟩ := hlt
   obtain ⟨gl, ol, rfl, hrl⟩ := hm5 (by omega)
   have hp := hrl.elem encPu_len i hlt
   generalize M[i] = p at hp
   have hAt := fun w => puAt_at p w
   obtain ⟨c, hcc⟩ : ∃ c, (i : Int).tmod 2 = c := ⟨_, rfl⟩
   by_cases hc0 : c = 0
   ·
    subst hc0
    repeat' (first | ((with_reducible apply wl_v (d := 36)); exact rfl; (with_reducible apply v_rem_to (c := 0)); exact rfl; exact rfl; omega; exact hcc) | refine sT ?_ | refine sS ?_ | refine sN ?_ | refine sM fun _ => ?_ | (refine sC ?_ ?_ <;> intro hb <;> try omega) | exact cT | fail)
    all_goals first | (exfalso; omega) | skip
    rename_i g9
    have hT := fun F => y.set G' hy p.ref p.input F w hW
    have hT2 := fun (z : Gp) (h : RGOk z.R z.Q G') F => z.rset G' h hy.g.sort (by omega) p.ref p.input F w
    have hg' := hy.g.set p.ref p.input
    have hgl := setG_len G' p.ref p.input
    generalize p.ref = q at hAt hT hT2 hg' hgl
    generalize setG G' q p.input = sg at hT hT2 hg' hgl
    obtain ⟨GN, se⟩ := sg
    dsimp only at hT hT2 hg' hgl
    refine w_subH (([.box g9 28 [y.pa, y.pb], .box g7 28 [y.pa, y.pb], .box g5 28 [x.pa, x.pb]] ++ (x.a ++ x.b)) ++ y.H) (MSub.of_perm (by rw [show ([.box g9 28 [y.pa, y.pb], .box g7 28 [y.pa, y.pb], .box g5 28 [x.pa, x.pb]] ++ (x.a ++ x.b)) ++ y.H = ([.box g9 28 [y.pa, y.pb], .box g7 28 [y.pa, y.pb], .box g5 28 [x.pa, x.pb]] ++ (x.a ++ x.b)) ++ y.H from rfl]; exact Gp.swap y x hR.symm [.box g9 28 [y.pa, y.pb], .box g7 28 [y.pa, y.pb], .box g5 28 [x.pa, x.pb]])) ?_
    refine w_drawC (id := 11) [6, 12, 19, 25, 29, 34] [] [.box g9 28 [y.pa, y.pb], .box g7 28 [y.pa, y.pb], .box g5 28 [x.pa, x.pb]] (by kernel_rfl) (by kernel_rfl) (by kernel_rfl) mS ?_
    repeat' (first | ((with_reducible apply wc_v); (iterate 3 exact rfl); (with_reducible apply v_indexAddr (j := i)); exact rfl; exact rfl; exact hlt) | ((with_reducible apply wc_v); (iterate 3 exact rfl); (with_reducible apply v_loadw_ro); exact rfl; exact hp; exact rfl) | ((with_reducible apply wc_v); (iterate 3 exact rfl); (with_reducible apply v_loadf_ro (off := 2)); exact rfl; exact hp; exact rfl) | ((with_reducible apply wc_callp); (iterate 4 exact rfl); (intro w hm; exact hAt w)) | ((with_reducible apply wl_callin (f := 27)); exact rfl; exact rfl; exact FnIn.msub (hT ([.box g9 28 [y.pa, y.pb], .box g7 28 [y.pa, y.pb], .box g5 28 [x.pa, x.pb]] ++ (x.a ++ x.b))) (MSub.refl _); rintro _ _ ⟨rfl, E1, k1, R1, rfl, hs1, hG1⟩) | ((with_reducible apply wl_callin (f := 28)); exact rfl; exact rfl; exact FnIn.msub (hT2 { y with E := E1, clock := k1, R := R1 } (hy.b.sub hs1) ([.box g9 28 [y.pa, y.pb], .box g7 28 [y.pa, y.pb], .box g5 28 [x.pa, x.pb]] ++ (x.a ++ x.b))) (MSub.refl _); rintro _ _ ⟨rfl, A2, c2, Q2, R2, rfl, hs2, hG2⟩) | ((with_reducible apply wc_v); (iterate 3 exact rfl); (with_reducible apply v_neq_same); exact rfl; exact rfl) | ((with_reducible apply wl_callin (f := 36) (vs := [.agg #[x.pa, x.pb]])); exact rfl; exact rfl; exact Same_in ({ x with R := R2 }) G ⟨hx.a.sub (hR.symm ▸ (MSub.trans hs1 hs2)), hx.b.sub (hR.symm ▸ (MSub.trans hs1 hs2)), hx.g⟩ (by omega) (two_in ({ x with R := R2 }) ({ y with E := E1, clock := k1, A := A2, cap := c2, Q := Q2, R := R2 }) rfl _) w; rintro _ _ ⟨rfl, rfl⟩) | ((with_reducible apply wl_callin (f := 36) (vs := [.agg #[y.pa, y.pb]])); exact rfl; exact rfl; exact Same_in ({ y with E := E1, clock := k1, A := A2, cap := c2, Q := Q2, R := R2 }) GN ⟨hG1.sub hs2, hG2, hg'⟩ (by omega) (MSub.appR _ _) w; rintro _ _ ⟨rfl, rfl⟩) | refine sT ?_ | refine sS ?_ | refine sW ?_ | refine sN ?_ | refine sWN ?_ | refine sM fun _ => ?_ | (refine sC ?_ ?_ <;> intro hb <;> try omega) | (refine sCW ?_ ?_ <;> intro hb <;> try omega) | exact cT | fail)
    all_goals first
     | (exfalso; omega)
     | (refine ⟨(i + 1, { x with R := R2 }, { y with E := E1, clock := k1, A := A2, cap := c2, Q := Q2, R := R2 }, G, GN), ⟨hlt, hlt2, rfl, ⟨hx.a.sub (hR.symm ▸ (MSub.trans hs1 hs2)), hx.b.sub (hR.symm ▸ (MSub.trans hs1 hs2)), hx.g⟩, ⟨hG1.sub hs2, hG2, hg'⟩, (by dsimp only; omega), (by dsimp only; omega)⟩, (by dsimp only; omega), sB, sB, two_sub ({ x with R := R2 }) ({ y with E := E1, clock := k1, A := A2, cap := c2, Q := Q2, R := R2 }) rfl _ _ _⟩)
     | trace_state
   ·
    repeat' (first | ((with_reducible apply wl_v (d := 36)); exact rfl; (with_reducible apply v_rem_to (c := c)); exact rfl; exact rfl; omega; exact hcc) | refine sT ?_ | refine sS ?_ | refine sN ?_ | refine sM fun _ => ?_ | (refine sC ?_ ?_ <;> intro hb <;> try omega) | exact cT | fail)
    all_goals first | (exfalso; omega) | skip
    rename_i g9
    have hT := fun F => x.set G hx p.ref p.input F w hW
    have hT2 := fun (z : Gp) (h : RGOk z.R z.Q G) F => z.rset G h hx.g.sort (by omega) p.ref p.input F w
    have hg' := hx.g.set p.ref p.input
    have hgl := setG_len G p.ref p.input
    generalize p.ref = q at hAt hT hT2 hg' hgl
    generalize setG G q p.input = sg at hT hT2 hg' hgl
    obtain ⟨GN, se⟩ := sg
    dsimp only at hT hT2 hg' hgl
    refine w_subH (([.box g9 28 [x.pa, x.pb], .box g7 28 [y.pa, y.pb], .box g5 28 [x.pa, x.pb]] ++ (y.a ++ y.b)) ++ x.H) (MSub.refl _) ?_
    refine w_drawC (id := 11) [6, 12, 19, 25, 29, 34] [] [.box g9 28 [x.pa, x.pb], .box g7 28 [y.pa, y.pb], .box g5 28 [x.pa, x.pb]] (by kernel_rfl) (by kernel_rfl) (by kernel_rfl) mS ?_
    repeat' (first | ((with_reducible apply wc_v); (iterate 3 exact rfl); (with_reducible apply v_indexAddr (j := i)); exact rfl; exact rfl; exact hlt) | ((with_reducible apply wc_v); (iterate 3 exact rfl); (with_reducible apply v_loadw_ro); exact rfl; exact hp; exact rfl) | ((with_reducible apply wc_v); (iterate 3 exact rfl); (with_reducible apply v_loadf_ro (off := 2)); exact rfl; exact hp; exact rfl) | ((with_reducible apply wc_callp); (iterate 4 exact rfl); (intro w hm; exact hAt w)) | ((with_reducible apply wl_callin (f := 27)); exact rfl; exact rfl; exact FnIn.msub (hT ([.box g9 28 [x.pa, x.pb], .box g7 28 [y.pa, y.pb], .box g5 28 [x.pa, x.pb]] ++ (y.a ++ y.b))) (MSub.refl _); rintro _ _ ⟨rfl, E1, k1, R1, rfl, hs1, hG1⟩) | ((with_reducible apply wl_callin (f := 28)); exact rfl; exact rfl; exact FnIn.msub (hT2 { x with E := E1, clock := k1, R := R1 } (hx.b.sub hs1) ([.box g9 28 [x.pa, x.pb], .box g7 28 [y.pa, y.pb], .box g5 28 [x.pa, x.pb]] ++ (y.a ++ y.b))) (MSub.refl _); rintro _ _ ⟨rfl, A2, c2, Q2, R2, rfl, hs2, hG2⟩) | ((with_reducible apply wc_v); (iterate 3 exact rfl); (with_reducible apply v_neq_same); exact rfl; exact rfl) | ((with_reducible apply wl_callin (f := 36) (vs := [.agg #[x.pa, x.pb]])); exact rfl; exact rfl; exact Same_in ({ x with E := E1, clock := k1, A := A2, cap := c2, Q := Q2, R := R2 }) GN ⟨hG1.sub hs2, hG2, hg'⟩ (by omega) (MSub.appR _ _) w; rintro _ _ ⟨rfl, rfl⟩) | ((with_reducible apply wl_callin (f := 36) (vs := [.agg #[y.pa, y.pb]])); exact rfl; exact rfl; exact Same_in ({ y with R := R2 }) G' ⟨hy.a.sub (hR ▸ (MSub.trans hs1 hs2)), hy.b.sub (hR ▸ (MSub.trans hs1 hs2)), hy.g⟩ (by omega) (two_in ({ y with R := R2 }) ({ x with E := E1, clock := k1, A := A2, cap := c2, Q := Q2, R := R2 }) rfl _) w; rintro _ _ ⟨rfl, rfl⟩) | refine sT ?_ | refine sS ?_ | refine sW ?_ | refine sN ?_ | refine sWN ?_ | refine sM fun _ => ?_ | (refine sC ?_ ?_ <;> intro hb <;> try omega) | (refine sCW ?_ ?_ <;> intro hb <;> try omega) | exact cT | fail)
    all_goals first
     | (exfalso; omega)
     | (refine ⟨(i + 1, { x with E := E1, clock := k1, A := A2, cap := c2, Q := Q2, R := R2 }, { y with R := R2 }, GN, G'), ⟨hlt, hlt2, rfl, ⟨hG1.sub hs2, hG2, hg'⟩, ⟨hy.a.sub (hR ▸ (MSub.trans hs1 hs2)), hy.b.sub (hR ▸ (MSub.trans hs1 hs2)), hy.g⟩, (by dsimp only; omega), (by dsimp only; omega)⟩, (by dsimp only; omega), sB, sB, MSub.drop .hd (MSub.refl _)⟩)
     | trace_state
  ·
   repeat' (first | ((with_reducible apply wl_callin (f := 36) (vs := [.agg #[x.pa, x.pb]])); exact rfl; exact rfl; exact Same_in x G hx (by omega) (MSub.trans (MSub.appR x.H (y.a ++ y.b)) (MSub.appR _ _)) w; rintro _ _ ⟨rfl, rfl⟩) | ((with_reducible apply wl_callin (f := 36) (vs := [.agg #[y.pa, y.pb]])); exact rfl; exact rfl; exact Same_in y G' hy (by omega) (MSub.trans (MSub.appR y.H ([.box g7 28 [y.pa, y.pb], .box g5 28 [x.pa, x.pb]] ++ (x.a ++ x.b))) (MSub.of_perm (by rw [← List.append_assoc]; exact Gp.swap y x hR.symm [.box g7 28 [y.pa, y.pb], .box g5 28 [x.pa, x.pb]]))) w; rintro _ _ ⟨rfl, rfl⟩) | ((with_reducible apply wl_callp (f := 26)); exact rfl; exact rfl; (intro w' hm; exact awake22_at w' (hW.next hm))) | refine sT ?_ | refine sS ?_ | refine sN ?_ | refine sM fun _ => ?_ | (refine sC ?_ ?_ <;> intro hb <;> try omega) | exact cT | fail)
   all_goals first
    | (exfalso; omega)
    | ((refine rT1 ?_); rfl)
    | trace_state
end Go.SL

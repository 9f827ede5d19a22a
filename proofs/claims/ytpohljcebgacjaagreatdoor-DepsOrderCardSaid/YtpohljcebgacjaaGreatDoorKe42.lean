/-
  Lemmas and walks, put together: L8.
-/
import Derived.Test.YtpohljcebgacjaaGreatDoorKe41
set_option linter.unusedSimpArgs false
set_option linter.unusedVariables false
set_option maxRecDepth 20000
namespace Go.SL
open Go Go.Proofs
attribute [local irreducible] W WL WQ WG WA WX WLI WR WT WC VOp RW thn blk cutP scp retP retPP endB FnAt FnIn FnP ceP
theorem later_any (x : Gp) (G : Gr) (hx : x.ok G) (L : List Pu) (hL : L.length ≤ 40) (lv : Value) (w0 : World) (hl : Reads w0 lv L.length (L.flatMap encPu)) (hW : Words w0) (i : Nat) (hi : i < L.length) {b : Bool} (hb : laterP L[i] (L.drop (i + 1)) = b) {H : List Blk} (hs : MSub x.H H) :
  FnIn Tryz.prog 45 [.agg #[x.pa, x.pb], lv, .int .i64 (i : Int)] w0 H fun v H' => v = .bool b ∧ H' = H := by
 subst hb
 obtain ⟨F, hp⟩ := hs
 refine ((later_in x G hx L hL lv w0 hl hW i hi F).msub (MSub.of_perm (hp.trans List.perm_append_comm))).re ?_
 rintro v H' ⟨hv, rfl⟩
 exact ⟨_, MSub.of_perm (hp.trans List.perm_append_comm).symm, hv, rfl⟩
theorem mid_perm (F1 g R F2 : List Blk) : (F1 ++ (g ++ (R ++ F2))).Perm (g ++ (R ++ (F2 ++ F1))) := by
 refine List.perm_append_comm.trans ?_
 simp only [List.append_assoc]
 exact .refl _
theorem GOk.set_mid {R : List Blk} {E : List En} {clock : Nat} {G : Gr} (h : GOk R E clock G) (gg gm : Nat) (F1 F2 : List Blk) {w0 : World} (hW : Words w0) (c : Rf) (i : ByteArray) :
  FnIn Tryz.prog 27 [.pointer (some ⟨gg, 0, none⟩), keyF c, .string i] w0 (F1 ++ (gB gg gm (E.map En.m) clock ++ (R ++ F2))) fun v H' => v = .int .i64 (setG G c i).2 ∧ ∃ E' clock' R', H' = F1 ++ (gB gg gm (E'.map En.m) clock' ++ (R' ++ F2)) ∧ GOk R' E' clock' (setG G c i).1 := by
 refine (FnIn.msub (Set_inF gg gm clock E G c i R (F2 ++ F1) w0 h hW) (MSub.of_perm (mid_perm _ _ _ _))).re ?_
 rintro v H' ⟨hv, E', clock', R', rfl, _, hG⟩
 exact ⟨_, MSub.of_perm (mid_perm _ _ _ _).symm, hv, E', clock', R', rfl, hG⟩
theorem MSub.gR (g R F : List Blk) : MSub (g ++ R) (g ++ (R ++ F)) := ⟨F, by rw [List.append_assoc]⟩
theorem MSub.gX (g R F : List Blk) : MSub F (g ++ (R ++ F)) := MSub.trans (MSub.appR F R) (MSub.appR _ g)
theorem ord_perm (g R X : List Blk) (b : Blk) : MSub (b :: (g ++ (R ++ X))) ((g ++ R) ++ (b :: X)) := by
 refine MSub.of_perm ?_
 rw [← List.append_assoc g R X]
 exact List.perm_middle
theorem foldU_le (l : List Pu) : (foldU [] l).length ≤ l.length := by
 have := foldU_len l []
 rw [List.length_nil] at this
 omega
theorem keysG_len (G : Gr) : (keysG G).length = G.length := by rw [keysG, List.length_map]
set_option maxHeartbeats 8000000 in
theorem DepsOrder_at (L : List Pu) (tv : Value) (w : World) (ht : Reads w tv L.length (L.flatMap encPu)) (hW : Words w) :
  Pure Tryz.prog 8 [tv] w (.bool true) := by
 have ht' := ht
 obtain ⟨At, ct, rfl, ht1, ht2, ht3⟩ := ht
 refine fn_at Tryz.func8 rfl Tryz.ntmps8 rfl ?_
 have hcut := ht'.cut (lo := 0) (hi := min L.length 40) (sz := 3) (by omega) (by omega)
 generalize hm : min L.length 40 = m at hcut
 have hm2 : m ≤ 40 := by omega
 have hmL : m ≤ L.length := by omega
 have hl1 : (L.take m).length = m := by simp; omega
 have hl2 : ((L.flatMap encPu).drop (0 * 3)).take ((m - 0) * 3) = (L.take m).flatMap encPu := by
  rw [Nat.zero_mul, List.drop_zero, Nat.sub_zero, flat_take encPu_len]
 rw [hl2, Nat.sub_zero] at hcut
 generalize L.take m = M at hl1 hcut
 subst hl1
 have hS := fun (w' : World) (H : List Blk) (hm : Mem w w' H) => StartP_at M _ w' (hcut.of_w0 hm) (hW.next hm)
 have hN : ∀ (w' : World) (H : List Blk), Mem w w' H → FnAt Tryz.prog 38 [.slice none 0 0] w' fun v H => ∃ gg gm E clock R, v = .tuple #[.pointer (some ⟨gg, 0, none⟩), .int .i64 0] ∧ H = gB gg gm (E.map En.m) clock ++ R ∧ GOk R E clock [] := by
  intro w' H hm
  have h1 := New_at [] (.slice none 0 0) w' ⟨none, 0, rfl, Nat.le_refl _, Nat.zero_le _, fun h => by cases h⟩ (by simp) (hW.next hm)
  rw [newG_nil] at h1
  exact h1
 obtain ⟨G, hG⟩ : ∃ G, G = startG M := ⟨_, rfl⟩
 have hGM : G = foldU [] M := by
  rw [hG, startG, List.take_of_length_le hm2]
 rw [← hG] at hS
 repeat' (first | ((with_reducible apply wl_v); exact rfl; (with_reducible apply v_minN (a := L.length) (b := 40)); exact rfl; exact rfl; exact hm) | ((with_reducible apply wl_v); exact rfl; (with_reducible apply v_slice (lo := 0) (hi := M.length)); exact rfl; exact rfl; exact ⟨_, rfl⟩; omega; omega) | ((with_reducible apply wl_call (f := 14)); exact rfl; exact rfl; (intro w' hm; exact hS w' _ hm); rintro _ _ ⟨x, rfl, rfl, hx⟩; refine wl_subH _ (MSub.appS _ _) ?_) | ((with_reducible apply wl_call (f := 38)); exact rfl; exact rfl; (intro w' hm; exact hN w' _ hm); rintro _ _ ⟨gg, gm, E, clock, R, rfl, rfl, hA⟩) | refine sT ?_ | refine sS ?_ | refine sJ ?_ | refine sM fun _ => ?_ | (refine sC ?_ ?_ <;> intro hb <;> try omega) | fail)
 rename_i g3
 have hnl : (foldU [] (M.drop M.length)) = [] := by rw [List.drop_length]; rfl
 refine w_loopK [0, 3, 5] rfl (fun y : Int × Nat × List En × Nat × List Blk => [(7, .int .i64 y.1)]) (fun y => .box g3 28 [x.pa, x.pb] :: (gB gg gm (y.2.2.1.map En.m) y.2.2.2.1 ++ (y.2.2.2.2 ++ x.H))) (fun y => y.1 = (y.2.1 : Int) - 1 ∧ y.2.1 ≤ M.length ∧ GOk y.2.2.2.2 y.2.2.1 y.2.2.2.1 (foldU [] (M.drop y.2.1))) (fun y => y.2.1) ((M.length : Int) - 1, M.length, E, clock, R) ⟨rfl, Nat.le_refl _, (by dsimp only; rw [hnl]; exact hA)⟩ sB (ord_perm _ _ _ _) ?_
 clear hA hN hS hnl E clock R
 rintro ⟨z, j, E, clock, R⟩ ⟨hz, hj, hA⟩
 dsimp only at hz hj hA ⊢
 cases j with
 | succ j =>
  obtain rfl : z = (j : Int) := by omega
  have hcut' := hcut
  obtain ⟨Am, cm, hme, hm3, hm4, hm5⟩ := hcut
  obtain ⟨gl, ol, hAm, hrl⟩ := hm5 (by omega)
  subst hAm
  injection hme with hme1 hme2 hme3
  have hp := hrl.elem encPu_len j hj
  have hlt : j < M.length := hj
  have hone := @fold_first M[j] (M.drop (j + 1))
  have htwo := @fold_later M[j] (M.drop (j + 1))
  have hthr := @is_later M[j] (M.drop (j + 1))
  rw [← List.drop_eq_getElem_cons hlt] at hone htwo
  have hlat := fun (b : Bool) (hb : laterP M[j] (M.drop (j + 1)) = b) (H : List Blk) (hs : MSub x.H H) => later_any x G hx M hm2 _ w hcut' hW j hlt hb hs
  have hgo : GrOk (foldU [] (M.drop (j + 1))) := foldU_ok _ grOk_nil
  have hgl : (foldU [] (M.drop (j + 1))).length ≤ 40 := by
   have := foldU_le (M.drop (j + 1))
   rw [List.length_drop] at this
   omega
  generalize foldU [] (M.drop (j + 1)) = G1 at hA hone htwo hthr hgo hgl
  generalize laterP M[j] (M.drop (j + 1)) = lt at hone htwo hthr hlat
  generalize M[j] = p at hp hone hthr
  rw [hme1] at hlat ⊢
  have hAt := fun w => puAt_at p w
  have hxs : MSub x.H (gB gg gm (E.map En.m) clock ++ (R ++ x.H)) := MSub.gX _ _ _
  have hgs : MSub (gB gg gm (E.map En.m) clock ++ R) (gB gg gm (E.map En.m) clock ++ (R ++ x.H)) := MSub.gR _ _ _
  have hTr := fun (H : List Blk) (hs : MSub (gB gg gm (E.map En.m) clock ++ R) H) => hA.tree_any gg gm hs w p.ref
  have hFo := fun (H : List Blk) (hs : MSub (gB gg gm (E.map En.m) clock ++ R) H) => hA.formulas_any gg gm hs w (by omega)
  have hSe := fun (F1 : List Blk) => hA.set_mid gg gm F1 x.H hW p.ref p.input
  have hset := fun (ha : accP p = true) (hi : isG G1 p.ref = false) => set_is hgo.sort ha hi
  have hacc : accP p = decide ((setG G1 p.ref p.input).2 = 0) := by rw [setG_err]; rfl
  have hng := fun (ha : accP p = false) => setG_no (G := G1) ha
  have hsl := setG_len G1 p.ref p.input
  generalize setG G1 p.ref p.input = sg at hone hSe hset hacc hng hsl
  obtain ⟨G2, se⟩ := sg
  dsimp only at hone hSe hset hacc hng hsl
  generalize hisb : isG G1 p.ref = isb at hTr hthr hset
  have hskip : lt = true → ∀ s' H', Sub [(7, .int .i64 ((j : Int) - 1))] s' → Sub [(0, .slice (some ⟨gl, ol, none⟩) (M.length - 0) (ct - 0)), (3, .pointer (some ⟨g3, 0, none⟩)), (5, .pointer (some ⟨gg, 0, none⟩))] s' → MSub (.box g3 28 [x.pa, x.pb] :: (gB gg gm (E.map En.m) clock ++ (R ++ x.H))) H' → ∃ y : Int × Nat × List En × Nat × List Blk, (y.1 = (y.2.1 : Int) - 1 ∧ y.2.1 ≤ M.length ∧ GOk y.2.2.2.2 y.2.2.1 y.2.2.2.1 (foldU [] (M.drop y.2.1))) ∧ y.2.1 < j + 1 ∧ Sub [(7, .int .i64 y.1)] s' ∧ Sub [(0, .slice (some ⟨gl, ol, none⟩) (M.length - 0) (ct - 0)), (3, .pointer (some ⟨g3, 0, none⟩)), (5, .pointer (some ⟨gg, 0, none⟩))] s' ∧ MSub (.box g3 28 [x.pa, x.pb] :: (gB gg gm (y.2.2.1.map En.m) y.2.2.2.1 ++ (y.2.2.2.2 ++ x.H))) H' := by
   intro hlt2 s' H' h1 h2 h3
   exact ⟨((j : Int) - 1, j, E, clock, R), ⟨rfl, by dsimp only; omega, (by dsimp only; rw [htwo hlt2]; exact hA)⟩, by dsimp only; omega, h1, h2, h3⟩
  cases isb with
  | true =>
   have hlt2 := hthr rfl
   repeat' (first | ((with_reducible apply wl_v); exact rfl; (with_reducible apply v_indexAddr (j := j)); exact rfl; exact rfl; exact hlt) | ((with_reducible apply wl_v (d := 55)); exact rfl; (with_reducible apply v_loadw_ro); exact rfl; exact hp; exact rfl) | ((with_reducible apply wl_callp); exact rfl; exact rfl; (intro w hm; exact hAt w)) | ((with_reducible apply wl_callin (f := 29)); exact rfl; exact rfl; exact hTr _ (MSub.trans hgs mS); rintro _ _ ⟨A7, c7, rfl, rfl⟩) | refine sT ?_ | refine sS ?_ | refine sJ ?_ | refine sM fun _ => ?_ | (refine sC ?_ ?_ <;> intro hb <;> try omega) | fail)
   all_goals first
    | (exfalso; omega)
    | (exact hskip hlt2 _ _ sB sB mS)
    | trace_state
  | false =>
   cases lt with
   | true =>
    repeat' (first | ((with_reducible apply wl_v); exact rfl; (with_reducible apply v_indexAddr (j := j)); exact rfl; exact rfl; exact hlt) | ((with_reducible apply wl_v (d := 55)); exact rfl; (with_reducible apply v_loadw_ro); exact rfl; exact hp; exact rfl) | ((with_reducible apply wl_callp); exact rfl; exact rfl; (intro w hm; exact hAt w)) | ((with_reducible apply wl_callin (f := 29)); exact rfl; exact rfl; exact hTr _ (MSub.trans hgs mS); rintro _ _ ⟨A7, c7, rfl, rfl⟩) | ((with_reducible apply wl_callin (f := 45)); exact rfl; exact rfl; exact hlat true rfl _ (MSub.trans hxs mS); rintro _ _ ⟨rfl, rfl⟩) | refine sT ?_ | refine sS ?_ | refine sJ ?_ | refine sM fun _ => ?_ | (refine sC ?_ ?_ <;> intro hb <;> try omega) | fail)
    all_goals first
     | (exfalso; omega)
     | (exact hskip rfl _ _ sB sB mS)
     | trace_state
   | false =>
    have hG2 := hone rfl
    repeat' (first | ((with_reducible apply wl_v); exact rfl; (with_reducible apply v_indexAddr (j := j)); exact rfl; exact rfl; exact hlt) | ((with_reducible apply wl_v (d := 55)); exact rfl; (with_reducible apply v_loadw_ro); exact rfl; exact hp; exact rfl) | ((with_reducible apply wl_callp); exact rfl; exact rfl; (intro w hm; exact hAt w)) | ((with_reducible apply wl_callin (f := 29)); exact rfl; exact rfl; exact hTr _ (MSub.trans hgs mS); rintro _ _ ⟨A7, c7, rfl, rfl⟩) | ((with_reducible apply wl_callin (f := 45)); exact rfl; exact rfl; exact hlat false rfl _ (MSub.trans hxs mS); rintro _ _ ⟨rfl, rfl⟩) | ((with_reducible apply wl_callin (f := 17)); exact rfl; exact rfl; exact hFo _ (MSub.trans hgs mS); rintro _ _ ⟨A11, c11, rfl, rfl⟩) | refine sT ?_ | refine sS ?_ | refine sJ ?_ | refine sM fun _ => ?_ | (refine sC ?_ ?_ <;> intro hb <;> try omega) | fail)
    all_goals first | (exfalso; omega) | skip
    rename_i g8
    refine w_drawC (id := 13) [7] [] [.box g8 38 (encF p.ref)] (by kernel_rfl) (by kernel_rfl) (by kernel_rfl) mS ?_
    repeat' (first | ((with_reducible apply wc_v); (iterate 3 exact rfl); (with_reducible apply v_indexAddr (j := j)); exact rfl; exact rfl; exact hlt) | ((with_reducible apply wc_v (d := 78)); (iterate 3 exact rfl); (with_reducible apply v_loadf_ro (off := 2)); exact rfl; exact hp; exact rfl) | ((with_reducible apply wl_callin (f := 27)); exact rfl; exact rfl; exact FnIn.msub (hSe [.own A11 38 2 (keysG G1).length c11 ((keysG G1).flatMap encF), .own A7 136 11 (treeG G1 p.ref).length c7 ((treeG G1 p.ref).flatMap encN), .box g8 38 (encF p.ref), .box g3 28 [x.pa, x.pb]]) (MSub.refl _); rintro _ _ ⟨rfl, E2, k2, R2, rfl, hA2⟩) | ((with_reducible apply wc_v (d := 80)); (iterate 3 exact rfl); (with_reducible apply v_neq); exact rfl; exact rfl) | refine sT ?_ | refine sS ?_ | refine sW ?_ | refine sJ ?_ | refine sWJ ?_ | refine sM fun _ => ?_ | (refine sC ?_ ?_ <;> intro hb <;> try omega) | (refine sCW ?_ ?_ <;> intro hb <;> try omega) | fail)
    ·
     exact ⟨((j : Int) - 1, j, E2, k2, R2), ⟨rfl, by dsimp only; omega, (by dsimp only; rw [hG2]; exact hA2)⟩, by dsimp only; omega, sB, sB, mS⟩
    ·
     have hse : se = 0 := by omega
     obtain ⟨hk1, hk2⟩ := hset (by rw [hacc, hse]; rfl) rfl
     have hins : ((keysG G1).all fun a => decide (a ∈ keysG G2)) = true := by
      rw [List.all_eq_true]
      exact fun a ha => decide_eq_true (hk1 a ha)
     have e1 := keysG_len G1
     have e2 := keysG_len G2
     have hgs2 : MSub (gB gg gm (E2.map En.m) k2 ++ R2) (gB gg gm (E2.map En.m) k2 ++ (R2 ++ x.H)) := MSub.gR _ _ _
     have hFo2 := fun (H : List Blk) (hs : MSub (gB gg gm (E2.map En.m) k2 ++ R2) H) => hA2.formulas_any gg gm hs w (by omega)
     have hTr2 := fun (H : List Blk) (hs : MSub (gB gg gm (E2.map En.m) k2 ++ R2) H) => hA2.tree_any gg gm hs w p.ref
     generalize isG G2 p.ref = b2 at hk2 hTr2
     have hml : (1000 : Nat) ≤ maxLen := by decide
     cases b2
     all_goals simp only [Bool.false_eq_true, if_false, if_true] at hk2
     repeat' (first | ((with_reducible apply wl_callin (f := 17)); exact rfl; exact rfl; exact hFo2 _ (MSub.trans hgs2 mS); rintro _ _ ⟨A12, c12, rfl, rfl⟩) | ((with_reducible apply wl_callin (f := 29)); exact rfl; exact rfl; exact hTr2 _ (MSub.trans hgs2 mS); rintro _ _ ⟨A13, c13, rfl, rfl⟩) | ((with_reducible apply wl_callp (f := 25)); exact rfl; exact rfl; (intro w' hm; exact inside_to hins (Reads.of_own hm pK) (Reads.of_own hm pK))) | refine sT ?_ | refine sS ?_ | refine sN ?_ | refine sM fun _ => ?_ | (refine sC ?_ ?_ <;> intro hb <;> try omega) | fail)
     all_goals first | (exfalso; omega) | skip
     repeat' (first | refine sT ?_ | refine sS ?_ | refine sJ ?_ | refine sM fun _ => ?_ | (refine sC ?_ ?_ <;> intro hb <;> try omega) | fail)
     all_goals exact ⟨((j : Int) - 1, j, E2, k2, R2), ⟨rfl, by dsimp only; omega, (by dsimp only; rw [hG2]; exact hA2)⟩, by dsimp only; omega, sB, sB, mS⟩
 | zero =>
  rw [List.drop_zero, ← hGM] at hA
  have hlen : G.length ≤ 40 := by
   have := foldU_le M
   rw [← hGM] at this
   omega
  have hl' : G.length ≤ 900 := by omega
  have hgo := hx.g
  have hxs : MSub x.H (gB gg gm (E.map En.m) clock ++ (R ++ x.H)) := MSub.gX _ _ _
  have hgs : MSub (gB gg gm (E.map En.m) clock ++ R) (gB gg gm (E.map En.m) clock ++ (R ++ x.H)) := MSub.gR _ _ _
  have hXF := fun (H : List Blk) (hs : MSub x.H H) => x.formulas G hx hs w hl'
  have hXE := fun (H : List Blk) (hs : MSub x.H H) => x.edges G hx hs w hl'
  have hXT := fun (c : Rf) (H : List Blk) (hs : MSub x.H H) => x.treeA G hx hs w c
  have hXU := fun (c : Rf) (H : List Blk) (hs : MSub x.H H) => x.usesA G hx hs w c
  have hAF := fun (H : List Blk) (hs : MSub (gB gg gm (E.map En.m) clock ++ R) H) => hA.formulas_any gg gm hs w hl'
  have hAE := fun (H : List Blk) (hs : MSub (gB gg gm (E.map En.m) clock ++ R) H) => hA.edges_any gg gm hs w hl'
  have hAT := fun (c : Rf) (H : List Blk) (hs : MSub (gB gg gm (E.map En.m) clock ++ R) H) => hA.tree_any gg gm hs w c
  have hAU := fun (c : Rf) (H : List Blk) (hs : MSub (gB gg gm (E.map En.m) clock ++ R) H) => hA.uses_any gg gm hs w c
  have hKl := keysG_len G
  generalize keysG G = K at hXF hAF hKl
  generalize edgesG G = PE at hXE hAE
  repeat' (first | ((with_reducible apply wl_callin (f := 17) (vs := [x.pa])); exact rfl; exact rfl; exact hXF _ (MSub.trans hxs mS); rintro _ _ ⟨A15, c15, rfl, rfl⟩) | ((with_reducible apply wl_callin (f := 23) (vs := [x.pa])); exact rfl; exact rfl; exact hXE _ (MSub.trans hxs mS); rintro _ _ ⟨A16, c16, rfl, rfl⟩) | ((with_reducible apply wl_callin (f := 17)); exact rfl; exact rfl; exact hAF _ (MSub.trans hgs mS); rintro _ _ ⟨A17, c17, rfl, rfl⟩) | ((with_reducible apply wl_callin (f := 23)); exact rfl; exact rfl; exact hAE _ (MSub.trans hgs mS); rintro _ _ ⟨A18, c18, rfl, rfl⟩) | ((with_reducible apply wl_callp (f := 34)); exact rfl; exact rfl; (intro w' hm; exact EqualRefs_to rfl (Reads.of_own hm pK) (Reads.of_own hm pK))) | ((with_reducible apply wl_callp (f := 42)); exact rfl; exact rfl; (intro w' hm; exact EqualPairs_to rfl (Reads.of_own hm pK) (Reads.of_own hm pK))) | refine sT ?_ | refine sS ?_ | refine sJ ?_ | refine sM fun _ => ?_ | (refine sC ?_ ?_ <;> intro hb <;> try omega) | fail)
  all_goals first | (exfalso; omega) | skip
  refine w_loopK [3, 5, 15] rfl (fun i : Nat => [(16, .int .i64 (i : Int))]) (fun _ => .own A15 38 2 K.length c15 (K.flatMap encF) :: .box g3 28 [x.pa, x.pb] :: (gB gg gm (E.map En.m) clock ++ (R ++ x.H))) (fun i => i ≤ K.length) (fun i => K.length - i) 0 (Nat.zero_le _) sB mS ?_
  intro i hi
  by_cases hlt : i < K.length
  ·
   refine w_some (A := A15) .hd (by omega) fun gk hAk => ?_
   subst hAk
   have hread := refF hlt
   generalize K[i] = c at hread
   replace hXT := hXT c
   replace hXU := hXU c
   replace hAT := hAT c
   replace hAU := hAU c
   generalize treeG G c = TT at hXT hAT
   generalize usesG G c = UU at hXU hAU
   repeat' (first | refine sT ?_ | refine sS ?_ | refine sN ?_ | refine sM fun _ => ?_ | (refine sC ?_ ?_ <;> intro hb <;> try omega) | fail)
   all_goals first | (exfalso; omega) | skip
   refine w_drawC (id := 24) [6] [] [.own (some gk) 38 2 K.length c15 (K.flatMap encF), .box g3 28 [x.pa, x.pb]] (by kernel_rfl) (by kernel_rfl) (by kernel_rfl) mS ?_
   repeat' (first | ((with_reducible apply wc_v); (iterate 3 exact rfl); (with_reducible apply v_indexAddr (j := i)); exact rfl; exact rfl; exact hlt) | ((with_reducible apply wc_v); (iterate 3 exact rfl); (with_reducible apply v_loads_own); exact rfl; exact pK; exact hread; exact rfl) | ((with_reducible apply wl_callin (f := 29) (vs := [x.pa, keyF c])); exact rfl; exact rfl; exact hXT _ (MSub.trans hxs mS); rintro _ _ ⟨A19, c19, rfl, rfl⟩) | ((with_reducible apply wl_v); exact rfl; (with_reducible apply v_indexAddr (j := i)); exact rfl; exact rfl; exact hlt) | ((with_reducible apply wl_v); exact rfl; (with_reducible apply v_loads_own); exact rfl; exact pK; exact hread; exact rfl) | ((with_reducible apply wl_callin (f := 29)); exact rfl; exact rfl; exact hAT _ (MSub.trans hgs mS); rintro _ _ ⟨A20, c20, rfl, rfl⟩) | refine sT ?_ | refine sS ?_ | refine sW ?_ | refine sN ?_ | refine sWN ?_ | refine sM fun _ => ?_ | (refine sC ?_ ?_ <;> intro hb <;> try omega) | (refine sCW ?_ ?_ <;> intro hb <;> try omega) | fail)
   refine w_drawC (id := 26) [2, 11, 17, 18] [] [.own (some gk) 38 2 K.length c15 (K.flatMap encF), .box g3 28 [x.pa, x.pb]] (by kernel_rfl) (by kernel_rfl) (by kernel_rfl) mS ?_
   repeat' (first | ((with_reducible apply wc_v); (iterate 3 exact rfl); (with_reducible apply v_indexAddr (j := i)); exact rfl; exact rfl; exact hlt) | ((with_reducible apply wc_v); (iterate 3 exact rfl); (with_reducible apply v_loads_own); exact rfl; exact pK; exact hread; exact rfl) | ((with_reducible apply wl_callp (f := 31)); exact rfl; exact rfl; (intro w' hm; exact EqualTree_to rfl (Reads.of_own hm pK) (Reads.of_own hm pK))) | ((with_reducible apply wl_callin (f := 21) (vs := [x.pa, keyF c])); exact rfl; exact rfl; exact hXU _ (MSub.trans hxs mS); rintro _ _ ⟨A21, c21, rfl, rfl⟩) | ((with_reducible apply wl_callin (f := 21)); exact rfl; exact rfl; exact hAU _ (MSub.trans hgs mS); rintro _ _ ⟨A22, c22, rfl, rfl⟩) | ((with_reducible apply wl_callp (f := 32)); exact rfl; exact rfl; (intro w' hm; exact EqualUses_to rfl (Reads.of_own hm pK) (Reads.of_own hm pK))) | refine sT ?_ | refine sS ?_ | refine sW ?_ | refine sN ?_ | refine sWN ?_ | refine sM fun _ => ?_ | (refine sC ?_ ?_ <;> intro hb <;> try omega) | (refine sCW ?_ ?_ <;> intro hb <;> try omega) | fail)
   all_goals first
    | (exfalso; omega)
    | (refine ⟨i + 1, hlt, (by omega), sB, sB, mS⟩)
    | trace_state
  ·
   repeat' (first | ((with_reducible apply wl_callp (f := 26)); exact rfl; exact rfl; (intro w' hm; exact awake22_at w' (hW.next hm))) | refine sT ?_ | refine sS ?_ | refine sN ?_ | refine sM fun _ => ?_ | (refine sC ?_ ?_ <;> intro hb <;> try omega) | fail)
   all_goals first
    | (exfalso; omega)
    | ((refine rT1 ?_); rfl)
    | trace_state
end Go.SL

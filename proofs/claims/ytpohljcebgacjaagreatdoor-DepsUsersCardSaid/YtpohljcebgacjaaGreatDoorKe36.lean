/-
  Lemmas and walks, put together: L6.
-/
import Derived.Test.YtpohljcebgacjaaGreatDoorKe34
set_option linter.unusedSimpArgs false
set_option linter.unusedVariables false
set_option maxRecDepth 20000
namespace Go.SL
open Go Go.Proofs
attribute [local irreducible] W WL WQ WG WA WX WLI WR WT WC VOp RW thn blk cutP scp retP retPP endB FnAt FnIn FnP ceP
set_option maxHeartbeats 8000000 in
theorem DepsUsers_at (L : List Pu) (r : Rct) (tv : Value) (w : World) (ht : Reads w tv L.length (L.flatMap encPu)) (hW : Words w) :
    Pure Tryz.prog 3 [tv, .agg (encR r).toArray] w (.bool true) := by
  refine fn_at Tryz.func3 rfl Tryz.ntmps3 rfl ?_
  have hS := fun (w' : World) (H : List Blk) (hm : Mem w w' H) => StartP_at L tv w' (ht.of_w0 hm) (hW.next hm)
  have hlen := startG_len L
  generalize startG L = G at hS hlen
  have hRR := smallR_range r
  have hRO := smallR_ok r
  obtain ⟨R, hR⟩ : ∃ R, R = smallR r := ⟨_, rfl⟩
  rw [← hR] at hRR hRO
  have hM1 := fun w => mod_at r.c1 6 (by decide) (by decide) w
  have hM2 := fun w => mod_at r.r1 8 (by decide) (by decide) w
  have hM3 := fun w => mod_at r.c2 6 (by decide) (by decide) w
  have hM4 := fun w => mod_at r.r2 8 (by decide) (by decide) w
  have h1 := modI_range r.c1 (n := 6) (by decide)
  have h2 := modI_range r.r1 (n := 8) (by decide)
  have h3 := modI_range r.c2 (n := 6) (by decide)
  have h4 := modI_range r.r2 (n := 8) (by decide)
  unfold smallR at hR
  generalize modI r.c1 6 = m1 at hM1 h1 hR
  generalize modI r.r1 8 = m2 at hM2 h2 hR
  generalize modI r.c2 6 = m3 at hM3 h3 hR
  generalize modI r.r2 8 = m4 at hM4 h4 hR
  repeat' (first | ((with_reducible apply wl_call (f := 14)); exact rfl; exact rfl; (intro w' hm; exact hS w' _ hm); rintro _ _ ⟨x, rfl, rfl, hx⟩; refine wl_subH _ (MSub.appS _ _) ?_) | refine sT ?_ | refine sS ?_ | refine sM fun _ => ?_ | (refine sC ?_ ?_ <;> intro hb <;> try omega) | fail)
  rename_i g3 g5
  refine w_drawL (id := 4) 17 (.box g3 24 (encR ⟨1 + m1, 1 + m2, 1 + m3, 1 + m4⟩) :: .box g5 28 [x.pa, x.pb] :: x.H) (by kernel_rfl) (by kernel_rfl) rfl ?_
  repeat' (first | ((with_reducible apply wg_lcallp (f' := 15) (f := 60)); exact rfl; decide +kernel; exact rfl; exact rfl; (intro w' hm; first | exact hM1 w' | exact hM2 w' | exact hM3 w' | exact hM4 w')) | ((with_reducible apply wg_lput_box); exact rfl; exact rfl; exact pK; (iterate 3 exact rfl); exact Nat.le_of_ble_eq_true rfl; exact mS) | refine sT ?_ | refine sS ?_ | refine sJ ?_ | refine sJG ?_ | refine sG ?_ | refine sM fun _ => ?_ | (refine sC ?_ ?_ <;> intro hb <;> try omega) | fail)
  have hbox : encR ⟨if 1 + m3 < 1 + m1 then 1 + m3 else 1 + m1, if 1 + m4 < 1 + m2 then 1 + m4 else 1 + m2, if 1 + m1 < 1 + m3 then 1 + m3 else 1 + m1, if 1 + m2 < 1 + m4 then 1 + m4 else 1 + m2⟩ = encR R := by
    rw [hR]
    congr 1
    simp only [Rct.mk.injEq]
    refine ⟨?_, ?_, ?_, ?_⟩ <;> split <;> omega
  repeat' (first | ((with_reducible apply wl_v); exact rfl; (with_reducible apply v_min); exact rfl; exact rfl) | refine sT ?_ | refine sS ?_ | refine sM fun _ => ?_ | (refine sC ?_ ?_ <;> intro hb <;> try omega) | fail)
  refine w_subH (.box g3 24 (encR R) :: .box g5 28 [x.pa, x.pb] :: x.H) (by rw [← hbox]; exact MSub.refl _) ?_
  clear hbox hM1 hM2 hM3 hM4 h1 h2 h3 h4 hR
  have hl' : G.length ≤ 900 := by omega
  have hg := hx.g
  have hU := fun (rr : Rct) (H : List Blk) (hs : MSub x.H H) => x.users G hx hs w hl' rr
  have hF := fun (H : List Blk) (hs : MSub x.H H) => x.formulas G hx hs w hl'
  have hE := fun (H : List Blk) (hs : MSub x.H H) => x.edges G hx hs w hl'
  have hUs := fun (c : Rf) (H : List Blk) (hs : MSub x.H H) => x.usesA G hx hs w c
  obtain ⟨K, hK⟩ : ∃ K, K = keysG G := ⟨_, rfl⟩
  have hKl : K.length = G.length := by rw [hK, keysG, List.length_map]
  rw [← hK] at hF
  refine w_drawC (id := 6) [3, 6] [] [.box g3 24 (encR R), .box g5 28 [x.pa, x.pb]] (by kernel_rfl) (by kernel_rfl) (by kernel_rfl) mS ?_
  repeat' (first | ((with_reducible apply wl_callin (f := 16)); exact rfl; exact rfl; exact hU R _ mS; rintro _ _ ⟨A7, c7, rfl, rfl⟩) | ((with_reducible apply wl_callin (f := 17)); exact rfl; exact rfl; exact hF _ mS; rintro _ _ ⟨A8, c8, rfl, rfl⟩) | refine sT ?_ | refine sS ?_ | refine sW ?_ | refine sM fun _ => ?_ | (refine sC ?_ ?_ <;> intro hb <;> try omega) | (refine sCW ?_ ?_ <;> intro hb <;> try omega) | fail)
  refine w_loopK [3, 5, 7, 8] rfl (fun i : Nat => [(9, .int .i64 (i : Int))]) (fun _ => .own A8 38 2 K.length c8 (K.flatMap encF) :: .own A7 38 2 (usersG G R).length c7 ((usersG G R).flatMap encF) :: .box g3 24 (encR R) :: .box g5 28 [x.pa, x.pb] :: x.H) (fun i => i ≤ K.length) (fun i => K.length - i) 0 (Nat.zero_le _) sB mS ?_
  intro i hi
  by_cases hlt : i < K.length
  · refine w_some (A := A8) .hd (by omega) fun gk hA => ?_
    subst hA
    have hc : K[i] ∈ keysG G := hK ▸ List.getElem_mem hlt
    have hread := refF hlt
    generalize K[i] = c at hc hread
    repeat' (first | refine sT ?_ | refine sS ?_ | refine sN ?_ | refine sM fun _ => ?_ | (refine sC ?_ ?_ <;> intro hb <;> try omega) | fail)
    all_goals first | (exfalso; omega) | skip
    refine w_loopK [3, 5, 7, 8, 9, 11] rfl (fun y : Int × Bool => [(12, .int .i64 y.1), (10, .bool y.2)]) (fun _ => .own (some gk) 38 2 K.length c8 (K.flatMap encF) :: .own A7 38 2 (usersG G R).length c7 ((usersG G R).flatMap encF) :: .box g3 24 (encR R) :: .box g5 28 [x.pa, x.pb] :: x.H) (fun y => R.r1 ≤ y.1 ∧ y.1 ≤ R.r2 + 1 ∧ (y.2 = true ↔ seenTo G R c y.1 R.c1)) (fun y => (R.r2 + 1 - y.1).toNat) (R.r1, false) ⟨by omega, by omega, by simpa using seenTo_start G R c⟩ sB mS ?_
    rintro ⟨row, s⟩ ⟨hr1, hr2, hrs⟩
    dsimp only at hr1 hr2 hrs ⊢
    by_cases hrow : row ≤ R.r2
    · repeat' (first | refine sT ?_ | refine sS ?_ | refine sN ?_ | refine sM fun _ => ?_ | (refine sC ?_ ?_ <;> intro hb <;> try omega) | fail)
      all_goals first | (exfalso; omega) | skip
      refine w_loopK [3, 5, 7, 8, 9, 11, 12] rfl (fun y : Int × Bool => [(13, .int .i64 y.1), (10, .bool y.2)]) (fun _ => .own (some gk) 38 2 K.length c8 (K.flatMap encF) :: .own A7 38 2 (usersG G R).length c7 ((usersG G R).flatMap encF) :: .box g3 24 (encR R) :: .box g5 28 [x.pa, x.pb] :: x.H) (fun y => R.c1 ≤ y.1 ∧ y.1 ≤ R.c2 + 1 ∧ (y.2 = true ↔ seenTo G R c row y.1)) (fun y => (R.c2 + 1 - y.1).toNat) (R.c1, s) ⟨by omega, by omega, hrs⟩ sB mS ?_
      rintro ⟨col, s⟩ ⟨hc1, hc2, hcs⟩
      dsimp only at hc1 hc2 hcs ⊢
      by_cases hcol : col ≤ R.c2
      · have hnx := seenTo_next (G := G) (c := c) (show R.r1 ≤ row ∧ row ≤ R.r2 from ⟨hr1, hrow⟩) (show R.c1 ≤ col ∧ col ≤ R.c2 from ⟨hc1, hcol⟩)
        repeat' (first | refine sT ?_ | refine sS ?_ | refine sN ?_ | refine sM fun _ => ?_ | (refine sC ?_ ?_ <;> intro hb <;> try omega) | fail)
        all_goals first | (exfalso; omega) | skip
        refine w_drawC (id := 17) [6, 7, 8, 13] [] [.own (some gk) 38 2 K.length c8 (K.flatMap encF), .box g5 28 [x.pa, x.pb]] (by kernel_rfl) (by kernel_rfl) (by kernel_rfl) mS ?_
        have h1 := hU (oneA col row)
        obtain ⟨d, hd⟩ : ∃ d, d = decide (c ∈ usersG G (oneA col row)) := ⟨_, rfl⟩
        have h2 := fun (lv : Value) (w' : World) (h : Reads w' lv (usersG G (oneA col row)).length ((usersG G (oneA col row)).flatMap encF)) => has_at (usersG G (oneA col row)) c lv w' h
        rw [← hd] at h2
        have hd' : d = true ↔ c ∈ usersG G (oneA col row) := by rw [hd, decide_eq_true_eq]
        generalize usersG G (oneA col row) = M at h1 h2 hd' hnx
        clear hd
        cases s
        repeat' (first | ((with_reducible apply wc_callp); (iterate 4 exact rfl); (intro w hm; exact refL_at _ _ w)) | ((with_reducible apply wc_callp); (iterate 4 exact rfl); (intro w hm; exact One_at _ w)) | ((with_reducible apply wl_callin (f := 16)); exact rfl; exact rfl; exact h1 _ mS; rintro _ _ ⟨A9, c9, rfl, rfl⟩) | ((with_reducible apply wc_v); (iterate 3 exact rfl); (with_reducible apply v_indexAddr (j := i)); exact rfl; exact rfl; exact hlt) | ((with_reducible apply wc_v); (iterate 3 exact rfl); (with_reducible apply v_loads_own); exact rfl; exact pK; exact hread; exact rfl) | ((with_reducible apply wl_callp (f := 18)); exact rfl; exact rfl; (intro w' hm; exact h2 _ w' (Reads.of_own hm pK))) | refine sT ?_ | refine sS ?_ | refine sW ?_ | refine sJ ?_ | refine sWJ ?_ | refine sM fun _ => ?_ | (refine sC ?_ ?_ <;> intro hb <;> try omega) | (refine sCW ?_ ?_ <;> intro hb <;> try omega) | fail)
        · refine ⟨(col + 1, d), ⟨(by dsimp only; omega), (by dsimp only; omega), ?_⟩, (by dsimp only; omega), sB, sB, mS⟩
          dsimp only
          simp only [Bool.false_eq_true, false_iff] at hcs
          rw [hnx, hd']
          simp [hcs]
        · refine ⟨(col + 1, true), ⟨(by dsimp only; omega), (by dsimp only; omega), ?_⟩, (by dsimp only; omega), sB, sB, mS⟩
          dsimp only
          simp only [true_iff] at hcs
          rw [hnx]
          simp [hcs]
      · repeat' (first | refine sT ?_ | refine sS ?_ | refine sN ?_ | refine sJ ?_ | refine sM fun _ => ?_ | (refine sC ?_ ?_ <;> intro hb <;> try omega) | fail)
        all_goals first
          | (exfalso; omega)
          | (refine ⟨(row + 1, s), ⟨(by dsimp only; omega), (by dsimp only; omega), ?_⟩, (by dsimp only; omega), sB, sB, mS⟩
             dsimp only
             rw [hcs, show col = R.c2 + 1 by omega, seenTo_row])
    · have hrow' : row = R.r2 + 1 := by omega
      subst hrow'
      rw [seenTo_end hg hRO hc] at hrs
      have hsd : s = decide (c ∈ usersG G R) := by
        rw [Bool.eq_iff_iff, hrs, decide_eq_true_eq]
      have hmt := mem_users hg.sort hRO hc
      repeat' (first | refine sT ?_ | refine sS ?_ | refine sN ?_ | refine sM fun _ => ?_ | (refine sC ?_ ?_ <;> intro hb <;> try omega) | fail)
      all_goals first | (exfalso; omega) | skip
      refine w_drawC (id := 18) [6] [] [.own (some gk) 38 2 K.length c8 (K.flatMap encF), .box g5 28 [x.pa, x.pb]] (by kernel_rfl) (by kernel_rfl) (by kernel_rfl) mS ?_
      have h1 := hUs c
      have hul := usesG_len hg c
      generalize usesG G c = us at h1 hmt hul
      repeat' (first | ((with_reducible apply wc_v); (iterate 3 exact rfl); (with_reducible apply v_indexAddr (j := i)); exact rfl; exact rfl; exact hlt) | ((with_reducible apply wc_v); (iterate 3 exact rfl); (with_reducible apply v_loads_own); exact rfl; exact pK; exact hread; exact rfl) | ((with_reducible apply wl_callin (f := 21)); exact rfl; exact rfl; exact h1 _ mS; rintro _ _ ⟨A14, c14, rfl, rfl⟩) | refine sT ?_ | refine sS ?_ | refine sW ?_ | refine sM fun _ => ?_ | (refine sC ?_ ?_ <;> intro hb <;> try omega) | (refine sCW ?_ ?_ <;> intro hb <;> try omega) | fail)
      refine w_loopK [3, 5, 7, 8, 9, 10, 14] rfl (fun y : Nat × Bool => [(15, .int .i64 (y.1 : Int)), (11, .bool y.2)]) (fun _ => .own A14 45 6 us.length c14 (us.flatMap encU) :: .own (some gk) 38 2 K.length c8 (K.flatMap encF) :: .own A7 38 2 (usersG G R).length c7 ((usersG G R).flatMap encF) :: .box g3 24 (encR R) :: .box g5 28 [x.pa, x.pb] :: x.H) (fun y => y.1 ≤ us.length ∧ y.2 = meetsTo us R y.1) (fun y => us.length - y.1) (0, false) ⟨Nat.zero_le _, rfl⟩ sB mS ?_
      rintro ⟨k, m⟩ ⟨hk, hmk⟩
      dsimp only at hk hmk ⊢
      by_cases hku : k < us.length
      · refine w_some (A := A14) .hd (by omega) fun gu hA => ?_
        subst hA
        have hru := rectU hku
        have hsc := meetsTo_succ (r := R) hku
        have hto : touch R us[k] = (meetR us[k].rect R).2 := rfl
        rw [hto] at hsc
        generalize us[k] = u at hru hsc
        rw [← hmk] at hsc
        repeat' (first | refine sT ?_ | refine sS ?_ | refine sN ?_ | refine sM fun _ => ?_ | (refine sC ?_ ?_ <;> intro hb <;> try omega) | fail)
        all_goals first | (exfalso; omega) | skip
        have hME := fun w' => Meet_at u.rect R w'
        generalize meetR u.rect R = mr at hME hsc
        obtain ⟨mr1, mr2⟩ := mr
        dsimp only at hME hsc
        refine w_nilrow 0 0 ?_
        refine w_drawXg (id := 22) (fun | 10 => some fun g => .pointer (some ⟨g.2, 0, none⟩) | _ => none)
          (fun (D : Done) (q : Nat → Gh) => (bif D 10 then Blk.box (q 10).2 24 (bif D 11 then encR mr1 else [.int .i64 0, .int .i64 0, .int .i64 0, .int .i64 0]) else nilB) :: .own (some gu) 45 6 us.length c14 (us.flatMap encU) :: .own (some gk) 38 2 K.length c8 (K.flatMap encF) :: .own A7 38 2 (usersG G R).length c7 ((usersG G R).flatMap encF) :: .box g3 24 (encR R) :: .box g5 28 [x.pa, x.pb] :: x.H) ?_ ?_ ?_ ?_
        · kernel_rfl
        · kernel_rfl
        · intro γ
          exact mS
        intro γ
        repeat' (first | ((with_reducible apply wx_v (d := 128)); (iterate 3 exact rfl); (intro D ht; (with_reducible apply v_indexAddr (j := k)); exact rfl; exact rfl; exact hku); exact fun _ => rfl) | ((with_reducible apply wx_v (d := 130)); (iterate 3 exact rfl); (intro D ht; (with_reducible apply v_loads_own (ys := encR u.rect)); exact rfl; exact pK; exact hru; exact rfl); exact fun _ => rfl) | ((with_reducible apply wx_callp (f := 22)); (iterate 3 exact rfl); (decide +kernel); exact rfl; (intro D ht w hm; exact hME w); exact fun _ => rfl) | refine sT ?_ | refine sS ?_ | refine sX ?_ | refine sM fun _ => ?_ | (refine sC ?_ ?_ <;> intro hb <;> try omega) | (refine sCX ?_ ?_ <;> intro hb <;> try omega) | fail)
        refine wx_non rfl rfl rfl (fun D ht => ?_) ?_
        · have n10 : D 10 = false := ht.not
          have n11 : D 11 = false := ht.late (j := 11) (f := 60) (by decide +kernel)
          (simp only [gat, put, upd, Nat.reduceEqDiff, Nat.reduceAdd, reduceIte, n10, n11, cond_true, cond_false, List.nil_append, List.cons_append, Bool.and_true, Bool.and_false, Bool.true_and, Bool.false_and])
          (with_reducible apply wl_alloc); exact rfl; intro g
          refine wl_nil ⟨rfl, (none, g), rfl, ?_⟩
          (simp only [gat, put, upd, Nat.reduceEqDiff, Nat.reduceAdd, reduceIte, n10, n11, cond_true, cond_false, List.nil_append, List.cons_append, Bool.and_true, Bool.and_false, Bool.true_and, Bool.false_and])
          exact mS
        refine wx_put (T := 24) (vs := encR mr1) rfl rfl rfl rfl rfl rfl rfl (fun D ht => ?_) ?_
        · have n11 : D 11 = false := ht.not
          have n10 : D 10 = true := ht.early (i := 10) (f := 60) (by decide +kernel)
          (simp only [gat, put, upd, Nat.reduceEqDiff, Nat.reduceAdd, reduceIte, n10, n11, cond_true, cond_false, List.nil_append, List.cons_append, Bool.and_true, Bool.and_false, Bool.true_and, Bool.false_and])
          refine ⟨_, _, .hd, ?_, ?_⟩
          · exact Nat.le_of_ble_eq_true rfl
          · exact mS
        repeat' (first | refine sT ?_ | refine sS ?_ | refine sX ?_ | refine sM fun _ => ?_ | (refine sC ?_ ?_ <;> intro hb <;> try omega) | (refine sCX ?_ ?_ <;> intro hb <;> try omega) | fail)
        intro D hD
        have n10 := hD 10 (by decide)
        have n11 := hD 11 (by decide)
        (simp only [gat, put, upd, Nat.reduceEqDiff, Nat.reduceAdd, reduceIte, n10, n11, cond_true, cond_false, List.nil_append, List.cons_append, Bool.and_true, Bool.and_false, Bool.true_and, Bool.false_and])
        cases m
        · repeat' (first | refine sT ?_ | refine sS ?_ | refine sN ?_ | refine sM fun _ => ?_ | (refine sC ?_ ?_ <;> intro hb <;> try omega) | fail)
          all_goals first
            | (exfalso; omega)
            | (refine ⟨(k + 1, mr2), ⟨hku, ?_⟩, (by dsimp only; omega), sB, sB, mS⟩
               dsimp only
               rw [hsc, Bool.false_or])
        · repeat' (first | refine sT ?_ | refine sS ?_ | refine sN ?_ | refine sM fun _ => ?_ | (refine sC ?_ ?_ <;> intro hb <;> try omega) | fail)
          all_goals first
            | (exfalso; omega)
            | (refine ⟨(k + 1, true), ⟨hku, ?_⟩, (by dsimp only; omega), sB, sB, mS⟩
               dsimp only
               rw [hsc, Bool.true_or])
      · have hke : k = us.length := by omega
        subst hke
        rw [meetsTo_end] at hmk
        have hmd : m = decide (c ∈ usersG G R) := by
          rw [Bool.eq_iff_iff, hmk, decide_eq_true_eq, hmt]
        have h2 := fun (lv : Value) (w' : World) (h : Reads w' lv (usersG G R).length ((usersG G R).flatMap encF)) => has_at (usersG G R) c lv w' h
        generalize decide (c ∈ usersG G R) = d at hsd hmd h2
        subst hsd hmd
        clear hmk
        repeat' (first | ((with_reducible apply wl_v); exact rfl; (with_reducible apply v_indexAddr (j := i)); exact rfl; exact rfl; exact hlt) | ((with_reducible apply wl_v); exact rfl; (with_reducible apply v_loads_own); exact rfl; exact pK; exact hread; exact rfl) | ((with_reducible apply wl_callp (f := 18)); exact rfl; exact rfl; (intro w' hm; exact h2 _ w' (Reads.of_own hm pK))) | ((with_reducible apply wl_v); exact rfl; (with_reducible apply v_neqb_alike); exact rfl; exact rfl) | refine sT ?_ | refine sS ?_ | refine sN ?_ | refine sM fun _ => ?_ | (refine sC ?_ ?_ <;> intro hb <;> try omega) | fail)
        all_goals first
          | (exfalso; omega)
          | (refine ⟨i + 1, hlt, (by omega), sB, sB, mS⟩)
  · repeat' (first | ((with_reducible apply wl_callin (f := 23)); exact rfl; exact rfl; exact hE _ mS; rintro _ _ ⟨A18, c18, rfl, rfl⟩) | refine sT ?_ | refine sS ?_ | refine sN ?_ | refine sM fun _ => ?_ | (refine sC ?_ ?_ <;> intro hb <;> try omega) | fail)
    refine w_loopK [5, 7, 8, 18] rfl (fun y : Nat × Nat => [(20, .int .i64 (y.1 : Int)), (19, .int .i64 (y.2 : Int))]) (fun _ => .own A18 70 4 (edgesG G).length c18 ((edgesG G).flatMap encFF) :: .own A8 38 2 K.length c8 (K.flatMap encF) :: .own A7 38 2 (usersG G R).length c7 ((usersG G R).flatMap encF) :: .box g5 28 [x.pa, x.pb] :: x.H) (fun y => y.1 ≤ K.length ∧ y.2 = usedN G y.1) (fun y => K.length - y.1) (0, 0) ⟨Nat.zero_le _, rfl⟩ sB mS ?_
    clear hb hlt hi i
    rintro ⟨i, n⟩ ⟨hi, hn⟩
    dsimp only at hi hn ⊢
    by_cases hlt : i < K.length
    · refine w_some (A := A8) pK (by omega) fun gk hA => ?_
      subst hA
      have hc : K[i] ∈ keysG G := hK ▸ List.getElem_mem hlt
      have hread := refF hlt
      have hns : usedN G (i + 1) = usedN G i + (usersG G (oneA K[i].col K[i].row)).length := by
        subst hK
        exact usedN_succ hlt
      have hnl := usedN_le G i
      have hnl2 : i * G.length ≤ 40 * 40 := Nat.mul_le_mul (by omega) (by omega)
      generalize K[i] = c at hc hread hns
      have hmu := fun (a : Rf) (h : a ∈ usersG G (oneA c.col c.row)) => users_edges hg hc h
      have hml := users_len (G := G) (r := oneA c.col c.row)
      have h1 := hU (oneA c.col c.row)
      generalize usersG G (oneA c.col c.row) = M at h1 hns hmu hml
      rw [← hn] at hns hnl
      repeat' (first | refine sT ?_ | refine sS ?_ | refine sN ?_ | refine sM fun _ => ?_ | (refine sC ?_ ?_ <;> intro hb <;> try omega) | fail)
      all_goals first | (exfalso; omega) | skip
      refine w_drawC (id := 31) [6, 7] [] [.own (some gk) 38 2 K.length c8 (K.flatMap encF), .box g5 28 [x.pa, x.pb]] (by kernel_rfl) (by kernel_rfl) (by kernel_rfl) mS ?_
      repeat' (first | ((with_reducible apply wc_v); (iterate 3 exact rfl); (with_reducible apply v_indexAddr (j := i)); exact rfl; exact rfl; exact hlt) | ((with_reducible apply wc_v); (iterate 3 exact rfl); (with_reducible apply v_loads_own); exact rfl; exact pK; exact hread; exact rfl) | ((with_reducible apply wc_callp); (iterate 4 exact rfl); (intro w hm; exact One_at _ w)) | ((with_reducible apply wl_callin (f := 16)); exact rfl; exact rfl; exact h1 _ mS; rintro _ _ ⟨A21, c21, rfl, rfl⟩) | refine sT ?_ | refine sS ?_ | refine sW ?_ | refine sN ?_ | refine sWN ?_ | refine sM fun _ => ?_ | (refine sC ?_ ?_ <;> intro hb <;> try omega) | (refine sCW ?_ ?_ <;> intro hb <;> try omega) | fail)
      refine w_loopK [5, 7, 8, 18, 19, 20, 21] rfl (fun k : Nat => [(22, .int .i64 (k : Int))]) (fun _ => .own A21 38 2 M.length c21 (M.flatMap encF) :: .own A18 70 4 (edgesG G).length c18 ((edgesG G).flatMap encFF) :: .own (some gk) 38 2 K.length c8 (K.flatMap encF) :: .own A7 38 2 (usersG G R).length c7 ((usersG G R).flatMap encF) :: .box g5 28 [x.pa, x.pb] :: x.H) (fun k => k ≤ M.length) (fun k => M.length - k) 0 (Nat.zero_le _) sB mS ?_
      intro k hk
      by_cases hku : k < M.length
      · refine w_some (A := A21) .hd (by omega) fun gm hA => ?_
        subst hA
        have hm2 := hmu M[k] (List.getElem_mem hku)
        have hrm := refF hku
        generalize M[k] = a at hm2 hrm
        repeat' (first | refine sT ?_ | refine sS ?_ | refine sN ?_ | refine sM fun _ => ?_ | (refine sC ?_ ?_ <;> intro hb <;> try omega) | fail)
        all_goals first | (exfalso; omega) | skip
        refine w_drawC (id := 36) [9] [] [.own (some gm) 38 2 M.length c21 (M.flatMap encF), .own (some gk) 38 2 K.length c8 (K.flatMap encF)] (by kernel_rfl) (by kernel_rfl) (by kernel_rfl) mS ?_
        repeat' (first | ((with_reducible apply wc_v); (iterate 3 exact rfl); (with_reducible apply v_indexAddr (j := k)); exact rfl; exact rfl; exact hku) | ((with_reducible apply wc_v); (iterate 3 exact rfl); (with_reducible apply v_indexAddr (j := i)); exact rfl; exact rfl; exact hlt) | ((with_reducible apply wc_v (d := 183)); (iterate 3 exact rfl); (with_reducible apply v_loads_own); exact rfl; exact pK; exact hrm; exact rfl) | ((with_reducible apply wc_v (d := 187)); (iterate 3 exact rfl); (with_reducible apply v_loads_own); exact rfl; exact pK; exact hread; exact rfl) | ((with_reducible apply wl_callp (f := 24)); exact rfl; exact rfl; (intro w' hm; exact pair_to hm2 (Reads.of_own hm pK))) | refine sT ?_ | refine sS ?_ | refine sW ?_ | refine sN ?_ | refine sWN ?_ | refine sM fun _ => ?_ | (refine sC ?_ ?_ <;> intro hb <;> try omega) | (refine sCW ?_ ?_ <;> intro hb <;> try omega) | fail)
        all_goals first
          | (exfalso; omega)
          | (refine ⟨k + 1, hku, (by omega), sB, sB, mS⟩)
          | trace_state
      · repeat' (first | refine sT ?_ | refine sS ?_ | refine sN ?_ | refine sM fun _ => ?_ | (refine sC ?_ ?_ <;> intro hb <;> try omega) | fail)
        all_goals first
          | (exfalso; omega)
          | (refine ⟨(i + 1, n + M.length), ⟨hlt, hns.symm⟩, (by dsimp only; omega), sB, sB, mS⟩)
          | trace_state
    · have hie : i = K.length := by omega
      subst hie
      have hne : n = (edgesG G).length := by
        rw [hn, hK, usedN_end hg]
      subst hne
      have hin : ((usersG G R).all fun a => decide (a ∈ K)) = true := by
        rw [hK]
        exact inside_users G R
      repeat' (first | ((with_reducible apply wl_v); exact rfl; (with_reducible apply v_eql_same); exact rfl; exact rfl) | ((with_reducible apply wl_callp (f := 25)); exact rfl; exact rfl; (intro w' hm; exact inside_to hin (Reads.of_own hm pK) (Reads.of_own hm pK))) | ((with_reducible apply wl_callp (f := 26)); exact rfl; exact rfl; (intro w' hm; exact awake22_at w' (hW.next hm))) | refine sT ?_ | refine sS ?_ | refine sN ?_ | refine sM fun _ => ?_ | (refine sC ?_ ?_ <;> intro hb <;> try omega) | fail)
      all_goals first
        | (exfalso; omega)
        | ((refine rT1 ?_); rfl)
        | trace_state
end Go.SL

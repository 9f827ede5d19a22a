/-
  Lemmas and walks, packed: W33 W34 W35 W36 W37 W38 Fin3 Tr6 W39.
-/
import Derived.Test.YtfkklicpnoeclaaGi
import Derived.Test.YtfkklicpnoeclaaGe
import Derived.Test.YtfkklicpnoeclaaGd
import Derived.Test.YtfkklicpnoeclaaGb
set_option linter.unusedSimpArgs false
set_option linter.unusedVariables false
/-
  RefsTouch returns true.
-/
namespace Go.SL
open Go Go.Proofs
attribute [local irreducible] W WL WQ WG WA VOp thn blk cutP retP FnAt FnIn Held

theorem rectOk_iff (r : Rct) : rectOk r = true ↔ 1 ≤ r.c1 ∧ r.c1 ≤ 1024 ∧ 1 ≤ r.r1 ∧ r.r1 ≤ 1024 ∧ 1 ≤ r.c2 ∧ r.c2 ≤ 1024 ∧ 1 ≤ r.r2 ∧ r.r2 ≤ 1024 ∧ r.c1 ≤ r.c2 ∧ r.r1 ≤ r.r2 := by
  simp only [rectOk, valid, Bool.and_eq_true, decide_eq_true_eq]
  omega
theorem touch_iff (r : Rct) (u : Us) : touch r u = true ↔ rectOk u.rect = true ∧ rectOk r = true ∧ u.rect.c1 ≤ r.c2 ∧ r.c1 ≤ u.rect.c2 ∧ u.rect.r1 ≤ r.r2 ∧ r.r1 ≤ u.rect.r2 := by
  have h : touch r u = [u.rect, r, meetM u.rect r].all rectOk := by
    unfold touch meetR
    cases [u.rect, r, meetM u.rect r].all rectOk <;> simp
  rw [h]
  simp only [List.all_cons, List.all_nil, Bool.and_true, Bool.and_eq_true, rectOk_iff]
  generalize u.rect = a
  unfold meetM
  dsimp only
  repeat' split
  all_goals omega

theorem touch_split (r : Rct) (row : Int) (h1 : r.r1 ≤ row) (h2 : row < r.r2) (hr : rectOk r = true) (u : Us) : (touch ⟨r.c1, r.r1, r.c2, row⟩ u || touch ⟨r.c1, row + 1, r.c2, r.r2⟩ u) = touch r u := by
  rw [Bool.eq_iff_iff, Bool.or_eq_true, touch_iff, touch_iff, touch_iff]
  simp only [rectOk_iff] at hr ⊢
  omega
theorem any_or {α : Type} (f g : α → Bool) : ∀ L : List α, (L.any f || L.any g) = L.any fun x => f x || g x
  | [] => rfl
  | x :: r => by
    have := any_or f g r
    simp only [List.any_cons]
    rw [← this]
    cases f x <;> cases g x <;> cases r.any f <;> cases r.any g <;> rfl

set_option maxRecDepth 20000 in
set_option maxHeartbeats 4000000 in
theorem RefsTouch_at (L : List Nd) (r : Rct) (row : Int) (tv : Value) (w : World) (hl : Reads w tv L.length (L.flatMap encN)) : Pure Try.prog 14 [tv, .agg (encR r).toArray, .int .i64 row] w (.bool true) := by
  refine fn_at Try.func14 rfl Try.ntmps14 rfl ?_
  have hft : (fewT L).length ≤ 1000000 := by unfold fewT; simp; omega
  have hto := fun (r' : Rct) (tv' : Value) (w' : World) (h : Reads w' tv' (fewT L).length ((fewT L).flatMap encN)) => Touches_at (fewT L) r' tv' w' h hft
  have hus := fun (tv' : Value) (w' : World) (h : Reads w' tv' (fewT L).length ((fewT L).flatMap encN)) => Uses_at (fewT L) tv' w' h hft
  have hul := usesF_len (fewT L)
  have hfew := fun (w' : World) (H : List Blk) (hm : Mem w w' H) => Few_at L tv w' (hl.of_w0 hm)
  unfold usesE at hus
  unfold touchesE at hto
  generalize fewT L = T at *
  have hrc := fun w => rect_at r w
  by_cases hgood : checkE T = 0 ∧ rectOk r = true
  rotate_left
  · by_cases hce : checkE T = 0
    · have hre : rectE r = 3 := by
        unfold rectE
        cases hq : rectOk r
        · rfl
        · exact absurd ⟨hce, hq⟩ hgood
      have hto' := fun (tv' : Value) (w' : World) h => hto r tv' w' h
      rw [hre] at hrc
      simp only [hce, hre] at hto'
      simp only [if_neg (show ¬ ((0 : Int) ≠ 0) by decide), if_pos (show (3 : Int) ≠ 0 by decide)] at hto'
      simp only [hce, if_neg (show ¬ ((0 : Int) ≠ 0) by decide)] at hus
      repeat' (first
        | ((with_reducible apply wl_call (xs := [.tmp 19])); exact rfl; exact rfl; (intro w' h; exact hfew w' _ h); (rintro v H' ⟨A1, cap1, rfl, rfl⟩))
        | ((with_reducible apply wl_callp (f := 44)); exact rfl; exact rfl; (intro w' h; exact hto' _ w' (Reads.of_own (A := A1) h (by (repeat first | exact .hd | apply Sel.tl | apply In.tl)))))
        | ((with_reducible apply wl_call (f := 40)); exact rfl; exact rfl; (intro w' h; exact hus _ w' (Reads.of_own (A := A1) h (by (repeat first | exact .hd | apply Sel.tl | apply In.tl)))); (rintro v H' ⟨A2, cap2, rfl, rfl⟩))
        | ((with_reducible apply wl_callp); exact rfl; exact rfl; (intro w hm; exact hrc w))
        | ((with_reducible apply wl_callp (f := 47)); exact rfl; exact rfl; (intro w' h; exact awake12_at w'))
        | ((with_reducible apply wl_v); exact rfl; (first | ((with_reducible apply vop_ok); exact rfl) | ((with_reducible apply v_fieldAddr); exact rfl) | ((with_reducible apply v_len); exact rfl) | ((with_reducible apply v_lens); exact rfl) | ((with_reducible apply v_load_box); exact rfl; (repeat first | exact .hd | apply Sel.tl | apply In.tl); exact rfl) | ((with_reducible apply v_eqlb); exact rfl; exact rfl) | ((with_reducible apply v_neqb); exact rfl; exact rfl) | ((with_reducible apply v_loadw_box); exact rfl; (repeat first | exact .hd | apply Sel.tl | apply In.tl); exact rfl) | ((with_reducible apply v_loadn_box); exact rfl; (repeat first | exact .hd | apply Sel.tl | apply In.tl); exact rfl; exact rfl) | ((with_reducible apply v_build); exact rfl; exact rfl; exact rfl)))
        | ((with_reducible apply wl_gyes); exact rfl; exact rfl)
        | ((with_reducible apply wl_gno_b); exact rfl; exact rfl; exact rfl; exact rfl)
        | ((with_reducible apply wl_gno_u); exact rfl; exact rfl; exact rfl)
        | ((with_reducible apply wl_boxs); exact rfl; exact rfl; intro _)
        | ((with_reducible apply wl_box1); exact rfl; exact rfl; exact rfl; intro _)
        | ((with_reducible apply wl_alloc); exact rfl; intro _)
        | ((with_reducible apply wl_storen_box); exact rfl; exact rfl; (repeat first | exact .hd | apply Sel.tl | apply In.tl); exact rfl; exact rfl; exact rfl)
        | ((with_reducible apply wl_putn_box); exact rfl; exact rfl; (repeat first | exact .hd | apply Sel.tl | apply In.tl); exact rfl; exact rfl; exact rfl; exact rfl)
        | ((with_reducible apply wl_gsplit) <;> first | exact rfl | (intro hb; (replace hb := Tidy.out hb; try (exfalso; omega))))
        | (with_reducible first | apply wl_nil | apply thn_n | apply w_seq | apply w_region | apply w_ret | apply w_skip | apply w_exit | apply w_block | apply thn_r | apply thn_e | apply blk_n | apply blk_r | apply blk_e)
        | ((with_reducible apply w_cond_true); exact rfl)
        | ((with_reducible apply w_cond_false); exact rfl)
        | ((with_reducible apply w_cond) <;> first | exact rfl | (intro hb; (replace hb := Tidy.out hb; try (exfalso; omega))))
        | ((with_reducible apply blk_x); exact rfl))
      ((with_reducible apply ret1); exact .inl rfl; exact rfl; exact rfl; exact MSub.nil _)
      rfl
    · have hto' := fun (tv' : Value) (w' : World) h => hto r tv' w' h
      simp only [if_pos hce] at hto' hus
      generalize checkE T = ce at *
      repeat' (first
        | ((with_reducible apply wl_call (xs := [.tmp 19])); exact rfl; exact rfl; (intro w' h; exact hfew w' _ h); (rintro v H' ⟨A1, cap1, rfl, rfl⟩))
        | ((with_reducible apply wl_callp (f := 44)); exact rfl; exact rfl; (intro w' h; exact hto' _ w' (Reads.of_own (A := A1) h (by (repeat first | exact .hd | apply Sel.tl | apply In.tl)))))
        | ((with_reducible apply wl_call (f := 40)); exact rfl; exact rfl; (intro w' h; exact hus _ w' (Reads.of_own (A := A1) h (by (repeat first | exact .hd | apply Sel.tl | apply In.tl)))); (rintro v H' ⟨A2, cap2, rfl, rfl⟩))
        | ((with_reducible apply wl_callp); exact rfl; exact rfl; (intro w hm; exact hrc w))
        | ((with_reducible apply wl_callp (f := 47)); exact rfl; exact rfl; (intro w' h; exact awake12_at w'))
        | ((with_reducible apply wl_v); exact rfl; (first | ((with_reducible apply vop_ok); exact rfl) | ((with_reducible apply v_fieldAddr); exact rfl) | ((with_reducible apply v_len); exact rfl) | ((with_reducible apply v_lens); exact rfl) | ((with_reducible apply v_load_box); exact rfl; (repeat first | exact .hd | apply Sel.tl | apply In.tl); exact rfl) | ((with_reducible apply v_eqlb); exact rfl; exact rfl) | ((with_reducible apply v_neqb); exact rfl; exact rfl) | ((with_reducible apply v_loadw_box); exact rfl; (repeat first | exact .hd | apply Sel.tl | apply In.tl); exact rfl) | ((with_reducible apply v_loadn_box); exact rfl; (repeat first | exact .hd | apply Sel.tl | apply In.tl); exact rfl; exact rfl) | ((with_reducible apply v_build); exact rfl; exact rfl; exact rfl)))
        | ((with_reducible apply wl_gyes); exact rfl; exact rfl)
        | ((with_reducible apply wl_gno_b); exact rfl; exact rfl; exact rfl; exact rfl)
        | ((with_reducible apply wl_gno_u); exact rfl; exact rfl; exact rfl)
        | ((with_reducible apply wl_boxs); exact rfl; exact rfl; intro _)
        | ((with_reducible apply wl_box1); exact rfl; exact rfl; exact rfl; intro _)
        | ((with_reducible apply wl_alloc); exact rfl; intro _)
        | ((with_reducible apply wl_storen_box); exact rfl; exact rfl; (repeat first | exact .hd | apply Sel.tl | apply In.tl); exact rfl; exact rfl; exact rfl)
        | ((with_reducible apply wl_putn_box); exact rfl; exact rfl; (repeat first | exact .hd | apply Sel.tl | apply In.tl); exact rfl; exact rfl; exact rfl; exact rfl)
        | ((with_reducible apply wl_gsplit) <;> first | exact rfl | (intro hb; (replace hb := Tidy.out hb; try (exfalso; omega))))
        | (with_reducible first | apply wl_nil | apply thn_n | apply w_seq | apply w_region | apply w_ret | apply w_skip | apply w_exit | apply w_block | apply thn_r | apply thn_e | apply blk_n | apply blk_r | apply blk_e)
        | ((with_reducible apply w_cond_true); exact rfl)
        | ((with_reducible apply w_cond_false); exact rfl)
        | ((with_reducible apply w_cond) <;> first | exact rfl | (intro hb; (replace hb := Tidy.out hb; try (exfalso; omega))))
        | ((with_reducible apply blk_x); exact rfl))
      all_goals
        ((with_reducible apply ret1); exact .inl rfl; exact rfl; exact rfl; exact MSub.nil _)
        rfl
  obtain ⟨hce, hrk⟩ := hgood
  have hre : rectE r = 0 := by unfold rectE; rw [hrk]; rfl
  have hk := (rectOk_iff r).1 hrk
  have hto' := fun (tv' : Value) (w' : World) h => hto r tv' w' h
  rw [hre] at hrc
  simp only [hce, hre] at hto'
  simp only [if_neg (show ¬ ((0 : Int) ≠ 0) by decide)] at hto'
  simp only [hce, if_neg (show ¬ ((0 : Int) ≠ 0) by decide)] at hus
  generalize hU : usesF T = U at *
  repeat' (first
    | ((with_reducible apply wl_call (xs := [.tmp 19])); exact rfl; exact rfl; (intro w' h; exact hfew w' _ h); (rintro v H' ⟨A1, cap1, rfl, rfl⟩))
    | ((with_reducible apply wl_callp (f := 44)); exact rfl; exact rfl; (intro w' h; exact hto' _ w' (Reads.of_own (A := A1) h (by (repeat first | exact .hd | apply Sel.tl | apply In.tl)))))
    | ((with_reducible apply wl_call (f := 40)); exact rfl; exact rfl; (intro w' h; exact hus _ w' (Reads.of_own (A := A1) h (by (repeat first | exact .hd | apply Sel.tl | apply In.tl)))); (rintro v H' ⟨A2, cap2, rfl, rfl⟩))
    | ((with_reducible apply wl_callp); exact rfl; exact rfl; (intro w hm; exact hrc w))
    | ((with_reducible apply wl_callp (f := 47)); exact rfl; exact rfl; (intro w' h; exact awake12_at w'))
    | ((with_reducible apply wl_v); exact rfl; (first | ((with_reducible apply vop_ok); exact rfl) | ((with_reducible apply v_fieldAddr); exact rfl) | ((with_reducible apply v_len); exact rfl) | ((with_reducible apply v_lens); exact rfl) | ((with_reducible apply v_load_box); exact rfl; (repeat first | exact .hd | apply Sel.tl | apply In.tl); exact rfl) | ((with_reducible apply v_eqlb); exact rfl; exact rfl) | ((with_reducible apply v_neqb); exact rfl; exact rfl) | ((with_reducible apply v_loadw_box); exact rfl; (repeat first | exact .hd | apply Sel.tl | apply In.tl); exact rfl) | ((with_reducible apply v_loadn_box); exact rfl; (repeat first | exact .hd | apply Sel.tl | apply In.tl); exact rfl; exact rfl) | ((with_reducible apply v_build); exact rfl; exact rfl; exact rfl)))
    | ((with_reducible apply wl_gyes); exact rfl; exact rfl)
    | ((with_reducible apply wl_gno_b); exact rfl; exact rfl; exact rfl; exact rfl)
    | ((with_reducible apply wl_gno_u); exact rfl; exact rfl; exact rfl)
    | ((with_reducible apply wl_boxs); exact rfl; exact rfl; intro _)
    | ((with_reducible apply wl_box1); exact rfl; exact rfl; exact rfl; intro _)
    | ((with_reducible apply wl_alloc); exact rfl; intro _)
    | ((with_reducible apply wl_storen_box); exact rfl; exact rfl; (repeat first | exact .hd | apply Sel.tl | apply In.tl); exact rfl; exact rfl; exact rfl)
    | ((with_reducible apply wl_putn_box); exact rfl; exact rfl; (repeat first | exact .hd | apply Sel.tl | apply In.tl); exact rfl; exact rfl; exact rfl; exact rfl)
    | ((with_reducible apply wl_gsplit) <;> first | exact rfl | (intro hb; (replace hb := Tidy.out hb; try (exfalso; omega))))
    | (with_reducible first | apply wl_nil | apply thn_n | apply w_seq | apply w_region | apply w_ret | apply w_skip | apply w_exit | apply w_block | apply thn_r | apply thn_e | apply blk_n | apply blk_r | apply blk_e)
    | ((with_reducible apply w_cond_true); exact rfl)
    | ((with_reducible apply w_cond_false); exact rfl)
    | ((with_reducible apply w_cond) <;> first | exact rfl | (intro hb; (replace hb := Tidy.out hb; try (exfalso; omega))))
    | ((with_reducible apply blk_x); exact rfl))
  rename_i g4
  refine w_loop (fun i : Nat => [(0, sl A1 T.length cap1), (2, .int .i64 row), (4, .pointer (some ⟨g4, 0, none⟩)), (7, .bool (U.any (touch r))), (8, .int .i64 0), (9, sl A2 U.length cap2), (11, .bool ((U.take i).any (touch r))), (12, .int .i64 (i : Int))])
    (fun _ => [.own A2 68 6 U.length cap2 (U.flatMap encU), .own A1 40 11 T.length cap1 (T.flatMap encN), .box g4 38 (encR r)]) (fun i => i ≤ U.length) (fun i => U.length - i) 0 (by omega) ?_ ?_ ?_
  · (repeat (first | exact Sub.nil _ | refine Sub.cons rfl ?_))
  · (repeat (first | exact MSub.nil _ | refine MSub.pick (by (repeat first | exact .hd | apply Sel.tl | apply In.tl)) ?_ | exact MSub.refl _ | refine MSub.drop .hd ?_))
  intro i hi
  by_cases hlt : i < U.length
  · refine w_some (A := A2) .hd (by omega) fun g2 hA2 => ?_
    subst hA2
    have hany : (U.take (i + 1)).any (touch r) = ((U.take i).any (touch r) || touch r U[i]) := by
      rw [List.take_succ_eq_append_getElem hlt, List.any_append]; simp
    have hrect : ((U.flatMap encU).drop (0 + i * 6 + 0)).take 4 = encR U[i].rect := by
      have he := congrArg (List.take 4) (flat_elem encU_len U i hlt)
      rw [List.take_take] at he
      rw [Nat.zero_add]
      exact he
    generalize U[i] = u at hany hrect
    have hme := fun w => Meet_at u.rect r w
    have hme2 : touch r u = (meetR u.rect r).2 := rfl
    generalize meetR u.rect r = mt at hme hme2
    obtain ⟨mr, mb⟩ := mt
    dsimp only at hme hme2
    rw [hme2] at hany
    repeat' (first
      | ((with_reducible apply wl_v); exact rfl; (first | ((with_reducible apply vop_ok); exact rfl) | ((with_reducible apply v_fieldAddr); exact rfl) | ((with_reducible apply v_len); exact rfl) | ((with_reducible apply v_lens); exact rfl) | ((with_reducible apply v_load_box); exact rfl; (repeat first | exact .hd | apply Sel.tl | apply In.tl); exact rfl) | ((with_reducible apply v_eqlb); exact rfl; exact rfl) | ((with_reducible apply v_neqb); exact rfl; exact rfl) | ((with_reducible apply v_loadw_box); exact rfl; (repeat first | exact .hd | apply Sel.tl | apply In.tl); exact rfl) | ((with_reducible apply v_loadn_box); exact rfl; (repeat first | exact .hd | apply Sel.tl | apply In.tl); exact rfl; exact rfl) | ((with_reducible apply v_build); exact rfl; exact rfl; exact rfl)))
      | ((with_reducible apply wl_gyes); exact rfl; exact rfl)
      | ((with_reducible apply wl_gno_b); exact rfl; exact rfl; exact rfl; exact rfl)
      | ((with_reducible apply wl_gno_u); exact rfl; exact rfl; exact rfl)
      | ((with_reducible apply wl_boxs); exact rfl; exact rfl; intro _)
      | ((with_reducible apply wl_box1); exact rfl; exact rfl; exact rfl; intro _)
      | ((with_reducible apply wl_alloc); exact rfl; intro _)
      | ((with_reducible apply wl_storen_box); exact rfl; exact rfl; (repeat first | exact .hd | apply Sel.tl | apply In.tl); exact rfl; exact rfl; exact rfl)
      | ((with_reducible apply wl_putn_box); exact rfl; exact rfl; (repeat first | exact .hd | apply Sel.tl | apply In.tl); exact rfl; exact rfl; exact rfl; exact rfl)
      | ((with_reducible apply wl_gsplit) <;> first | exact rfl | (intro hb; (replace hb := Tidy.out hb; try (exfalso; omega))))
      | (with_reducible first | apply wl_nil | apply thn_n | apply w_seq | apply w_region | apply w_ret | apply w_skip | apply w_exit | apply w_block | apply thn_r | apply thn_e | apply blk_n | apply blk_r | apply blk_e)
      | ((with_reducible apply w_cond_true); exact rfl)
      | ((with_reducible apply w_cond_false); exact rfl)
      | ((with_reducible apply w_cond) <;> first | exact rfl | (intro hb; (replace hb := Tidy.out hb; try (exfalso; omega))))
      | ((with_reducible apply blk_x); exact rfl))
    refine w_nilrow 0 0 ?_
    refine w_drawXg (id := 10) (fun | 10 => some fun g => .pointer (some ⟨g.2, 0, none⟩) | _ => none)
      (fun (D : Done) (q : Nat → Gh) => (bif D 10 then Blk.box (q 10).2 38 (bif D 11 then encR mr else [.int .i64 0, .int .i64 0, .int .i64 0, .int .i64 0]) else nilB) :: .own (some g2) 68 6 U.length cap2 (U.flatMap encU) :: .own A1 40 11 T.length cap1 (T.flatMap encN) :: .box g4 38 (encR r) :: []) ?_ ?_ ?_ ?_
    · kernel_rfl
    · kernel_rfl
    · intro γ
      (repeat (first | exact MSub.nil _ | refine MSub.pick (by (repeat first | exact .hd | apply Sel.tl | apply In.tl)) ?_ | exact MSub.refl _ | refine MSub.drop .hd ?_))
    intro γ
    repeat' (first
      | ((with_reducible apply wx_v); exact rfl; exact rfl; exact rfl; (intro D ht; (with_reducible apply v_indexAddr); exact rfl; exact rfl; exact hlt); exact fun _ => rfl)
      | ((with_reducible apply wx_v (d := 59)); exact rfl; exact rfl; exact rfl; (intro D ht; (with_reducible apply v_loads_own (ys := encR u.rect)); exact rfl; (repeat first | exact .hd | apply Sel.tl | apply In.tl); exact hrect; exact rfl); exact fun _ => rfl)
      | ((with_reducible apply wx_callp (f := 51)); exact rfl; exact rfl; exact rfl; (decide +kernel); exact rfl; (intro D ht w hm; exact hme w); exact fun _ => rfl)
      | ((with_reducible apply wl_v); exact rfl; (first | ((with_reducible apply vop_ok); exact rfl) | ((with_reducible apply v_fieldAddr); exact rfl) | ((with_reducible apply v_len); exact rfl) | ((with_reducible apply v_lens); exact rfl) | ((with_reducible apply v_load_box); exact rfl; (repeat first | exact .hd | apply Sel.tl | apply In.tl); exact rfl) | ((with_reducible apply v_eqlb); exact rfl; exact rfl) | ((with_reducible apply v_neqb); exact rfl; exact rfl) | ((with_reducible apply v_loadw_box); exact rfl; (repeat first | exact .hd | apply Sel.tl | apply In.tl); exact rfl) | ((with_reducible apply v_loadn_box); exact rfl; (repeat first | exact .hd | apply Sel.tl | apply In.tl); exact rfl; exact rfl) | ((with_reducible apply v_build); exact rfl; exact rfl; exact rfl)))
      | ((with_reducible apply wl_gyes); exact rfl; exact rfl)
      | ((with_reducible apply wl_gno_b); exact rfl; exact rfl; exact rfl; exact rfl)
      | ((with_reducible apply wl_gno_u); exact rfl; exact rfl; exact rfl)
      | ((with_reducible apply wl_boxs); exact rfl; exact rfl; intro _)
      | ((with_reducible apply wl_box1); exact rfl; exact rfl; exact rfl; intro _)
      | ((with_reducible apply wl_alloc); exact rfl; intro _)
      | ((with_reducible apply wl_storen_box); exact rfl; exact rfl; (repeat first | exact .hd | apply Sel.tl | apply In.tl); exact rfl; exact rfl; exact rfl)
      | ((with_reducible apply wl_putn_box); exact rfl; exact rfl; (repeat first | exact .hd | apply Sel.tl | apply In.tl); exact rfl; exact rfl; exact rfl; exact rfl)
      | ((with_reducible apply wl_gsplit) <;> first | exact rfl | (intro hb; (replace hb := Tidy.out hb; try (exfalso; omega))))
      | (with_reducible first | apply wl_nil | apply thn_n | apply w_seq | apply w_region | apply w_ret | apply w_skip | apply w_exit | apply w_block | apply thn_r | apply thn_e | apply blk_n | apply blk_r | apply blk_e | apply wx_nil)
      | ((with_reducible apply w_cond_true); exact rfl)
      | ((with_reducible apply w_cond_false); exact rfl)
      | ((with_reducible apply w_cond) <;> first | exact rfl | (intro hb; (replace hb := Tidy.out hb; try (exfalso; omega))))
      | ((with_reducible apply blk_x); exact rfl)
      | ((with_reducible apply wx_v); exact rfl; exact rfl; exact rfl; (intro D ht; (first | ((with_reducible apply vop_ok); exact rfl) | ((with_reducible apply v_fieldAddr); exact rfl) | ((with_reducible apply v_len); exact rfl) | ((with_reducible apply v_lens); exact rfl) | ((with_reducible apply v_load_box); exact rfl; (repeat first | exact .hd | apply Sel.tl | apply In.tl); exact rfl) | ((with_reducible apply v_eqlb); exact rfl; exact rfl) | ((with_reducible apply v_neqb); exact rfl; exact rfl) | ((with_reducible apply v_loadw_box); exact rfl; (repeat first | exact .hd | apply Sel.tl | apply In.tl); exact rfl) | ((with_reducible apply v_loadn_box); exact rfl; (repeat first | exact .hd | apply Sel.tl | apply In.tl); exact rfl; exact rfl) | ((with_reducible apply v_build); exact rfl; exact rfl; exact rfl))); exact fun _ => rfl)
      | ((with_reducible apply wx_gno); exact rfl; exact rfl; exact rfl; exact fun _ => rfl)
      | ((with_reducible apply wx_gsplit) <;> first | exact rfl | (intro hb; (replace hb := Tidy.out hb; try (exfalso; omega)))))
    refine wx_non rfl rfl rfl (fun D ht => ?_) ?_
    · have n10 : D 10 = false := ht.not
      have n11 : D 11 = false := ht.late (j := 11) (f := 60) (by decide +kernel)
      (simp only [gat, put, upd, Nat.reduceEqDiff, Nat.reduceAdd, reduceIte, n10, n11, cond_true, cond_false, List.nil_append, List.cons_append, Bool.and_true, Bool.and_false, Bool.true_and, Bool.false_and])
      (with_reducible apply wl_alloc); exact rfl; intro g
      refine wl_nil ⟨rfl, (none, g), rfl, ?_⟩
      (simp only [gat, put, upd, Nat.reduceEqDiff, Nat.reduceAdd, reduceIte, n10, n11, cond_true, cond_false, List.nil_append, List.cons_append, Bool.and_true, Bool.and_false, Bool.true_and, Bool.false_and])
      (repeat (first | exact MSub.nil _ | refine MSub.pick (by (repeat first | exact .hd | apply Sel.tl | apply In.tl)) ?_ | exact MSub.refl _ | refine MSub.drop .hd ?_))
    refine wx_put (T := 38) (vs := encR mr) rfl rfl rfl rfl rfl rfl rfl (fun D ht => ?_) ?_
    · have n11 : D 11 = false := ht.not
      have n10 : D 10 = true := ht.early (i := 10) (f := 60) (by decide +kernel)
      (simp only [gat, put, upd, Nat.reduceEqDiff, Nat.reduceAdd, reduceIte, n10, n11, cond_true, cond_false, List.nil_append, List.cons_append, Bool.and_true, Bool.and_false, Bool.true_and, Bool.false_and])
      refine ⟨_, _, .hd, ?_, ?_⟩
      · exact Nat.le_of_ble_eq_true rfl
      · (repeat (first | exact MSub.nil _ | refine MSub.pick (by (repeat first | exact .hd | apply Sel.tl | apply In.tl)) ?_ | exact MSub.refl _ | refine MSub.drop .hd ?_))
    repeat' (first
      | ((with_reducible apply wl_v); exact rfl; (first | ((with_reducible apply vop_ok); exact rfl) | ((with_reducible apply v_fieldAddr); exact rfl) | ((with_reducible apply v_len); exact rfl) | ((with_reducible apply v_lens); exact rfl) | ((with_reducible apply v_load_box); exact rfl; (repeat first | exact .hd | apply Sel.tl | apply In.tl); exact rfl) | ((with_reducible apply v_eqlb); exact rfl; exact rfl) | ((with_reducible apply v_neqb); exact rfl; exact rfl) | ((with_reducible apply v_loadw_box); exact rfl; (repeat first | exact .hd | apply Sel.tl | apply In.tl); exact rfl) | ((with_reducible apply v_loadn_box); exact rfl; (repeat first | exact .hd | apply Sel.tl | apply In.tl); exact rfl; exact rfl) | ((with_reducible apply v_build); exact rfl; exact rfl; exact rfl)))
      | ((with_reducible apply wl_gyes); exact rfl; exact rfl)
      | ((with_reducible apply wl_gno_b); exact rfl; exact rfl; exact rfl; exact rfl)
      | ((with_reducible apply wl_gno_u); exact rfl; exact rfl; exact rfl)
      | ((with_reducible apply wl_boxs); exact rfl; exact rfl; intro _)
      | ((with_reducible apply wl_box1); exact rfl; exact rfl; exact rfl; intro _)
      | ((with_reducible apply wl_alloc); exact rfl; intro _)
      | ((with_reducible apply wl_storen_box); exact rfl; exact rfl; (repeat first | exact .hd | apply Sel.tl | apply In.tl); exact rfl; exact rfl; exact rfl)
      | ((with_reducible apply wl_putn_box); exact rfl; exact rfl; (repeat first | exact .hd | apply Sel.tl | apply In.tl); exact rfl; exact rfl; exact rfl; exact rfl)
      | ((with_reducible apply wl_gsplit) <;> first | exact rfl | (intro hb; (replace hb := Tidy.out hb; try (exfalso; omega))))
      | (with_reducible first | apply wl_nil | apply thn_n | apply w_seq | apply w_region | apply w_ret | apply w_skip | apply w_exit | apply w_block | apply thn_r | apply thn_e | apply blk_n | apply blk_r | apply blk_e | apply wx_nil)
      | ((with_reducible apply w_cond_true); exact rfl)
      | ((with_reducible apply w_cond_false); exact rfl)
      | ((with_reducible apply w_cond) <;> first | exact rfl | (intro hb; (replace hb := Tidy.out hb; try (exfalso; omega))))
      | ((with_reducible apply blk_x); exact rfl)
      | ((with_reducible apply wx_v); exact rfl; exact rfl; exact rfl; (intro D ht; (first | ((with_reducible apply vop_ok); exact rfl) | ((with_reducible apply v_fieldAddr); exact rfl) | ((with_reducible apply v_len); exact rfl) | ((with_reducible apply v_lens); exact rfl) | ((with_reducible apply v_load_box); exact rfl; (repeat first | exact .hd | apply Sel.tl | apply In.tl); exact rfl) | ((with_reducible apply v_eqlb); exact rfl; exact rfl) | ((with_reducible apply v_neqb); exact rfl; exact rfl) | ((with_reducible apply v_loadw_box); exact rfl; (repeat first | exact .hd | apply Sel.tl | apply In.tl); exact rfl) | ((with_reducible apply v_loadn_box); exact rfl; (repeat first | exact .hd | apply Sel.tl | apply In.tl); exact rfl; exact rfl) | ((with_reducible apply v_build); exact rfl; exact rfl; exact rfl))); exact fun _ => rfl)
      | ((with_reducible apply wx_gno); exact rfl; exact rfl; exact rfl; exact fun _ => rfl)
      | ((with_reducible apply wx_gsplit) <;> first | exact rfl | (intro hb; (replace hb := Tidy.out hb; try (exfalso; omega)))))
    intro D hD
    have n10 := hD 10 (by decide)
    have n11 := hD 11 (by decide)
    (simp only [gat, put, upd, Nat.reduceEqDiff, Nat.reduceAdd, reduceIte, n10, n11, cond_true, cond_false, List.nil_append, List.cons_append, Bool.and_true, Bool.and_false, Bool.true_and, Bool.false_and])
    repeat' (first
      | ((with_reducible apply wl_v); exact rfl; (first | ((with_reducible apply vop_ok); exact rfl) | ((with_reducible apply v_fieldAddr); exact rfl) | ((with_reducible apply v_len); exact rfl) | ((with_reducible apply v_lens); exact rfl) | ((with_reducible apply v_load_box); exact rfl; (repeat first | exact .hd | apply Sel.tl | apply In.tl); exact rfl) | ((with_reducible apply v_eqlb); exact rfl; exact rfl) | ((with_reducible apply v_neqb); exact rfl; exact rfl) | ((with_reducible apply v_loadw_box); exact rfl; (repeat first | exact .hd | apply Sel.tl | apply In.tl); exact rfl) | ((with_reducible apply v_loadn_box); exact rfl; (repeat first | exact .hd | apply Sel.tl | apply In.tl); exact rfl; exact rfl) | ((with_reducible apply v_build); exact rfl; exact rfl; exact rfl)))
      | ((with_reducible apply wl_gyes); exact rfl; exact rfl)
      | ((with_reducible apply wl_gno_b); exact rfl; exact rfl; exact rfl; exact rfl)
      | ((with_reducible apply wl_gno_u); exact rfl; exact rfl; exact rfl)
      | ((with_reducible apply wl_boxs); exact rfl; exact rfl; intro _)
      | ((with_reducible apply wl_box1); exact rfl; exact rfl; exact rfl; intro _)
      | ((with_reducible apply wl_alloc); exact rfl; intro _)
      | ((with_reducible apply wl_storen_box); exact rfl; exact rfl; (repeat first | exact .hd | apply Sel.tl | apply In.tl); exact rfl; exact rfl; exact rfl)
      | ((with_reducible apply wl_putn_box); exact rfl; exact rfl; (repeat first | exact .hd | apply Sel.tl | apply In.tl); exact rfl; exact rfl; exact rfl; exact rfl)
      | ((with_reducible apply wl_gsplit) <;> first | exact rfl | (intro hb; (replace hb := Tidy.out hb; try (exfalso; omega))))
      | (with_reducible first | apply wl_nil | apply thn_n | apply w_seq | apply w_region | apply w_ret | apply w_skip | apply w_exit | apply w_block | apply thn_r | apply thn_e | apply blk_n | apply blk_r | apply blk_e)
      | ((with_reducible apply w_cond_true); exact rfl)
      | ((with_reducible apply w_cond_false); exact rfl)
      | ((with_reducible apply w_cond) <;> first | exact rfl | (intro hb; (replace hb := Tidy.out hb; try (exfalso; omega))))
      | ((with_reducible apply blk_x); exact rfl)
      | ((with_reducible apply wl_v); exact rfl; (with_reducible apply v_succN); exact rfl; exact rfl; (simp only [maxLen] at *; omega))
      | ((with_reducible apply wl_v); exact rfl; (with_reducible apply v_1addN); exact rfl; exact rfl; (simp only [maxLen] at *; omega))
      | ((with_reducible apply wl_v); exact rfl; (with_reducible apply v_addN); exact rfl; exact rfl; (simp only [maxLen] at *; omega)))
    all_goals
      refine ⟨i + 1, hlt, by omega, ?_, ?_⟩
      · rw [hany, hb]
        (repeat (first | exact Sub.nil _ | refine Sub.cons rfl ?_))
      · (repeat (first | exact MSub.nil _ | refine MSub.pick (by (repeat first | exact .hd | apply Sel.tl | apply In.tl)) ?_ | exact MSub.refl _ | refine MSub.drop .hd ?_))
  · have e : i = U.length := by omega
    subst e
    rw [List.take_length]
    have hsp : (r.r1 ≤ row ∧ row < r.r2) → (U.any (touch ⟨r.c1, r.r1, r.c2, row⟩) || U.any (touch ⟨r.c1, row + 1, r.c2, r.r2⟩)) = U.any (touch r) := by
      rintro ⟨h1, h2⟩
      rw [any_or]
      congr 1
      funext u
      exact touch_split r row h1 h2 hrk u
    by_cases hrow : r.r1 ≤ row ∧ row < r.r2
    · have hsp := hsp hrow
      have q1 := fun (tv' : Value) (w' : World) h => hto ⟨r.c1, r.r1, r.c2, row⟩ tv' w' h
      have q2 := fun (tv' : Value) (w' : World) h => hto ⟨r.c1, row + 1, r.c2, r.r2⟩ tv' w' h
      have e1 : rectE ⟨r.c1, r.r1, r.c2, row⟩ = 0 := by
        unfold rectE
        rw [(rectOk_iff ⟨r.c1, r.r1, r.c2, row⟩).2 (by dsimp only; omega)]; rfl
      have e2 : rectE ⟨r.c1, row + 1, r.c2, r.r2⟩ = 0 := by
        unfold rectE
        rw [(rectOk_iff ⟨r.c1, row + 1, r.c2, r.r2⟩).2 (by dsimp only; omega)]; rfl
      simp only [hce, e1] at q1
      simp only [hce, e2] at q2
      simp only [if_neg (show ¬ ((0 : Int) ≠ 0) by decide)] at q1 q2
      generalize U.any (touch ⟨r.c1, r.r1, r.c2, row⟩) = b1 at q1 hsp
      generalize U.any (touch ⟨r.c1, row + 1, r.c2, r.r2⟩) = b2 at q2 hsp
      generalize U.any (touch r) = b3 at *
      repeat' (first
        | ((with_reducible apply wl_callp (d := 96)); exact rfl; exact rfl; (intro w' h; exact q1 _ w' (Reads.of_own (A := A1) h (by (repeat first | exact .hd | apply Sel.tl | apply In.tl)))))
        | ((with_reducible apply wl_callp (d := 110)); exact rfl; exact rfl; (intro w' h; exact q2 _ w' (Reads.of_own (A := A1) h (by (repeat first | exact .hd | apply Sel.tl | apply In.tl)))))
        | ((with_reducible apply wl_callp (f := 47)); exact rfl; exact rfl; (intro w' h; exact awake12_at w'))
        | ((with_reducible apply wl_v (d := 104)); exact rfl; (with_reducible apply v_add); exact rfl; exact rfl; (unfold I64; omega))
        | ((with_reducible apply wl_v); exact rfl; (first | ((with_reducible apply vop_ok); exact rfl) | ((with_reducible apply v_fieldAddr); exact rfl) | ((with_reducible apply v_len); exact rfl) | ((with_reducible apply v_lens); exact rfl) | ((with_reducible apply v_load_box); exact rfl; (repeat first | exact .hd | apply Sel.tl | apply In.tl); exact rfl) | ((with_reducible apply v_eqlb); exact rfl; exact rfl) | ((with_reducible apply v_neqb); exact rfl; exact rfl) | ((with_reducible apply v_loadw_box); exact rfl; (repeat first | exact .hd | apply Sel.tl | apply In.tl); exact rfl) | ((with_reducible apply v_loadn_box); exact rfl; (repeat first | exact .hd | apply Sel.tl | apply In.tl); exact rfl; exact rfl) | ((with_reducible apply v_build); exact rfl; exact rfl; exact rfl)))
        | ((with_reducible apply wl_gyes); exact rfl; exact rfl)
        | ((with_reducible apply wl_gno_b); exact rfl; exact rfl; exact rfl; exact rfl)
        | ((with_reducible apply wl_gno_u); exact rfl; exact rfl; exact rfl)
        | ((with_reducible apply wl_boxs); exact rfl; exact rfl; intro _)
        | ((with_reducible apply wl_box1); exact rfl; exact rfl; exact rfl; intro _)
        | ((with_reducible apply wl_alloc); exact rfl; intro _)
        | ((with_reducible apply wl_storen_box); exact rfl; exact rfl; (repeat first | exact .hd | apply Sel.tl | apply In.tl); exact rfl; exact rfl; exact rfl)
        | ((with_reducible apply wl_putn_box); exact rfl; exact rfl; (repeat first | exact .hd | apply Sel.tl | apply In.tl); exact rfl; exact rfl; exact rfl; exact rfl)
        | ((with_reducible apply wl_gsplit) <;> first | exact rfl | (intro hb; (replace hb := Tidy.out hb; try (exfalso; omega))))
        | (with_reducible first | apply wl_nil | apply thn_n | apply w_seq | apply w_region | apply w_ret | apply w_skip | apply w_exit | apply w_block | apply thn_r | apply thn_e | apply blk_n | apply blk_r | apply blk_e)
        | ((with_reducible apply w_cond_true); exact rfl)
        | ((with_reducible apply w_cond_false); exact rfl)
        | ((with_reducible apply w_cond) <;> first | exact rfl | (intro hb; (replace hb := Tidy.out hb; try (exfalso; omega))))
        | ((with_reducible apply blk_x); exact rfl))
      all_goals
        cases b1 <;> cases b2 <;> cases b3 <;> first | (exfalso; simp_all; done) | (((with_reducible apply ret1); exact .inl rfl; exact rfl; exact rfl; exact MSub.nil _); rfl)
    · generalize U.any (touch r) = b3 at *
      repeat' (first
        | ((with_reducible apply wl_callp (f := 47)); exact rfl; exact rfl; (intro w' h; exact awake12_at w'))
        | ((with_reducible apply wl_v); exact rfl; (first | ((with_reducible apply vop_ok); exact rfl) | ((with_reducible apply v_fieldAddr); exact rfl) | ((with_reducible apply v_len); exact rfl) | ((with_reducible apply v_lens); exact rfl) | ((with_reducible apply v_load_box); exact rfl; (repeat first | exact .hd | apply Sel.tl | apply In.tl); exact rfl) | ((with_reducible apply v_eqlb); exact rfl; exact rfl) | ((with_reducible apply v_neqb); exact rfl; exact rfl) | ((with_reducible apply v_loadw_box); exact rfl; (repeat first | exact .hd | apply Sel.tl | apply In.tl); exact rfl) | ((with_reducible apply v_loadn_box); exact rfl; (repeat first | exact .hd | apply Sel.tl | apply In.tl); exact rfl; exact rfl) | ((with_reducible apply v_build); exact rfl; exact rfl; exact rfl)))
        | ((with_reducible apply wl_gyes); exact rfl; exact rfl)
        | ((with_reducible apply wl_gno_b); exact rfl; exact rfl; exact rfl; exact rfl)
        | ((with_reducible apply wl_gno_u); exact rfl; exact rfl; exact rfl)
        | ((with_reducible apply wl_boxs); exact rfl; exact rfl; intro _)
        | ((with_reducible apply wl_box1); exact rfl; exact rfl; exact rfl; intro _)
        | ((with_reducible apply wl_alloc); exact rfl; intro _)
        | ((with_reducible apply wl_storen_box); exact rfl; exact rfl; (repeat first | exact .hd | apply Sel.tl | apply In.tl); exact rfl; exact rfl; exact rfl)
        | ((with_reducible apply wl_putn_box); exact rfl; exact rfl; (repeat first | exact .hd | apply Sel.tl | apply In.tl); exact rfl; exact rfl; exact rfl; exact rfl)
        | ((with_reducible apply wl_gsplit) <;> first | exact rfl | (intro hb; (replace hb := Tidy.out hb; try (exfalso; omega))))
        | (with_reducible first | apply wl_nil | apply thn_n | apply w_seq | apply w_region | apply w_ret | apply w_skip | apply w_exit | apply w_block | apply thn_r | apply thn_e | apply blk_n | apply blk_r | apply blk_e)
        | ((with_reducible apply w_cond_true); exact rfl)
        | ((with_reducible apply w_cond_false); exact rfl)
        | ((with_reducible apply w_cond) <;> first | exact rfl | (intro hb; (replace hb := Tidy.out hb; try (exfalso; omega))))
        | ((with_reducible apply blk_x); exact rfl))
      all_goals
        cases b3 <;> first | (exfalso; simp_all; done) | (exfalso; omega) | (((with_reducible apply ret1); exact .inl rfl; exact rfl; exact rfl; exact MSub.nil _); rfl)
end Go.SL

/-
  The reference's Move returns what Move returns.
-/
namespace Go.SL
open Go Go.Proofs
attribute [local irreducible] W WL WQ WG WA VOp thn blk cutP retP FnAt FnIn Held

theorem walkT_fields (L : List Nd) : ∀ (r : List Nd) (i : Nat) (st : List Pt) (vs : List Visit), (walkT L r i st vs).1 = 0 → ∀ n ∈ r, fieldsE n = 0
  | [], _, _, _ => fun _ _ h => by cases h
  | n :: r, i, st, vs => by
    intro h
    rw [walkT] at h
    have hn : fieldsE n = 0 := by
      by_cases hf : fieldsE n = 0
      · exact hf
      · unfold stepT at h
        rw [if_pos hf] at h
        exact h
    cases hs : stepT L n i st with
    | inl e =>
      rw [hs] at h
      dsimp only at h
      unfold stepT at hs
      rw [if_neg (by omega)] at hs
      split at hs
      · injection hs with hs; omega
      · split at hs
        · injection hs with hs; omega
        · cases hs
    | inr y =>
      obtain ⟨st', kids, d⟩ := y
      rw [hs] at h
      intro m hm
      rcases List.mem_cons.1 hm with rfl | hm
      · exact hn
      · exact walkT_fields L r _ _ _ h m hm

theorem check_fields {L : List Nd} (h : checkE L = 0) : ∀ n ∈ L, fieldsE n = 0 := by
  refine walkT_fields L L 0 [] [] ?_
  unfold checkE checkT at h
  split at h
  · cases h
  split at h
  · cases h
  split at h
  · rename_i h3
    exact absurd h h3
  · rename_i h3
    omega

theorem fields_rect {n : Nd} (h : fieldsE n = 0) (hr : rangesF n = true) : rectOk n.rect = true := by
  unfold fieldsE at h
  split at h
  · cases h
  rename_i hk
  have hk1 : kindOk n = true := by
    cases hh : kindOk n
    · exact absurd (Or.inl hh) hk
    · rfl
  simp only [rangesF, Bool.or_eq_true, decide_eq_true_eq] at hr
  unfold kindOk at hk1
  rw [if_neg (by omega), if_pos hr] at hk1
  simp only [Bool.and_eq_true, decide_eq_true_eq] at hk1
  have h1 := hk1.1
  unfold rectE at h1
  cases hq : rectOk n.rect
  · rw [hq] at h1; cases h1
  · rfl

def outF (c o : Int) : Bool := decide (c < -1024) || decide (1024 < c) || decide (o < -1024) || decide (1024 < o)
def stuckR (c o : Int) (n : Nd) : Bool := rangesF n && (outF c o || decide (rectE (mvR c o n.rect) ≠ 0))

theorem rectE_ne {r : Rct} : rectE r ≠ 0 ↔ rectOk r = false := by unfold rectE; cases rectOk r <;> simp
theorem rectOk_iff' (r : Rct) : rectOk r = true ↔ 1 ≤ r.c1 ∧ r.c1 ≤ 1024 ∧ 1 ≤ r.r1 ∧ r.r1 ≤ 1024 ∧ 1 ≤ r.c2 ∧ r.c2 ≤ 1024 ∧ 1 ≤ r.r2 ∧ r.r2 ≤ 1024 ∧ r.c1 ≤ r.c2 ∧ r.r1 ≤ r.r2 := by
  simp only [rectOk, valid, Bool.and_eq_true, decide_eq_true_eq]
  omega

theorem stuck_eq {c o : Int} {n : Nd} (h : fieldsE n = 0) : stuckR c o n = stuckN c o n := by
  unfold stuckR stuckN
  cases hr : rangesF n
  · rfl
  have hk := (rectOk_iff' n.rect).1 (fields_rect h hr)
  rw [Bool.true_and, Bool.true_and, Bool.eq_iff_iff]
  simp only [outF, farF, Bool.or_eq_true, decide_eq_true_eq, rectE_ne]
  by_cases hin : (c < -1024 ∨ 1024 < c) ∨ (o < -1024 ∨ 1024 < o)
  · constructor
    · intro _; left; omega
    · intro _; left; omega
  have hv : rectOk (mvR c o n.rect) = false ↔ ¬ (1 ≤ n.rect.c1 + c ∧ n.rect.c1 + c ≤ 1024 ∧ 1 ≤ n.rect.r1 + o ∧ n.rect.r1 + o ≤ 1024 ∧ 1 ≤ n.rect.c2 + c ∧ n.rect.c2 + c ≤ 1024 ∧ 1 ≤ n.rect.r2 + o ∧ n.rect.r2 + o ≤ 1024 ∧ n.rect.c1 + c ≤ n.rect.c2 + c ∧ n.rect.r1 + o ≤ n.rect.r2 + o) := by
    rw [← Bool.not_eq_true, rectOk_iff']
    unfold mvR
    dsimp only
    rw [I64.wrap (by unfold I64; omega), I64.wrap (by unfold I64; omega), I64.wrap (by unfold I64; omega), I64.wrap (by unfold I64; omega)]
  rw [hv]
  omega
theorem any_congr {α : Type} {f g : α → Bool} : ∀ {L : List α}, (∀ x ∈ L, f x = g x) → L.any f = L.any g
  | [], _ => rfl
  | x :: r, h => by rw [List.any_cons, List.any_cons, h x List.mem_cons_self, any_congr fun y hy => h y (List.mem_cons_of_mem _ hy)]

set_option maxRecDepth 20000 in
set_option maxHeartbeats 4000000 in
theorem refMove_at (L : List Nd) (hwf : ∀ n ∈ L, wfN n) (c o : Int) (tv : Value) (w : World) (ht : Reads w tv L.length (L.flatMap encN)) (hlen : L.length ≤ 1000000) :
    FnAt Try.prog 49 [tv, .int .i64 c, .int .i64 o] w fun v H => ∃ A cap, v = .tuple #[sl A (moveE L c o).1.length cap, .int .i64 (moveE L c o).2] ∧ H = [.own A 40 11 (moveE L c o).1.length cap ((moveE L c o).1.flatMap encN)] := by
  have ht' := ht
  obtain ⟨Al, cl, rfl, hl1, hl2, hl3⟩ := ht
  refine fn_at Try.func49 rfl Try.ntmps49 rfl ?_
  refine w_nilrow 40 11 ?_
  have hck := fun w0 (hm : Reads w0 (.slice Al L.length cl) L.length (L.flatMap encN)) => refCheck_at L hwf _ w0 hm
  have hne : checkE L = 0 → 0 < L.length := by
    intro h
    cases L with
    | nil => exact absurd h (by decide +kernel)
    | cons a r => simp
  have hstk : checkE L = 0 → L.any (stuckN c o) = L.any (stuckR c o) := fun h => any_congr fun n hn => (stuck_eq (check_fields h n hn)).symm
  unfold moveE
  generalize checkE L = e at hck hne hstk
  by_cases hb0 : e = 0
  rotate_left
  · repeat' (first
      | ((with_reducible apply wl_callp); exact rfl; exact rfl; (intro w' hm; exact hck w' (ht'.of_w0 hm)))
      | ((with_reducible apply wl_v); exact rfl; (first | ((with_reducible apply vop_ok); exact rfl) | ((with_reducible apply v_fieldAddr); exact rfl) | ((with_reducible apply v_len); exact rfl) | ((with_reducible apply v_lens); exact rfl) | ((with_reducible apply v_load_box); exact rfl; (repeat first | exact .hd | apply Sel.tl | apply In.tl); exact rfl) | ((with_reducible apply v_eqlb); exact rfl; exact rfl) | ((with_reducible apply v_neqb); exact rfl; exact rfl) | ((with_reducible apply v_loadw_box); exact rfl; (repeat first | exact .hd | apply Sel.tl | apply In.tl); exact rfl) | ((with_reducible apply v_loadn_box); exact rfl; (repeat first | exact .hd | apply Sel.tl | apply In.tl); exact rfl; exact rfl)))
      | ((with_reducible apply wl_gyes); exact rfl; exact rfl)
      | ((with_reducible apply wl_gno_b); exact rfl; exact rfl; exact rfl; exact rfl)
      | ((with_reducible apply wl_gno_u); exact rfl; exact rfl; exact rfl)
      | ((with_reducible apply wl_alloc); exact rfl; intro _)
      | ((with_reducible apply wl_storen_box); exact rfl; exact rfl; (repeat first | exact .hd | apply Sel.tl | apply In.tl); exact rfl; exact rfl; exact rfl)
      | ((with_reducible apply wl_putn_box); exact rfl; exact rfl; (repeat first | exact .hd | apply Sel.tl | apply In.tl); exact rfl; exact rfl; exact rfl; exact rfl)
      | ((with_reducible apply wl_buildSlice); exact rfl; exact rfl; exact rfl; exact rfl; exact rfl; exact rfl; exact rfl; intro _)
      | ((with_reducible apply wl_gsplit) <;> first | exact rfl | (intro hb; (replace hb := Tidy.out hb; try (exfalso; omega))))
      | (with_reducible first | apply wl_nil | apply thn_n | apply w_seq | apply w_region | apply w_ret | apply w_skip | apply w_exit | apply w_block | apply thn_r | apply thn_e | apply blk_n | apply blk_r | apply blk_e)
      | ((with_reducible apply w_cond_true); exact rfl)
      | ((with_reducible apply w_cond_false); exact rfl)
      | ((with_reducible apply w_cond) <;> first | exact rfl | (intro hb; (replace hb := Tidy.out hb; try (exfalso; omega))))
      | ((with_reducible apply blk_x); exact rfl))
    refine ret2 (.inl rfl) Try.results49 rfl rfl (H' := [.own none 40 11 0 0 []]) (by (repeat (first | exact MSub.nil _ | refine MSub.pick (by (repeat first | exact .hd | apply Sel.tl | apply In.tl)) ?_ | exact MSub.refl _ | refine MSub.drop .hd ?_))) ⟨none, 0, ?_⟩
    rw [if_pos hb0]
    exact ⟨rfl, rfl⟩
  rw [if_neg (by omega), hstk hb0]
  have hN := hne hb0
  obtain ⟨gl, ol, rfl, hrl⟩ := hl3 hN
  have hfl := flat_length' encN_len L
  repeat' (first
    | ((with_reducible apply wl_callp); exact rfl; exact rfl; (intro w' hm; exact hck w' (ht'.of_w0 hm)))
    | ((with_reducible apply wl_buildSlice0); exact rfl; intro gb)
    | ((with_reducible apply wl_appendR (n' := 0) (c := 0) (A := some gb) (m := L.length)); exact rfl; exact rfl; exact rfl; (repeat first | exact .hd | apply Sel.tl | apply In.tl); (intro w hm; exact ht'.of_w0 hm); exact hfl; exact encNs_one L; omega; (simp only [maxLen]; omega); (intro A' cap' hA; rw [Nat.zero_add, List.nil_append]; obtain ⟨gO, rfl⟩ := hA (by omega)))
    | ((with_reducible apply wl_v); exact rfl; (first | ((with_reducible apply vop_ok); exact rfl) | ((with_reducible apply v_fieldAddr); exact rfl) | ((with_reducible apply v_len); exact rfl) | ((with_reducible apply v_lens); exact rfl) | ((with_reducible apply v_load_box); exact rfl; (repeat first | exact .hd | apply Sel.tl | apply In.tl); exact rfl) | ((with_reducible apply v_eqlb); exact rfl; exact rfl) | ((with_reducible apply v_neqb); exact rfl; exact rfl) | ((with_reducible apply v_loadw_box); exact rfl; (repeat first | exact .hd | apply Sel.tl | apply In.tl); exact rfl) | ((with_reducible apply v_loadn_box); exact rfl; (repeat first | exact .hd | apply Sel.tl | apply In.tl); exact rfl; exact rfl)))
    | ((with_reducible apply wl_gyes); exact rfl; exact rfl)
    | ((with_reducible apply wl_gno_b); exact rfl; exact rfl; exact rfl; exact rfl)
    | ((with_reducible apply wl_gno_u); exact rfl; exact rfl; exact rfl)
    | ((with_reducible apply wl_alloc); exact rfl; intro _)
    | ((with_reducible apply wl_storen_box); exact rfl; exact rfl; (repeat first | exact .hd | apply Sel.tl | apply In.tl); exact rfl; exact rfl; exact rfl)
    | ((with_reducible apply wl_putn_box); exact rfl; exact rfl; (repeat first | exact .hd | apply Sel.tl | apply In.tl); exact rfl; exact rfl; exact rfl; exact rfl)
    | ((with_reducible apply wl_buildSlice); exact rfl; exact rfl; exact rfl; exact rfl; exact rfl; exact rfl; exact rfl; intro _)
    | ((with_reducible apply wl_gsplit) <;> first | exact rfl | (intro hb; (replace hb := Tidy.out hb; try (exfalso; omega))))
    | (with_reducible first | apply wl_nil | apply thn_n | apply w_seq | apply w_region | apply w_ret | apply w_skip | apply w_exit | apply w_block | apply thn_r | apply thn_e | apply blk_n | apply blk_r | apply blk_e)
    | ((with_reducible apply w_cond_true); exact rfl)
    | ((with_reducible apply w_cond_false); exact rfl)
    | ((with_reducible apply w_cond) <;> first | exact rfl | (intro hb; (replace hb := Tidy.out hb; try (exfalso; omega))))
    | ((with_reducible apply blk_x); exact rfl))
  refine w_loop (fun y : Nat × List Nd => [(1, .int .i64 c), (2, .int .i64 o), (9, sl (some gO) L.length cap'), (10, .int .i64 (y.1 : Int))])
    (fun y => [.own (some gO) 40 11 L.length cap' (y.2.flatMap encN), .own none 40 11 0 0 []])
    (fun y => y.1 ≤ L.length ∧ y.2 = (L.take y.1).map (mvN c o) ++ L.drop y.1 ∧ (L.take y.1).any (stuckR c o) = false) (fun y => L.length - y.1) (0, L) ⟨by omega, rfl, rfl⟩ ?_ ?_ ?_
  · (repeat (first | exact Sub.nil _ | refine Sub.cons rfl ?_))
  · (repeat (first | exact MSub.nil _ | refine MSub.pick (by (repeat first | exact .hd | apply Sel.tl | apply In.tl)) ?_ | exact MSub.refl _ | refine MSub.drop .hd ?_))
  rintro ⟨i, Lc⟩ ⟨hi, hLc, hst⟩
  dsimp only at hi hLc hst ⊢
  by_cases hlt : i < L.length
  · have hlc : Lc.length = L.length := by rw [hLc]; simp; omega
    have hltc : i < Lc.length := by omega
    have htl : ((L.take i).map (mvN c o)).length = i := by simp; omega
    have hget : Lc[i]? = some L[i] := by
      rw [hLc, List.getElem?_append_right (by omega), htl, Nat.sub_self, List.drop_eq_getElem_cons hlt]
      rfl
    have hset : Lc.set i (mvN c o L[i]) = (L.take (i + 1)).map (mvN c o) ++ L.drop (i + 1) := by
      rw [hLc, List.set_append_right _ _ (by omega), htl, Nat.sub_self, List.drop_eq_getElem_cons hlt, List.set_cons_zero, List.take_succ_eq_append_getElem hlt, List.map_append, List.append_assoc]
      rfl
    have hkeep : mvN c o L[i] = L[i] → Lc = (L.take (i + 1)).map (mvN c o) ++ L.drop (i + 1) := by
      intro h
      rw [List.take_succ_eq_append_getElem hlt, List.map_append, List.append_assoc, List.map_cons, List.map_nil, h, List.singleton_append, ← List.drop_eq_getElem_cons hlt]
      exact hLc
    have hst1 : (L.take (i + 1)).any (stuckR c o) = stuckR c o L[i] := by
      rw [List.take_succ_eq_append_getElem hlt, List.any_append, hst]; simp
    have hstL : stuckR c o L[i] = true → L.any (stuckR c o) = true := fun h => List.any_eq_true.2 ⟨_, List.getElem_mem hlt, h⟩
    have hput := put_rect Lc i hltc
    have hgi : Lc[i] = L[i] := by
      have := List.getElem?_eq_getElem hltc
      rw [hget] at this
      exact (Option.some.inj this).symm
    rw [hgi] at hput
    have hrect : ((Lc.flatMap encN).drop (0 + i * 11 + 4)).take 4 = encR L[i].rect := by
      have h2 := congrArg (fun l => (l.drop 4).take 4) (flat_elem encN_len Lc i hltc)
      rw [List.drop_take, List.take_take, List.drop_drop, hgi] at h2
      rw [Nat.zero_add]
      exact h2
    generalize L[i] = n at hget hset hkeep hst1 hstL hput hrect
    have hmv : mvN c o n = bif rangesF n then { n with rect := mvR c o n.rect } else n := rfl
    have hsk : stuckR c o n = (rangesF n && (outF c o || decide (rectE (mvR c o n.rect) ≠ 0))) := rfl
    have hrc := fun w => refRect_at (mvR c o n.rect) w
    by_cases hq : n.kind = 2 ∨ n.kind = 3
    rotate_left
    · have hrf : rangesF n = false := by simp only [rangesF, Bool.or_eq_false_iff, decide_eq_false_iff_not]; omega
      rw [hrf] at hmv hsk
      repeat' (first
        | ((with_reducible apply wl_v); exact rfl; (with_reducible apply v_indexAddr); exact rfl; exact rfl; exact hlt)
        | ((with_reducible apply wl_v); exact rfl; (with_reducible apply v_loadc_own); exact encN_len; exact rfl; (repeat first | exact .hd | apply Sel.tl | apply In.tl); decide; exact hget; exact rfl)
        | ((with_reducible apply wl_v); exact rfl; (first | ((with_reducible apply vop_ok); exact rfl) | ((with_reducible apply v_fieldAddr); exact rfl) | ((with_reducible apply v_len); exact rfl) | ((with_reducible apply v_lens); exact rfl) | ((with_reducible apply v_load_box); exact rfl; (repeat first | exact .hd | apply Sel.tl | apply In.tl); exact rfl) | ((with_reducible apply v_eqlb); exact rfl; exact rfl) | ((with_reducible apply v_neqb); exact rfl; exact rfl) | ((with_reducible apply v_loadw_box); exact rfl; (repeat first | exact .hd | apply Sel.tl | apply In.tl); exact rfl) | ((with_reducible apply v_loadn_box); exact rfl; (repeat first | exact .hd | apply Sel.tl | apply In.tl); exact rfl; exact rfl)))
        | ((with_reducible apply wl_gyes); exact rfl; exact rfl)
        | ((with_reducible apply wl_gno_b); exact rfl; exact rfl; exact rfl; exact rfl)
        | ((with_reducible apply wl_gno_u); exact rfl; exact rfl; exact rfl)
        | ((with_reducible apply wl_alloc); exact rfl; intro _)
        | ((with_reducible apply wl_storen_box); exact rfl; exact rfl; (repeat first | exact .hd | apply Sel.tl | apply In.tl); exact rfl; exact rfl; exact rfl)
        | ((with_reducible apply wl_putn_box); exact rfl; exact rfl; (repeat first | exact .hd | apply Sel.tl | apply In.tl); exact rfl; exact rfl; exact rfl; exact rfl)
        | ((with_reducible apply wl_buildSlice); exact rfl; exact rfl; exact rfl; exact rfl; exact rfl; exact rfl; exact rfl; intro _)
        | ((with_reducible apply wl_gsplit) <;> first | exact rfl | (intro hb; (replace hb := Tidy.out hb; try (exfalso; omega))))
        | (with_reducible first | apply wl_nil | apply thn_n | apply w_seq | apply w_region | apply w_ret | apply w_skip | apply w_exit | apply w_block | apply thn_r | apply thn_e | apply blk_n | apply blk_r | apply blk_e)
        | ((with_reducible apply w_cond_true); exact rfl)
        | ((with_reducible apply w_cond_false); exact rfl)
        | ((with_reducible apply w_cond) <;> first | exact rfl | (intro hb; (replace hb := Tidy.out hb; try (exfalso; omega))))
        | ((with_reducible apply blk_x); exact rfl)
        | ((with_reducible apply wl_v); exact rfl; (with_reducible apply v_succN); exact rfl; exact rfl; (simp only [maxLen] at *; omega))
        | ((with_reducible apply wl_v); exact rfl; (with_reducible apply v_1addN); exact rfl; exact rfl; (simp only [maxLen] at *; omega))
        | ((with_reducible apply wl_v); exact rfl; (with_reducible apply v_addN); exact rfl; exact rfl; (simp only [maxLen] at *; omega)))
      refine ⟨(i + 1, Lc), ⟨hlt, hkeep (by rw [hmv]; rfl), by rw [hst1, hsk]; rfl⟩, (by dsimp only; omega), ?_, ?_⟩
      · (repeat (first | exact Sub.nil _ | refine Sub.cons rfl ?_))
      · (repeat (first | exact MSub.nil _ | refine MSub.pick (by (repeat first | exact .hd | apply Sel.tl | apply In.tl)) ?_ | exact MSub.refl _ | refine MSub.drop .hd ?_))
    have hrf : rangesF n = true := by simp only [rangesF, Bool.or_eq_true, decide_eq_true_eq]; exact hq
    rw [hrf] at hmv hsk
    by_cases hout : (c < -1024 ∨ 1024 < c) ∨ (o < -1024 ∨ 1024 < o)
    · have hs := hstL (by rw [hsk]; simp only [outF, Bool.true_and, Bool.or_eq_true, decide_eq_true_eq]; left; omega)
      repeat' (first
        | ((with_reducible apply wl_v); exact rfl; (with_reducible apply v_indexAddr); exact rfl; exact rfl; exact hlt)
        | ((with_reducible apply wl_v); exact rfl; (with_reducible apply v_loadc_own); exact encN_len; exact rfl; (repeat first | exact .hd | apply Sel.tl | apply In.tl); decide; exact hget; exact rfl)
        | ((with_reducible apply wl_v); exact rfl; (first | ((with_reducible apply vop_ok); exact rfl) | ((with_reducible apply v_fieldAddr); exact rfl) | ((with_reducible apply v_len); exact rfl) | ((with_reducible apply v_lens); exact rfl) | ((with_reducible apply v_load_box); exact rfl; (repeat first | exact .hd | apply Sel.tl | apply In.tl); exact rfl) | ((with_reducible apply v_eqlb); exact rfl; exact rfl) | ((with_reducible apply v_neqb); exact rfl; exact rfl) | ((with_reducible apply v_loadw_box); exact rfl; (repeat first | exact .hd | apply Sel.tl | apply In.tl); exact rfl) | ((with_reducible apply v_loadn_box); exact rfl; (repeat first | exact .hd | apply Sel.tl | apply In.tl); exact rfl; exact rfl)))
        | ((with_reducible apply wl_gyes); exact rfl; exact rfl)
        | ((with_reducible apply wl_gno_b); exact rfl; exact rfl; exact rfl; exact rfl)
        | ((with_reducible apply wl_gno_u); exact rfl; exact rfl; exact rfl)
        | ((with_reducible apply wl_alloc); exact rfl; intro _)
        | ((with_reducible apply wl_storen_box); exact rfl; exact rfl; (repeat first | exact .hd | apply Sel.tl | apply In.tl); exact rfl; exact rfl; exact rfl)
        | ((with_reducible apply wl_putn_box); exact rfl; exact rfl; (repeat first | exact .hd | apply Sel.tl | apply In.tl); exact rfl; exact rfl; exact rfl; exact rfl)
        | ((with_reducible apply wl_buildSlice); exact rfl; exact rfl; exact rfl; exact rfl; exact rfl; exact rfl; exact rfl; intro _)
        | ((with_reducible apply wl_gsplit) <;> first | exact rfl | (intro hb; (replace hb := Tidy.out hb; try (exfalso; omega))))
        | (with_reducible first | apply wl_nil | apply thn_n | apply w_seq | apply w_region | apply w_ret | apply w_skip | apply w_exit | apply w_block | apply thn_r | apply thn_e | apply blk_n | apply blk_r | apply blk_e)
        | ((with_reducible apply w_cond_true); exact rfl)
        | ((with_reducible apply w_cond_false); exact rfl)
        | ((with_reducible apply w_cond) <;> first | exact rfl | (intro hb; (replace hb := Tidy.out hb; try (exfalso; omega))))
        | ((with_reducible apply blk_x); exact rfl)
        | ((with_reducible apply wl_v); exact rfl; (with_reducible apply v_succN); exact rfl; exact rfl; (simp only [maxLen] at *; omega))
        | ((with_reducible apply wl_v); exact rfl; (with_reducible apply v_1addN); exact rfl; exact rfl; (simp only [maxLen] at *; omega))
        | ((with_reducible apply wl_v); exact rfl; (with_reducible apply v_addN); exact rfl; exact rfl; (simp only [maxLen] at *; omega)))
      all_goals
        refine ret2 (.inl rfl) Try.results49 rfl rfl (H' := [.own none 40 11 0 0 []]) (by (repeat (first | exact MSub.nil _ | refine MSub.pick (by (repeat first | exact .hd | apply Sel.tl | apply In.tl)) ?_ | exact MSub.refl _ | refine MSub.drop .hd ?_))) ⟨none, 0, ?_⟩
        rw [if_pos hs]
        exact ⟨rfl, rfl⟩
    have hof : outF c o = false := by simp only [outF, Bool.or_eq_false_iff, decide_eq_false_iff_not]; omega
    generalize hre : rectE (mvR c o n.rect) = re at hrc hsk
    rw [hof] at hsk
    repeat' (first
      | ((with_reducible apply wl_v); exact rfl; (with_reducible apply v_indexAddr); exact rfl; exact rfl; exact hlt)
      | ((with_reducible apply wl_v); exact rfl; (with_reducible apply v_loadc_own); exact encN_len; exact rfl; (repeat first | exact .hd | apply Sel.tl | apply In.tl); decide; exact hget; exact rfl)
      | ((with_reducible apply wl_v (d := 58)); exact rfl; (with_reducible apply v_loads_own (ys := encR n.rect)); exact rfl; (repeat first | exact .hd | apply Sel.tl | apply In.tl); exact hrect; exact rfl)
      | ((with_reducible apply wl_v (d := 62)); exact rfl; (with_reducible apply v_addw); exact rfl; exact rfl)
      | ((with_reducible apply wl_v (d := 66)); exact rfl; (with_reducible apply v_addw); exact rfl; exact rfl)
      | ((with_reducible apply wl_v (d := 70)); exact rfl; (with_reducible apply v_addw); exact rfl; exact rfl)
      | ((with_reducible apply wl_v (d := 74)); exact rfl; (with_reducible apply v_addw); exact rfl; exact rfl)
      | ((with_reducible apply wl_callp); exact rfl; exact rfl; (intro w hm; exact hrc w))
      | ((with_reducible apply wl_put_own (vs := encR (mvR c o n.rect))); exact rfl; exact rfl; (repeat first | exact .hd | apply Sel.tl | apply In.tl); exact rfl; exact rfl; (simp [encR, Value.oneCell']); (rw [flat_length' encN_len]; omega))
      | ((with_reducible apply wl_v); exact rfl; (first | ((with_reducible apply vop_ok); exact rfl) | ((with_reducible apply v_fieldAddr); exact rfl) | ((with_reducible apply v_len); exact rfl) | ((with_reducible apply v_lens); exact rfl) | ((with_reducible apply v_load_box); exact rfl; (repeat first | exact .hd | apply Sel.tl | apply In.tl); exact rfl) | ((with_reducible apply v_eqlb); exact rfl; exact rfl) | ((with_reducible apply v_neqb); exact rfl; exact rfl) | ((with_reducible apply v_loadw_box); exact rfl; (repeat first | exact .hd | apply Sel.tl | apply In.tl); exact rfl) | ((with_reducible apply v_loadn_box); exact rfl; (repeat first | exact .hd | apply Sel.tl | apply In.tl); exact rfl; exact rfl)))
      | ((with_reducible apply wl_gyes); exact rfl; exact rfl)
      | ((with_reducible apply wl_gno_b); exact rfl; exact rfl; exact rfl; exact rfl)
      | ((with_reducible apply wl_gno_u); exact rfl; exact rfl; exact rfl)
      | ((with_reducible apply wl_alloc); exact rfl; intro _)
      | ((with_reducible apply wl_storen_box); exact rfl; exact rfl; (repeat first | exact .hd | apply Sel.tl | apply In.tl); exact rfl; exact rfl; exact rfl)
      | ((with_reducible apply wl_putn_box); exact rfl; exact rfl; (repeat first | exact .hd | apply Sel.tl | apply In.tl); exact rfl; exact rfl; exact rfl; exact rfl)
      | ((with_reducible apply wl_buildSlice); exact rfl; exact rfl; exact rfl; exact rfl; exact rfl; exact rfl; exact rfl; intro _)
      | ((with_reducible apply wl_gsplit) <;> first | exact rfl | (intro hb; (replace hb := Tidy.out hb; try (exfalso; omega))))
      | (with_reducible first | apply wl_nil | apply thn_n | apply w_seq | apply w_region | apply w_ret | apply w_skip | apply w_exit | apply w_block | apply thn_r | apply thn_e | apply blk_n | apply blk_r | apply blk_e)
      | ((with_reducible apply w_cond_true); exact rfl)
      | ((with_reducible apply w_cond_false); exact rfl)
      | ((with_reducible apply w_cond) <;> first | exact rfl | (intro hb; (replace hb := Tidy.out hb; try (exfalso; omega))))
      | ((with_reducible apply blk_x); exact rfl)
      | ((with_reducible apply wl_v); exact rfl; (with_reducible apply v_succN); exact rfl; exact rfl; (simp only [maxLen] at *; omega))
      | ((with_reducible apply wl_v); exact rfl; (with_reducible apply v_1addN); exact rfl; exact rfl; (simp only [maxLen] at *; omega))
      | ((with_reducible apply wl_v); exact rfl; (with_reducible apply v_addN); exact rfl; exact rfl; (simp only [maxLen] at *; omega)))
    all_goals first
      | (have hs := hstL (by rw [hsk]; simp [hb])
         refine ret2 (.inl rfl) Try.results49 rfl rfl (H' := [.own none 40 11 0 0 []]) (by (repeat (first | exact MSub.nil _ | refine MSub.pick (by (repeat first | exact .hd | apply Sel.tl | apply In.tl)) ?_ | exact MSub.refl _ | refine MSub.drop .hd ?_))) ⟨none, 0, ?_⟩
         rw [if_pos hs]
         exact ⟨rfl, rfl⟩)
      | (have hs : stuckR c o n = false := by
           rw [hsk]
           have h3 : re = 0 := by omega
           simp [h3]
         rw [hmv, cond_true] at hset
         refine ⟨(i + 1, Lc.set i { n with rect := mvR c o n.rect }), ⟨hlt, hset, hst1.trans hs⟩, (by dsimp only; omega), ?_, ?_⟩
         · (repeat (first | exact Sub.nil _ | refine Sub.cons rfl ?_))
         · dsimp only
           rw [← hput (mvR c o n.rect)]
           simp only [Nat.zero_add]
           (repeat (first | exact MSub.nil _ | refine MSub.pick (by (repeat first | exact .hd | apply Sel.tl | apply In.tl)) ?_ | exact MSub.refl _ | refine MSub.drop .hd ?_)))
  · have e : i = L.length := by omega
    subst e
    rw [List.take_length] at hLc hst
    rw [List.drop_length, List.append_nil] at hLc
    repeat' (first
      | ((with_reducible apply wl_v); exact rfl; (first | ((with_reducible apply vop_ok); exact rfl) | ((with_reducible apply v_fieldAddr); exact rfl) | ((with_reducible apply v_len); exact rfl) | ((with_reducible apply v_lens); exact rfl) | ((with_reducible apply v_load_box); exact rfl; (repeat first | exact .hd | apply Sel.tl | apply In.tl); exact rfl) | ((with_reducible apply v_eqlb); exact rfl; exact rfl) | ((with_reducible apply v_neqb); exact rfl; exact rfl) | ((with_reducible apply v_loadw_box); exact rfl; (repeat first | exact .hd | apply Sel.tl | apply In.tl); exact rfl) | ((with_reducible apply v_loadn_box); exact rfl; (repeat first | exact .hd | apply Sel.tl | apply In.tl); exact rfl; exact rfl)))
      | ((with_reducible apply wl_gyes); exact rfl; exact rfl)
      | ((with_reducible apply wl_gno_b); exact rfl; exact rfl; exact rfl; exact rfl)
      | ((with_reducible apply wl_gno_u); exact rfl; exact rfl; exact rfl)
      | ((with_reducible apply wl_alloc); exact rfl; intro _)
      | ((with_reducible apply wl_storen_box); exact rfl; exact rfl; (repeat first | exact .hd | apply Sel.tl | apply In.tl); exact rfl; exact rfl; exact rfl)
      | ((with_reducible apply wl_putn_box); exact rfl; exact rfl; (repeat first | exact .hd | apply Sel.tl | apply In.tl); exact rfl; exact rfl; exact rfl; exact rfl)
      | ((with_reducible apply wl_buildSlice); exact rfl; exact rfl; exact rfl; exact rfl; exact rfl; exact rfl; exact rfl; intro _)
      | ((with_reducible apply wl_gsplit) <;> first | exact rfl | (intro hb; (replace hb := Tidy.out hb; try (exfalso; omega))))
      | (with_reducible first | apply wl_nil | apply thn_n | apply w_seq | apply w_region | apply w_ret | apply w_skip | apply w_exit | apply w_block | apply thn_r | apply thn_e | apply blk_n | apply blk_r | apply blk_e)
      | ((with_reducible apply w_cond_true); exact rfl)
      | ((with_reducible apply w_cond_false); exact rfl)
      | ((with_reducible apply w_cond) <;> first | exact rfl | (intro hb; (replace hb := Tidy.out hb; try (exfalso; omega))))
      | ((with_reducible apply blk_x); exact rfl))
    refine ret2 (.inl rfl) Try.results49 rfl rfl (H' := [.own (some gO) 40 11 L.length cap' (Lc.flatMap encN)]) (by (repeat (first | exact MSub.nil _ | refine MSub.pick (by (repeat first | exact .hd | apply Sel.tl | apply In.tl)) ?_ | exact MSub.refl _ | refine MSub.drop .hd ?_))) ⟨some gO, cap', ?_⟩
    rw [if_neg (by rw [hst]; decide), hLc]
    exact ⟨by rw [List.length_map], by rw [List.length_map]⟩
end Go.SL

/-
  RefsMoves returns true.
-/
namespace Go.SL
open Go Go.Proofs
attribute [local irreducible] W WL WQ WG WA VOp thn blk cutP retP FnAt FnIn Held

def zeroN : Nd := ⟨0, zeroV, zeroR, 0, 0, 0⟩

set_option maxRecDepth 20000 in
set_option maxHeartbeats 4000000 in
theorem RefsMoves_at (L : List Nd) (hwf : ∀ n ∈ L, wfN n) (c o : Int) (tv : Value) (w : World) (hl : Reads w tv L.length (L.flatMap encN)) : Pure Try.prog 11 [tv, .int .i64 c, .int .i64 o] w (.bool true) := by
  refine fn_at Try.func11 rfl Try.ntmps11 rfl ?_
  have hf1 := fun (w' : World) (H : List Blk) (hm : Mem w w' H) => Few_at L tv w' (hl.of_w0 hm)
  have hidem := fewT_idem L
  have hwf1 := wf_few hwf
  have hle := few_len L
  generalize fewT L = T at hf1 hidem hwf1 hle
  have hf3 := fun (w' : World) (A : Option Nat) (cap : Nat) (h : Reads w' (sl A T.length cap) T.length (T.flatMap encN)) => Few_at T _ w' h
  rw [hidem] at hf3
  have m1 := fun (tv' : Value) (w' : World) h => Move_at T c o tv' w' h (by omega)
  have m2 := fun (tv' : Value) (w' : World) h => refMove_at T hwf1 c o tv' w' h (by omega)
  have hml : (moveE T c o).1.length ≤ 300 := by
    unfold moveE
    split
    · simp
    · split
      · simp
      · simpa using hle
  generalize moveE T c o = M at *
  obtain ⟨M, e⟩ := M
  dsimp only at m1 m2 hml
  repeat' (first
    | ((with_reducible apply wl_call (d := 14)); exact rfl; exact rfl; (intro w' h; exact hf1 w' _ h); (rintro v H' ⟨A1, cap1, rfl, rfl⟩))
    | ((with_reducible apply wl_call (d := 16)); exact rfl; exact rfl; (intro w' h; exact hf3 w' _ _ (Reads.of_own h (by (repeat first | exact .hd | apply Sel.tl | apply In.tl)))); (rintro v H' ⟨A2, cap2, rfl, rfl⟩))
    | ((with_reducible apply wl_call (d := 21)); exact rfl; exact rfl; (intro w' h; exact m1 _ w' (Reads.of_own (A := A2) h (by (repeat first | exact .hd | apply Sel.tl | apply In.tl)))); (rintro v H' ⟨A3, cap3, rfl, rfl⟩))
    | ((with_reducible apply wl_call (d := 28)); exact rfl; exact rfl; (intro w' h; exact m2 _ w' (Reads.of_own (A := A1) h (by (repeat first | exact .hd | apply Sel.tl | apply In.tl)))); (rintro v H' ⟨A4, cap4, rfl, rfl⟩))
    | ((with_reducible apply wl_callp (d := 33)); exact rfl; exact rfl; (intro w' h; exact EqualTree_same M _ _ w' (Reads.of_own (A := A3) h (by (repeat first | exact .hd | apply Sel.tl | apply In.tl))) (Reads.of_own (A := A4) h (by (repeat first | exact .hd | apply Sel.tl | apply In.tl)))))
    | ((with_reducible apply wl_v); exact rfl; (with_reducible apply v_neq_same); exact rfl; exact rfl)
    | ((with_reducible apply wl_v); exact rfl; (first | ((with_reducible apply vop_ok); exact rfl) | ((with_reducible apply v_len); exact rfl) | ((with_reducible apply v_lens); exact rfl) | ((with_reducible apply v_eqlb); exact rfl; exact rfl) | ((with_reducible apply v_neqb); exact rfl; exact rfl) | ((with_reducible apply v_build); exact rfl; exact rfl; exact rfl)))
    | ((with_reducible apply wl_gyes); exact rfl; exact rfl)
    | ((with_reducible apply wl_gno_b); exact rfl; exact rfl; exact rfl; exact rfl)
    | ((with_reducible apply wl_gno_u); exact rfl; exact rfl; exact rfl)
    | ((with_reducible apply wl_storen_box); exact rfl; exact rfl; (repeat first | exact .hd | apply Sel.tl | apply In.tl); exact rfl; exact rfl; exact rfl)
    | ((with_reducible apply wl_putn_box); exact rfl; exact rfl; (repeat first | exact .hd | apply Sel.tl | apply In.tl); exact rfl; exact rfl; exact rfl; exact rfl)
    | ((with_reducible apply wl_gsplit) <;> first | exact rfl | (intro hb; (replace hb := Tidy.out hb; try (exfalso; omega))))
    | (with_reducible first | apply wl_nil | apply thn_n | apply w_seq | apply w_region | apply w_ret | apply w_skip | apply w_exit | apply w_block | apply thn_r | apply thn_e | apply blk_n | apply blk_r | apply blk_e)
    | ((with_reducible apply w_cond_true); exact rfl)
    | ((with_reducible apply w_cond_false); exact rfl)
    | ((with_reducible apply w_cond) <;> first | exact rfl | (intro hb; (replace hb := Tidy.out hb; try (exfalso; omega))))
    | ((with_reducible apply blk_x); exact rfl))
  refine w_loopK [0, 7, 8] rfl (fun x : Nat × List Value => [(12, .int .i64 (x.1 : Int))]) (fun x => [.own A3 40 11 M.length cap3 x.2, .own A2 40 11 T.length cap2 (T.flatMap encN), .own A1 40 11 T.length cap1 (T.flatMap encN)])
    (fun x => x.1 ≤ M.length ∧ x.2.length = M.length * 11) (fun x => M.length - x.1) (0, M.flatMap encN) ⟨by omega, flat_length' encN_len M⟩ (by (repeat (first | exact Sub.nil _ | refine Sub.cons rfl ?_))) (by (repeat (first | exact MSub.nil _ | refine MSub.pick (by (repeat first | exact .hd | apply Sel.tl | apply In.tl)) ?_ | exact MSub.refl _ | refine MSub.drop .hd ?_))) ?_
  rintro ⟨z, xs⟩ ⟨hz, hxs⟩
  dsimp only at hz hxs ⊢
  by_cases hlt : z < M.length
  · refine w_some (A := A3) .hd (by omega) fun g3 hA3 => ?_
    subst hA3
    repeat' (first
      | ((with_reducible apply wl_v); exact rfl; (with_reducible apply v_indexAddr); exact rfl; exact rfl; exact hlt)
      | ((with_reducible apply wl_put_own (vs := encN zeroN)); exact rfl; exact rfl; (repeat first | exact .hd | apply Sel.tl | apply In.tl); exact rfl; exact rfl; (simp [encN, Value.oneCell']); (rw [hxs]; omega))
      | ((with_reducible apply wl_v); exact rfl; (first | ((with_reducible apply vop_ok); exact rfl) | ((with_reducible apply v_len); exact rfl) | ((with_reducible apply v_lens); exact rfl) | ((with_reducible apply v_eqlb); exact rfl; exact rfl) | ((with_reducible apply v_neqb); exact rfl; exact rfl) | ((with_reducible apply v_build); exact rfl; exact rfl; exact rfl)))
      | ((with_reducible apply wl_gyes); exact rfl; exact rfl)
      | ((with_reducible apply wl_gno_b); exact rfl; exact rfl; exact rfl; exact rfl)
      | ((with_reducible apply wl_gno_u); exact rfl; exact rfl; exact rfl)
      | ((with_reducible apply wl_storen_box); exact rfl; exact rfl; (repeat first | exact .hd | apply Sel.tl | apply In.tl); exact rfl; exact rfl; exact rfl)
      | ((with_reducible apply wl_putn_box); exact rfl; exact rfl; (repeat first | exact .hd | apply Sel.tl | apply In.tl); exact rfl; exact rfl; exact rfl; exact rfl)
      | ((with_reducible apply wl_gsplit) <;> first | exact rfl | (intro hb; (replace hb := Tidy.out hb; try (exfalso; omega))))
      | (with_reducible first | apply wl_nil | apply thn_n | apply w_seq | apply w_region | apply w_ret | apply w_skip | apply w_exit | apply w_block | apply thn_r | apply thn_e | apply blk_n | apply blk_r | apply blk_e)
      | ((with_reducible apply w_cond_true); exact rfl)
      | ((with_reducible apply w_cond_false); exact rfl)
      | ((with_reducible apply w_cond) <;> first | exact rfl | (intro hb; (replace hb := Tidy.out hb; try (exfalso; omega))))
      | ((with_reducible apply blk_x); exact rfl)
      | ((with_reducible apply wl_v); exact rfl; (with_reducible apply v_succN); exact rfl; exact rfl; (simp only [maxLen] at *; omega))
      | ((with_reducible apply wl_v); exact rfl; (with_reducible apply v_1addN); exact rfl; exact rfl; (simp only [maxLen] at *; omega))
      | ((with_reducible apply wl_v); exact rfl; (with_reducible apply v_addN); exact rfl; exact rfl; (simp only [maxLen] at *; omega)))
    refine ⟨(z + 1, xs.take (0 + z * 11) ++ encN zeroN ++ xs.drop (0 + z * 11 + 11)), ?_, (by first | omega | (dsimp only; omega)), (by (repeat (first | exact Sub.nil _ | refine Sub.cons rfl ?_))), (by (repeat (first | exact Sub.nil _ | refine Sub.cons rfl ?_))), (by (repeat (first | exact MSub.nil _ | refine MSub.pick (by (repeat first | exact .hd | apply Sel.tl | apply In.tl)) ?_ | exact MSub.refl _ | refine MSub.drop .hd ?_)))⟩
    exact ⟨hlt, by simp only [List.length_append, List.length_take, List.length_drop, encN_len, hxs]; omega⟩
  · have e : z = M.length := by omega
    subst e
    repeat' (first
      | ((with_reducible apply wl_callp (f := 27)); exact rfl; exact rfl; (intro w' h; exact EqualTree_same T _ _ w' (Reads.of_own (A := A2) h (by (repeat first | exact .hd | apply Sel.tl | apply In.tl))) (Reads.of_own (A := A1) h (by (repeat first | exact .hd | apply Sel.tl | apply In.tl)))))
      | ((with_reducible apply wl_callp (f := 47)); exact rfl; exact rfl; (intro w' h; exact awake12_at w'))
      | ((with_reducible apply wl_v); exact rfl; (first | ((with_reducible apply vop_ok); exact rfl) | ((with_reducible apply v_len); exact rfl) | ((with_reducible apply v_lens); exact rfl) | ((with_reducible apply v_eqlb); exact rfl; exact rfl) | ((with_reducible apply v_neqb); exact rfl; exact rfl) | ((with_reducible apply v_build); exact rfl; exact rfl; exact rfl)))
      | ((with_reducible apply wl_gyes); exact rfl; exact rfl)
      | ((with_reducible apply wl_gno_b); exact rfl; exact rfl; exact rfl; exact rfl)
      | ((with_reducible apply wl_gno_u); exact rfl; exact rfl; exact rfl)
      | ((with_reducible apply wl_storen_box); exact rfl; exact rfl; (repeat first | exact .hd | apply Sel.tl | apply In.tl); exact rfl; exact rfl; exact rfl)
      | ((with_reducible apply wl_putn_box); exact rfl; exact rfl; (repeat first | exact .hd | apply Sel.tl | apply In.tl); exact rfl; exact rfl; exact rfl; exact rfl)
      | ((with_reducible apply wl_gsplit) <;> first | exact rfl | (intro hb; (replace hb := Tidy.out hb; try (exfalso; omega))))
      | (with_reducible first | apply wl_nil | apply thn_n | apply w_seq | apply w_region | apply w_ret | apply w_skip | apply w_exit | apply w_block | apply thn_r | apply thn_e | apply blk_n | apply blk_r | apply blk_e)
      | ((with_reducible apply w_cond_true); exact rfl)
      | ((with_reducible apply w_cond_false); exact rfl)
      | ((with_reducible apply w_cond) <;> first | exact rfl | (intro hb; (replace hb := Tidy.out hb; try (exfalso; omega))))
      | ((with_reducible apply blk_x); exact rfl))
    ((with_reducible apply ret1); exact .inl rfl; exact rfl; exact rfl; exact MSub.nil _)
    rfl
end Go.SL

/-
  The reference's Uses returns what Uses returns.
-/
namespace Go.SL
open Go Go.Proofs
attribute [local irreducible] W WL WQ WG WA VOp thn blk cutP retP FnAt FnIn Held

set_option maxRecDepth 20000 in
set_option maxHeartbeats 4000000 in
theorem refUses_at (L : List Nd) (hwf : ∀ n ∈ L, wfN n) (tv : Value) (w : World) (ht : Reads w tv L.length (L.flatMap encN)) :
    FnAt Try.prog 41 [tv] w fun v H => ∃ A cap, v = .tuple #[sl A (usesE L).1.length cap, .int .i64 (usesE L).2] ∧ H = [.own A 68 6 (usesE L).1.length cap ((usesE L).1.flatMap encU)] := by
  have ht' := ht
  obtain ⟨Al, cl, rfl, hl1, hl2, hl3⟩ := ht
  refine fn_at Try.func41 rfl Try.ntmps41 rfl ?_
  refine w_nilrow 68 6 ?_
  have hck := fun w0 (hm : Reads w0 (.slice Al L.length cl) L.length (L.flatMap encN)) => refCheck_at L hwf _ w0 hm
  unfold usesE
  by_cases hc : checkE L = 0
  rotate_left
  · generalize checkE L = e at hck hc
    repeat' (first
      | ((with_reducible apply wl_callp); exact rfl; exact rfl; (intro w' hm; exact hck w' (ht'.of_w0 hm)))
      | ((with_reducible apply wl_v); exact rfl; (first | ((with_reducible apply vop_ok); exact rfl) | ((with_reducible apply v_fieldAddr); exact rfl) | ((with_reducible apply v_len); exact rfl) | ((with_reducible apply v_lens); exact rfl) | ((with_reducible apply v_load_box); exact rfl; (repeat first | exact .hd | apply Sel.tl | apply In.tl); exact rfl) | ((with_reducible apply v_eqlb); exact rfl; exact rfl) | ((with_reducible apply v_neqb); exact rfl; exact rfl) | ((with_reducible apply v_loadw_box); exact rfl; (repeat first | exact .hd | apply Sel.tl | apply In.tl); exact rfl) | ((with_reducible apply v_loadn_box); exact rfl; (repeat first | exact .hd | apply Sel.tl | apply In.tl); exact rfl; exact rfl) | ((with_reducible apply v_build); exact rfl; exact rfl; exact rfl)))
      | ((with_reducible apply wl_gyes); exact rfl; exact rfl)
      | ((with_reducible apply wl_gno_b); exact rfl; exact rfl; exact rfl; exact rfl)
      | ((with_reducible apply wl_gno_u); exact rfl; exact rfl; exact rfl)
      | ((with_reducible apply wl_alloc); exact rfl; intro _)
      | ((with_reducible apply wl_storen_box); exact rfl; exact rfl; (repeat first | exact .hd | apply Sel.tl | apply In.tl); exact rfl; exact rfl; exact rfl)
      | ((with_reducible apply wl_putn_box); exact rfl; exact rfl; (repeat first | exact .hd | apply Sel.tl | apply In.tl); exact rfl; exact rfl; exact rfl; exact rfl)
      | ((with_reducible apply wl_buildSlice); exact rfl; exact rfl; exact rfl; exact rfl; exact rfl; exact rfl; exact rfl; intro _)
      | ((with_reducible apply wl_gsplit) <;> first | exact rfl | (intro hb; (replace hb := Tidy.out hb; try (exfalso; omega))))
      | (with_reducible first | apply wl_nil | apply thn_n | apply w_seq | apply w_region | apply w_ret | apply w_skip | apply w_exit | apply w_block | apply thn_r | apply thn_e | apply blk_n | apply blk_r | apply blk_e)
      | ((with_reducible apply w_cond_true); exact rfl)
      | ((with_reducible apply w_cond_false); exact rfl)
      | ((with_reducible apply w_cond) <;> first | exact rfl | (intro hb; (replace hb := Tidy.out hb; try (exfalso; omega))))
      | ((with_reducible apply blk_x); exact rfl))
    refine ret2 (.inl rfl) Try.results41 rfl rfl (H' := [.own none 68 6 0 0 []]) (by (repeat (first | exact MSub.nil _ | refine MSub.pick (by (repeat first | exact .hd | apply Sel.tl | apply In.tl)) ?_ | exact MSub.refl _ | refine MSub.drop .hd ?_))) ⟨none, 0, ?_⟩
    rw [if_pos hc]
    exact ⟨rfl, rfl⟩
  rw [if_neg (by omega)]
  obtain ⟨hlen, S, Hi, hW, hk3, hct⟩ := check_whole hc
  obtain ⟨gl, ol, rfl, hrl⟩ := hl3 hW.pos
  rw [hc] at hck
  have hpar := fun w0 (hm : Reads w0 (.slice (some ⟨gl, ol, none⟩) L.length cl) L.length (L.flatMap encN)) => Parents_at L hlen S Hi hW _ w0 hm
  have hul := usesF_len L
  repeat' (first
    | ((with_reducible apply wl_callp (f := 25)); exact rfl; exact rfl; (intro w' hm; exact hck w' (ht'.of_w0 hm)))
    | ((with_reducible apply wl_call (f := 59)); exact rfl; exact rfl; (intro w' hm; exact hpar w' (ht'.of_w0 hm)); (rintro v H' ⟨Ap, cp, rfl, rfl⟩))
    | ((with_reducible apply wl_v); exact rfl; (first | ((with_reducible apply vop_ok); exact rfl) | ((with_reducible apply v_fieldAddr); exact rfl) | ((with_reducible apply v_len); exact rfl) | ((with_reducible apply v_lens); exact rfl) | ((with_reducible apply v_load_box); exact rfl; (repeat first | exact .hd | apply Sel.tl | apply In.tl); exact rfl) | ((with_reducible apply v_eqlb); exact rfl; exact rfl) | ((with_reducible apply v_neqb); exact rfl; exact rfl) | ((with_reducible apply v_loadw_box); exact rfl; (repeat first | exact .hd | apply Sel.tl | apply In.tl); exact rfl) | ((with_reducible apply v_loadn_box); exact rfl; (repeat first | exact .hd | apply Sel.tl | apply In.tl); exact rfl; exact rfl) | ((with_reducible apply v_build); exact rfl; exact rfl; exact rfl)))
    | ((with_reducible apply wl_gyes); exact rfl; exact rfl)
    | ((with_reducible apply wl_gno_b); exact rfl; exact rfl; exact rfl; exact rfl)
    | ((with_reducible apply wl_gno_u); exact rfl; exact rfl; exact rfl)
    | ((with_reducible apply wl_alloc); exact rfl; intro _)
    | ((with_reducible apply wl_storen_box); exact rfl; exact rfl; (repeat first | exact .hd | apply Sel.tl | apply In.tl); exact rfl; exact rfl; exact rfl)
    | ((with_reducible apply wl_putn_box); exact rfl; exact rfl; (repeat first | exact .hd | apply Sel.tl | apply In.tl); exact rfl; exact rfl; exact rfl; exact rfl)
    | ((with_reducible apply wl_buildSlice); exact rfl; exact rfl; exact rfl; exact rfl; exact rfl; exact rfl; exact rfl; intro _)
    | ((with_reducible apply wl_gsplit) <;> first | exact rfl | (intro hb; (replace hb := Tidy.out hb; try (exfalso; omega))))
    | (with_reducible first | apply wl_nil | apply thn_n | apply w_seq | apply w_region | apply w_ret | apply w_skip | apply w_exit | apply w_block | apply thn_r | apply thn_e | apply blk_n | apply blk_r | apply blk_e)
    | ((with_reducible apply w_cond_true); exact rfl)
    | ((with_reducible apply w_cond_false); exact rfl)
    | ((with_reducible apply w_cond) <;> first | exact rfl | (intro hb; (replace hb := Tidy.out hb; try (exfalso; omega))))
    | ((with_reducible apply blk_x); exact rfl))
  have hpos := hW.pos
  refine w_some (A := Ap) (by (repeat first | exact .hd | apply Sel.tl | apply In.tl)) hpos fun gp hAp => ?_
  subst hAp
  refine w_loopK [0, 6] rfl (fun x : Nat × List Us × Option Nat × Nat => [(5, sl x.2.2.1 x.2.1.length x.2.2.2), (7, .int .i64 (x.1 : Int))]) (fun x => [.own x.2.2.1 68 6 x.2.1.length x.2.2.2 (x.2.1.flatMap encU), .own (some gp) 3 1 L.length cp (intsI (parH Hi))])
    (fun x => x.1 ≤ L.length ∧ usesF L = x.2.1 ++ usesFrom (L.drop x.1) x.1) (fun x => L.length - x.1) (0, [], none, 0) ⟨by omega, rfl⟩ (by (repeat (first | exact Sub.nil _ | refine Sub.cons rfl ?_))) (by (repeat (first | exact MSub.nil _ | refine MSub.pick (by (repeat first | exact .hd | apply Sel.tl | apply In.tl)) ?_ | exact MSub.refl _ | refine MSub.drop .hd ?_))) ?_
  rintro ⟨i, pre, A, cap⟩ ⟨hi, hus⟩
  dsimp only at hi hus ⊢
  by_cases hlt : i < L.length
  · have he := hrl.elem encN_len i hlt
    obtain ⟨u, hu, hu1, hu2, hu3⟩ := parent_use hW hlt
    rw [List.drop_eq_getElem_cons hlt, usesFrom] at hus
    generalize L[i] = n at he hus
    have hcell : (intsI (parH Hi))[0 + i * 1]? = some (.int .i64 u) := by rw [Nat.zero_add, Nat.mul_one]; exact intsI_get hu
    by_cases hq : n.kind = 2 ∨ n.kind = 3
    rotate_left
    · have hrf : rangesF n = false := by simp only [rangesF, Bool.or_eq_false_iff, decide_eq_false_iff_not]; omega
      rw [hrf, cond_false] at hus
      repeat' (first
        | ((with_reducible apply wl_v); exact rfl; (first | ((with_reducible apply vop_ok); exact rfl) | ((with_reducible apply v_fieldAddr); exact rfl) | ((with_reducible apply v_len); exact rfl) | ((with_reducible apply v_lens); exact rfl) | ((with_reducible apply v_load_box); exact rfl; (repeat first | exact .hd | apply Sel.tl | apply In.tl); exact rfl) | ((with_reducible apply v_eqlb); exact rfl; exact rfl) | ((with_reducible apply v_neqb); exact rfl; exact rfl) | ((with_reducible apply v_loadw_box); exact rfl; (repeat first | exact .hd | apply Sel.tl | apply In.tl); exact rfl) | ((with_reducible apply v_loadn_box); exact rfl; (repeat first | exact .hd | apply Sel.tl | apply In.tl); exact rfl; exact rfl) | ((with_reducible apply v_build); exact rfl; exact rfl; exact rfl)))
        | ((with_reducible apply wl_gyes); exact rfl; exact rfl)
        | ((with_reducible apply wl_gno_b); exact rfl; exact rfl; exact rfl; exact rfl)
        | ((with_reducible apply wl_gno_u); exact rfl; exact rfl; exact rfl)
        | ((with_reducible apply wl_alloc); exact rfl; intro _)
        | ((with_reducible apply wl_storen_box); exact rfl; exact rfl; (repeat first | exact .hd | apply Sel.tl | apply In.tl); exact rfl; exact rfl; exact rfl)
        | ((with_reducible apply wl_putn_box); exact rfl; exact rfl; (repeat first | exact .hd | apply Sel.tl | apply In.tl); exact rfl; exact rfl; exact rfl; exact rfl)
        | ((with_reducible apply wl_buildSlice); exact rfl; exact rfl; exact rfl; exact rfl; exact rfl; exact rfl; exact rfl; intro _)
        | ((with_reducible apply wl_gsplit) <;> first | exact rfl | (intro hb; (replace hb := Tidy.out hb; try (exfalso; omega))))
        | (with_reducible first | apply wl_nil | apply thn_n | apply w_seq | apply w_region | apply w_ret | apply w_skip | apply w_exit | apply w_block | apply thn_r | apply thn_e | apply blk_n | apply blk_r | apply blk_e)
        | ((with_reducible apply w_cond_true); exact rfl)
        | ((with_reducible apply w_cond_false); exact rfl)
        | ((with_reducible apply w_cond) <;> first | exact rfl | (intro hb; (replace hb := Tidy.out hb; try (exfalso; omega))))
        | ((with_reducible apply blk_x); exact rfl)
        | ((with_reducible apply wl_v); exact rfl; (with_reducible apply v_succN); exact rfl; exact rfl; (simp only [maxLen] at *; omega))
        | ((with_reducible apply wl_v); exact rfl; (with_reducible apply v_1addN); exact rfl; exact rfl; (simp only [maxLen] at *; omega))
        | ((with_reducible apply wl_v); exact rfl; (with_reducible apply v_addN); exact rfl; exact rfl; (simp only [maxLen] at *; omega))
        | ((with_reducible apply wl_v); exact rfl; (with_reducible apply v_indexAddr); exact rfl; exact rfl; (first | assumption | omega))
        | ((with_reducible apply wl_v); exact rfl; (with_reducible apply v_loadw_ro); exact rfl; assumption; exact rfl)
        | ((with_reducible apply wl_v); exact rfl; (with_reducible apply v_load1_ro); exact rfl; assumption)
        | ((with_reducible apply wl_v); exact rfl; (with_reducible apply v_loadf_ro); exact rfl; assumption; exact rfl))
      refine ⟨(i + 1, pre, A, cap), ?_, (by first | omega | (dsimp only; omega)), (by (repeat (first | exact Sub.nil _ | refine Sub.cons rfl ?_))), (by (repeat (first | exact Sub.nil _ | refine Sub.cons rfl ?_))), (by (repeat (first | exact MSub.nil _ | refine MSub.pick (by (repeat first | exact .hd | apply Sel.tl | apply In.tl)) ?_ | exact MSub.refl _ | refine MSub.drop .hd ?_)))⟩
      exact ⟨hlt, hus⟩
    have hrf : rangesF n = true := by simp only [rangesF, Bool.or_eq_true, decide_eq_true_eq]; exact hq
    rw [hrf, cond_true] at hus
    have hlu := congrArg List.length hus
    simp only [List.length_append, List.length_cons] at hlu
    have none_use : (∀ m, L[i + 1]? = some m → ¬ relN m) → useOf n i (L.drop (i + 1)) = ⟨n.rect, -1, 0⟩ := by
      intro h
      by_cases h1 : i + 1 < L.length
      · rw [List.drop_eq_getElem_cons h1]
        have := h _ (List.getElem?_eq_getElem h1)
        unfold relN at this
        simp only [useOf, if_neg this]
      · rw [List.drop_of_length_le (by omega)]; rfl
    rcases hu1 with hu1 | ⟨j, hu1, hj⟩
    · subst hu1
      rw [none_use (fun m hm hr => by have := hu2 m hm hr; omega)] at hus
      repeat' (first
        | ((with_reducible apply wl_v (d := 45)); exact rfl; (with_reducible apply v_indexAddr); exact rfl; exact rfl; exact hlt)
        | ((with_reducible apply wl_v (d := 46)); exact rfl; (with_reducible apply v_load_own); exact rfl; (repeat first | exact .hd | apply Sel.tl | apply In.tl); exact hcell)
        | ((with_reducible apply wl_v (d := 41)); exact rfl; (with_reducible apply v_loads_ro (off := 4) (ys := encR n.rect) he); exact rfl; exact rfl; exact rfl)
        | ((with_reducible apply wl_append); exact rfl; exact rfl; exact rfl; (repeat first | exact .hd | apply Sel.tl | apply In.tl); (intro w hm; exact hm.cells_own (by (repeat first | exact .hd | apply Sel.tl | apply In.tl))); exact rfl; (simp [Value.oneCell', sl]); omega; (simp only [maxLen]; omega); (intro A2 c2 h2))
        | ((with_reducible apply wl_v); exact rfl; (first | ((with_reducible apply vop_ok); exact rfl) | ((with_reducible apply v_fieldAddr); exact rfl) | ((with_reducible apply v_len); exact rfl) | ((with_reducible apply v_lens); exact rfl) | ((with_reducible apply v_load_box); exact rfl; (repeat first | exact .hd | apply Sel.tl | apply In.tl); exact rfl) | ((with_reducible apply v_eqlb); exact rfl; exact rfl) | ((with_reducible apply v_neqb); exact rfl; exact rfl) | ((with_reducible apply v_loadw_box); exact rfl; (repeat first | exact .hd | apply Sel.tl | apply In.tl); exact rfl) | ((with_reducible apply v_loadn_box); exact rfl; (repeat first | exact .hd | apply Sel.tl | apply In.tl); exact rfl; exact rfl) | ((with_reducible apply v_build); exact rfl; exact rfl; exact rfl)))
        | ((with_reducible apply wl_gyes); exact rfl; exact rfl)
        | ((with_reducible apply wl_gno_b); exact rfl; exact rfl; exact rfl; exact rfl)
        | ((with_reducible apply wl_gno_u); exact rfl; exact rfl; exact rfl)
        | ((with_reducible apply wl_alloc); exact rfl; intro _)
        | ((with_reducible apply wl_storen_box); exact rfl; exact rfl; (repeat first | exact .hd | apply Sel.tl | apply In.tl); exact rfl; exact rfl; exact rfl)
        | ((with_reducible apply wl_putn_box); exact rfl; exact rfl; (repeat first | exact .hd | apply Sel.tl | apply In.tl); exact rfl; exact rfl; exact rfl; exact rfl)
        | ((with_reducible apply wl_buildSlice); exact rfl; exact rfl; exact rfl; exact rfl; exact rfl; exact rfl; exact rfl; intro _)
        | ((with_reducible apply wl_gsplit) <;> first | exact rfl | (intro hb; (replace hb := Tidy.out hb; try (exfalso; omega))))
        | (with_reducible first | apply wl_nil | apply thn_n | apply w_seq | apply w_region | apply w_ret | apply w_skip | apply w_exit | apply w_block | apply thn_r | apply thn_e | apply blk_n | apply blk_r | apply blk_e)
        | ((with_reducible apply w_cond_true); exact rfl)
        | ((with_reducible apply w_cond_false); exact rfl)
        | ((with_reducible apply w_cond) <;> first | exact rfl | (intro hb; (replace hb := Tidy.out hb; try (exfalso; omega))))
        | ((with_reducible apply blk_x); exact rfl)
        | ((with_reducible apply wl_v); exact rfl; (with_reducible apply v_succN); exact rfl; exact rfl; (simp only [maxLen] at *; omega))
        | ((with_reducible apply wl_v); exact rfl; (with_reducible apply v_1addN); exact rfl; exact rfl; (simp only [maxLen] at *; omega))
        | ((with_reducible apply wl_v); exact rfl; (with_reducible apply v_addN); exact rfl; exact rfl; (simp only [maxLen] at *; omega))
        | ((with_reducible apply wl_v); exact rfl; (with_reducible apply v_indexAddr); exact rfl; exact rfl; (first | assumption | omega))
        | ((with_reducible apply wl_v); exact rfl; (with_reducible apply v_loadw_ro); exact rfl; assumption; exact rfl)
        | ((with_reducible apply wl_v); exact rfl; (with_reducible apply v_load1_ro); exact rfl; assumption)
        | ((with_reducible apply wl_v); exact rfl; (with_reducible apply v_loadf_ro); exact rfl; assumption; exact rfl))
      all_goals
        refine ⟨(i + 1, pre ++ [⟨n.rect, -1, 0⟩], A2, c2), ⟨hlt, by rw [hus, List.append_assoc]; rfl⟩, (by dsimp only; omega), ?_, ?_, ?_⟩
        · dsimp only
          rw [List.length_append]
          (repeat (first | exact Sub.nil _ | refine Sub.cons rfl ?_))
        · (repeat (first | exact Sub.nil _ | refine Sub.cons rfl ?_))
        · dsimp only
          rw [flat_snoc, List.length_append]
          (repeat (first | exact MSub.nil _ | refine MSub.pick (by (repeat first | exact .hd | apply Sel.tl | apply In.tl)) ?_ | exact MSub.refl _ | refine MSub.drop .hd ?_))
    · subst hu1
      have hj1 := hrl.elem encN_len j hj
      have hjg := List.getElem?_eq_getElem hj
      have hu3' := hu3 j _ rfl hjg
      generalize L[j] = m at hj1 hjg hu3'
      by_cases hrel : relN m
      · obtain rfl := hu3' hrel
        have hr2 : m.kind = 7 ∧ 46 ≤ m.fn := hrel
        have hdr : L.drop (i + 1) = m :: L.drop (i + 1 + 1) := by
          rw [List.drop_eq_getElem_cons hj]
          rw [List.getElem?_eq_getElem hj] at hjg
          rw [Option.some.inj hjg]
        have huo : useOf n i (L.drop (i + 1)) = ⟨n.rect, ((i + 1 : Nat) : Int), m.fn⟩ := by rw [hdr]; simp only [useOf, if_pos hr2]
        rw [huo] at hus
        repeat' (first
          | ((with_reducible apply wl_v (d := 45)); exact rfl; (with_reducible apply v_indexAddr); exact rfl; exact rfl; exact hlt)
          | ((with_reducible apply wl_v (d := 46)); exact rfl; (with_reducible apply v_load_own); exact rfl; (repeat first | exact .hd | apply Sel.tl | apply In.tl); exact hcell)
          | ((with_reducible apply wl_v (d := 41)); exact rfl; (with_reducible apply v_loads_ro (off := 4) (ys := encR n.rect) he); exact rfl; exact rfl; exact rfl)
          | ((with_reducible apply wl_append); exact rfl; exact rfl; exact rfl; (repeat first | exact .hd | apply Sel.tl | apply In.tl); (intro w hm; exact hm.cells_own (by (repeat first | exact .hd | apply Sel.tl | apply In.tl))); exact rfl; (simp [Value.oneCell', sl]); omega; (simp only [maxLen]; omega); (intro A2 c2 h2))
          | ((with_reducible apply w_drawB (id := 13) (T := 68) (fun D => [.int .i64 n.rect.c1, .int .i64 n.rect.r1, .int .i64 n.rect.c2, .int .i64 n.rect.r2, .int .i64 (bif D 7 then ((i + 1 : Nat) : Int) else -1), .int .u8 (bif D 9 then m.fn else 0)]) (xs' := [.int .i64 n.rect.c1, .int .i64 n.rect.r1, .int .i64 n.rect.c2, .int .i64 n.rect.r2, .int .i64 ((i + 1 : Nat) : Int), .int .u8 m.fn])); kernel_rfl; kernel_rfl; exact .hd; exact rfl; (intro D hD; simp only [hD 7 (by decide), hD 9 (by decide), cond_true]))
          | ((with_reducible apply wg_v); exact rfl; (intro D ht; first | ((with_reducible apply v_indexAddr); exact rfl; exact rfl; (first | assumption | omega)) | ((with_reducible apply v_loadf_ro); exact rfl; assumption; exact rfl)); exact fun _ => rfl)
          | ((with_reducible apply wl_v); exact rfl; (first | ((with_reducible apply vop_ok); exact rfl) | ((with_reducible apply v_fieldAddr); exact rfl) | ((with_reducible apply v_len); exact rfl) | ((with_reducible apply v_lens); exact rfl) | ((with_reducible apply v_load_box); exact rfl; (repeat first | exact .hd | apply Sel.tl | apply In.tl); exact rfl) | ((with_reducible apply v_eqlb); exact rfl; exact rfl) | ((with_reducible apply v_neqb); exact rfl; exact rfl) | ((with_reducible apply v_loadw_box); exact rfl; (repeat first | exact .hd | apply Sel.tl | apply In.tl); exact rfl) | ((with_reducible apply v_loadn_box); exact rfl; (repeat first | exact .hd | apply Sel.tl | apply In.tl); exact rfl; exact rfl) | ((with_reducible apply v_build); exact rfl; exact rfl; exact rfl)))
          | ((with_reducible apply wl_gyes); exact rfl; exact rfl)
          | ((with_reducible apply wl_gno_b); exact rfl; exact rfl; exact rfl; exact rfl)
          | ((with_reducible apply wl_gno_u); exact rfl; exact rfl; exact rfl)
          | ((with_reducible apply wl_alloc); exact rfl; intro _)
          | ((with_reducible apply wl_storen_box); exact rfl; exact rfl; (repeat first | exact .hd | apply Sel.tl | apply In.tl); exact rfl; exact rfl; exact rfl)
          | ((with_reducible apply wl_putn_box); exact rfl; exact rfl; (repeat first | exact .hd | apply Sel.tl | apply In.tl); exact rfl; exact rfl; exact rfl; exact rfl)
          | ((with_reducible apply wl_buildSlice); exact rfl; exact rfl; exact rfl; exact rfl; exact rfl; exact rfl; exact rfl; intro _)
          | ((with_reducible apply wl_gsplit) <;> first | exact rfl | (intro hb; (replace hb := Tidy.out hb; try (exfalso; omega))))
          | (with_reducible first | apply wl_nil | apply thn_n | apply w_seq | apply w_region | apply w_ret | apply w_skip | apply w_exit | apply w_block | apply thn_r | apply thn_e | apply blk_n | apply blk_r | apply blk_e | apply wg_nil)
          | ((with_reducible apply w_cond_true); exact rfl)
          | ((with_reducible apply w_cond_false); exact rfl)
          | ((with_reducible apply w_cond) <;> first | exact rfl | (intro hb; (replace hb := Tidy.out hb; try (exfalso; omega))))
          | ((with_reducible apply blk_x); exact rfl)
          | ((with_reducible apply wl_v); exact rfl; (with_reducible apply v_succN); exact rfl; exact rfl; (simp only [maxLen] at *; omega))
          | ((with_reducible apply wl_v); exact rfl; (with_reducible apply v_1addN); exact rfl; exact rfl; (simp only [maxLen] at *; omega))
          | ((with_reducible apply wl_v); exact rfl; (with_reducible apply v_addN); exact rfl; exact rfl; (simp only [maxLen] at *; omega))
          | ((with_reducible apply wl_v); exact rfl; (with_reducible apply v_indexAddr); exact rfl; exact rfl; (first | assumption | omega))
          | ((with_reducible apply wl_v); exact rfl; (with_reducible apply v_loadw_ro); exact rfl; assumption; exact rfl)
          | ((with_reducible apply wl_v); exact rfl; (with_reducible apply v_load1_ro); exact rfl; assumption)
          | ((with_reducible apply wl_v); exact rfl; (with_reducible apply v_loadf_ro); exact rfl; assumption; exact rfl)
          | ((with_reducible apply wg_v); exact rfl; (intro D ht; (first | ((with_reducible apply vop_ok); exact rfl) | ((with_reducible apply v_fieldAddr); exact rfl) | ((with_reducible apply v_len); exact rfl) | ((with_reducible apply v_lens); exact rfl) | ((with_reducible apply v_load_box); exact rfl; (repeat first | exact .hd | apply Sel.tl | apply In.tl); exact rfl) | ((with_reducible apply v_eqlb); exact rfl; exact rfl) | ((with_reducible apply v_neqb); exact rfl; exact rfl) | ((with_reducible apply v_loadw_box); exact rfl; (repeat first | exact .hd | apply Sel.tl | apply In.tl); exact rfl) | ((with_reducible apply v_loadn_box); exact rfl; (repeat first | exact .hd | apply Sel.tl | apply In.tl); exact rfl; exact rfl) | ((with_reducible apply v_build); exact rfl; exact rfl; exact rfl))); exact fun _ => rfl)
          | (refine wg_put _ _ rfl rfl (fun D => .hd) rfl rfl rfl (fun _ => Nat.le_of_ble_eq_true rfl) (fun D ht => .refl _) ?_)
          | ((with_reducible apply wg_l (f := 60)); exact rfl; decide +kernel; exact rfl; (first | ((with_reducible apply vop_ok); exact rfl) | ((with_reducible apply v_fieldAddr); exact rfl) | ((with_reducible apply v_len); exact rfl) | ((with_reducible apply v_lens); exact rfl) | ((with_reducible apply v_load_box); exact rfl; (repeat first | exact .hd | apply Sel.tl | apply In.tl); exact rfl) | ((with_reducible apply v_eqlb); exact rfl; exact rfl) | ((with_reducible apply v_neqb); exact rfl; exact rfl) | ((with_reducible apply v_loadw_box); exact rfl; (repeat first | exact .hd | apply Sel.tl | apply In.tl); exact rfl) | ((with_reducible apply v_loadn_box); exact rfl; (repeat first | exact .hd | apply Sel.tl | apply In.tl); exact rfl; exact rfl) | ((with_reducible apply v_build); exact rfl; exact rfl; exact rfl))))
        all_goals
          refine ⟨(i + 1, pre ++ [⟨n.rect, ((i + 1 : Nat) : Int), m.fn⟩], A2, c2), ⟨hlt, by rw [hus, List.append_assoc]; rfl⟩, (by dsimp only; omega), ?_, ?_, ?_⟩
          · dsimp only
            rw [List.length_append]
            (repeat (first | exact Sub.nil _ | refine Sub.cons rfl ?_))
          · (repeat (first | exact Sub.nil _ | refine Sub.cons rfl ?_))
          · dsimp only
            rw [flat_snoc, List.length_append]
            (repeat (first | exact MSub.nil _ | refine MSub.pick (by (repeat first | exact .hd | apply Sel.tl | apply In.tl)) ?_ | exact MSub.refl _ | refine MSub.drop .hd ?_))

      · have hr2 : ¬ (m.kind = 7 ∧ 46 ≤ m.fn) := hrel
        rw [none_use (fun m' hm hr => by
          have h1 := hu2 m' hm hr
          have h2 : j = i + 1 := by omega
          subst h2
          rw [hjg] at hm
          obtain rfl := Option.some.inj hm
          exact hrel hr)] at hus
        repeat' (first
          | ((with_reducible apply wl_v (d := 45)); exact rfl; (with_reducible apply v_indexAddr); exact rfl; exact rfl; exact hlt)
          | ((with_reducible apply wl_v (d := 46)); exact rfl; (with_reducible apply v_load_own); exact rfl; (repeat first | exact .hd | apply Sel.tl | apply In.tl); exact hcell)
          | ((with_reducible apply wl_v (d := 41)); exact rfl; (with_reducible apply v_loads_ro (off := 4) (ys := encR n.rect) he); exact rfl; exact rfl; exact rfl)
          | ((with_reducible apply wl_append); exact rfl; exact rfl; exact rfl; (repeat first | exact .hd | apply Sel.tl | apply In.tl); (intro w hm; exact hm.cells_own (by (repeat first | exact .hd | apply Sel.tl | apply In.tl))); exact rfl; (simp [Value.oneCell', sl]); omega; (simp only [maxLen]; omega); (intro A2 c2 h2))
          | ((with_reducible apply wl_v); exact rfl; (first | ((with_reducible apply vop_ok); exact rfl) | ((with_reducible apply v_fieldAddr); exact rfl) | ((with_reducible apply v_len); exact rfl) | ((with_reducible apply v_lens); exact rfl) | ((with_reducible apply v_load_box); exact rfl; (repeat first | exact .hd | apply Sel.tl | apply In.tl); exact rfl) | ((with_reducible apply v_eqlb); exact rfl; exact rfl) | ((with_reducible apply v_neqb); exact rfl; exact rfl) | ((with_reducible apply v_loadw_box); exact rfl; (repeat first | exact .hd | apply Sel.tl | apply In.tl); exact rfl) | ((with_reducible apply v_loadn_box); exact rfl; (repeat first | exact .hd | apply Sel.tl | apply In.tl); exact rfl; exact rfl) | ((with_reducible apply v_build); exact rfl; exact rfl; exact rfl)))
          | ((with_reducible apply wl_gyes); exact rfl; exact rfl)
          | ((with_reducible apply wl_gno_b); exact rfl; exact rfl; exact rfl; exact rfl)
          | ((with_reducible apply wl_gno_u); exact rfl; exact rfl; exact rfl)
          | ((with_reducible apply wl_alloc); exact rfl; intro _)
          | ((with_reducible apply wl_storen_box); exact rfl; exact rfl; (repeat first | exact .hd | apply Sel.tl | apply In.tl); exact rfl; exact rfl; exact rfl)
          | ((with_reducible apply wl_putn_box); exact rfl; exact rfl; (repeat first | exact .hd | apply Sel.tl | apply In.tl); exact rfl; exact rfl; exact rfl; exact rfl)
          | ((with_reducible apply wl_buildSlice); exact rfl; exact rfl; exact rfl; exact rfl; exact rfl; exact rfl; exact rfl; intro _)
          | ((with_reducible apply wl_gsplit) <;> first | exact rfl | (intro hb; (replace hb := Tidy.out hb; try (exfalso; omega))))
          | (with_reducible first | apply wl_nil | apply thn_n | apply w_seq | apply w_region | apply w_ret | apply w_skip | apply w_exit | apply w_block | apply thn_r | apply thn_e | apply blk_n | apply blk_r | apply blk_e)
          | ((with_reducible apply w_cond_true); exact rfl)
          | ((with_reducible apply w_cond_false); exact rfl)
          | ((with_reducible apply w_cond) <;> first | exact rfl | (intro hb; (replace hb := Tidy.out hb; try (exfalso; omega))))
          | ((with_reducible apply blk_x); exact rfl)
          | ((with_reducible apply wl_v); exact rfl; (with_reducible apply v_succN); exact rfl; exact rfl; (simp only [maxLen] at *; omega))
          | ((with_reducible apply wl_v); exact rfl; (with_reducible apply v_1addN); exact rfl; exact rfl; (simp only [maxLen] at *; omega))
          | ((with_reducible apply wl_v); exact rfl; (with_reducible apply v_addN); exact rfl; exact rfl; (simp only [maxLen] at *; omega))
          | ((with_reducible apply wl_v); exact rfl; (with_reducible apply v_indexAddr); exact rfl; exact rfl; (first | assumption | omega))
          | ((with_reducible apply wl_v); exact rfl; (with_reducible apply v_loadw_ro); exact rfl; assumption; exact rfl)
          | ((with_reducible apply wl_v); exact rfl; (with_reducible apply v_load1_ro); exact rfl; assumption)
          | ((with_reducible apply wl_v); exact rfl; (with_reducible apply v_loadf_ro); exact rfl; assumption; exact rfl))
        all_goals
          refine ⟨(i + 1, pre ++ [⟨n.rect, -1, 0⟩], A2, c2), ⟨hlt, by rw [hus, List.append_assoc]; rfl⟩, (by dsimp only; omega), ?_, ?_, ?_⟩
          · dsimp only
            rw [List.length_append]
            (repeat (first | exact Sub.nil _ | refine Sub.cons rfl ?_))
          · (repeat (first | exact Sub.nil _ | refine Sub.cons rfl ?_))
          · dsimp only
            rw [flat_snoc, List.length_append]
            (repeat (first | exact MSub.nil _ | refine MSub.pick (by (repeat first | exact .hd | apply Sel.tl | apply In.tl)) ?_ | exact MSub.refl _ | refine MSub.drop .hd ?_))

  · have e : i = L.length := by omega
    subst e
    rw [List.drop_length, usesFrom, List.append_nil] at hus
    rw [hus]
    repeat' (first
      | ((with_reducible apply wl_v); exact rfl; (first | ((with_reducible apply vop_ok); exact rfl) | ((with_reducible apply v_fieldAddr); exact rfl) | ((with_reducible apply v_len); exact rfl) | ((with_reducible apply v_lens); exact rfl) | ((with_reducible apply v_load_box); exact rfl; (repeat first | exact .hd | apply Sel.tl | apply In.tl); exact rfl) | ((with_reducible apply v_eqlb); exact rfl; exact rfl) | ((with_reducible apply v_neqb); exact rfl; exact rfl) | ((with_reducible apply v_loadw_box); exact rfl; (repeat first | exact .hd | apply Sel.tl | apply In.tl); exact rfl) | ((with_reducible apply v_loadn_box); exact rfl; (repeat first | exact .hd | apply Sel.tl | apply In.tl); exact rfl; exact rfl) | ((with_reducible apply v_build); exact rfl; exact rfl; exact rfl)))
      | ((with_reducible apply wl_gyes); exact rfl; exact rfl)
      | ((with_reducible apply wl_gno_b); exact rfl; exact rfl; exact rfl; exact rfl)
      | ((with_reducible apply wl_gno_u); exact rfl; exact rfl; exact rfl)
      | ((with_reducible apply wl_alloc); exact rfl; intro _)
      | ((with_reducible apply wl_storen_box); exact rfl; exact rfl; (repeat first | exact .hd | apply Sel.tl | apply In.tl); exact rfl; exact rfl; exact rfl)
      | ((with_reducible apply wl_putn_box); exact rfl; exact rfl; (repeat first | exact .hd | apply Sel.tl | apply In.tl); exact rfl; exact rfl; exact rfl; exact rfl)
      | ((with_reducible apply wl_buildSlice); exact rfl; exact rfl; exact rfl; exact rfl; exact rfl; exact rfl; exact rfl; intro _)
      | ((with_reducible apply wl_gsplit) <;> first | exact rfl | (intro hb; (replace hb := Tidy.out hb; try (exfalso; omega))))
      | (with_reducible first | apply wl_nil | apply thn_n | apply w_seq | apply w_region | apply w_ret | apply w_skip | apply w_exit | apply w_block | apply thn_r | apply thn_e | apply blk_n | apply blk_r | apply blk_e)
      | ((with_reducible apply w_cond_true); exact rfl)
      | ((with_reducible apply w_cond_false); exact rfl)
      | ((with_reducible apply w_cond) <;> first | exact rfl | (intro hb; (replace hb := Tidy.out hb; try (exfalso; omega))))
      | ((with_reducible apply blk_x); exact rfl))
    exact ret2 (.inl rfl) Try.results41 rfl rfl (H' := [.own A 68 6 pre.length cap (pre.flatMap encU)]) (by (repeat (first | exact MSub.nil _ | refine MSub.pick (by (repeat first | exact .hd | apply Sel.tl | apply In.tl)) ?_ | exact MSub.refl _ | refine MSub.drop .hd ?_))) ⟨A, cap, rfl, rfl⟩
end Go.SL

/-
  The reference's Calls, Meet and Touches return what the program's return.
-/
namespace Go.SL
open Go Go.Proofs
attribute [local irreducible] W WL WQ WG WA WX VOp thn blk cutP retP FnAt FnIn Held

set_option maxRecDepth 20000 in
theorem refMeet_at (a b : Rct) (w : World) : Pure Try.prog 70 [.agg (encR a).toArray, .agg (encR b).toArray] w (.tuple #[.agg (encR (meetR a b).1).toArray, .bool (meetR a b).2]) := by
  refine fn_at Try.func70 rfl Try.ntmps70 rfl ?_
  have h1 := fun w => refRect_at a w
  have h2 := fun w => refRect_at b w
  have h3 := fun w => refRect_at (meetM a b) w
  unfold meetR
  have hall : [a, b, meetM a b].all rectOk = (rectOk a && (rectOk b && rectOk (meetM a b))) := by simp
  rw [hall]
  unfold rectE at h1 h2 h3
  generalize rectOk a = q1 at *
  generalize rectOk b = q2 at *
  generalize rectOk (meetM a b) = q3 at *
  cases q1 <;> cases q2 <;> cases q3
  all_goals
    dsimp only [cond_true, cond_false] at h1 h2 h3
    repeat' (first
      | ((with_reducible apply wl_callp); exact rfl; exact rfl; (intro w hm; exact h1 w))
      | ((with_reducible apply wl_callp); exact rfl; exact rfl; (intro w hm; exact h2 w))
      | ((with_reducible apply wl_callp); exact rfl; exact rfl; (intro w hm; exact h3 w))
      | ((with_reducible apply wl_v); exact rfl; (first | ((with_reducible apply vop_ok); exact rfl) | ((with_reducible apply v_fieldAddr); exact rfl) | ((with_reducible apply v_load_box); exact rfl; (repeat first | exact .hd | apply Sel.tl | apply In.tl); exact rfl) | ((with_reducible apply v_eqlb); exact rfl; exact rfl) | ((with_reducible apply v_neqb); exact rfl; exact rfl) | ((with_reducible apply v_max); exact rfl; exact rfl) | ((with_reducible apply v_min); exact rfl; exact rfl) | ((with_reducible apply v_loadw_box); exact rfl; (repeat first | exact .hd | apply Sel.tl | apply In.tl); exact rfl) | ((with_reducible apply v_loadn_box); exact rfl; (repeat first | exact .hd | apply Sel.tl | apply In.tl); exact rfl; exact rfl) | ((with_reducible apply v_build); exact rfl; exact rfl; exact rfl)))
      | ((with_reducible apply wl_gyes); exact rfl; exact rfl)
      | ((with_reducible apply wl_gno_b); exact rfl; exact rfl; exact rfl; exact rfl)
      | ((with_reducible apply wl_gno_u); exact rfl; exact rfl; exact rfl)
      | ((with_reducible apply wl_boxs); exact rfl; exact rfl; intro _)
      | ((with_reducible apply wl_box1); exact rfl; exact rfl; exact rfl; intro _)
      | ((with_reducible apply wl_alloc); exact rfl; intro _)
      | ((with_reducible apply wl_storen_box); exact rfl; exact rfl; (repeat first | exact .hd | apply Sel.tl | apply In.tl); exact rfl; exact rfl; exact rfl)
      | ((with_reducible apply wl_putn_box); exact rfl; exact rfl; (repeat first | exact .hd | apply Sel.tl | apply In.tl); exact rfl; exact rfl; exact rfl; exact rfl)
      | ((with_reducible apply wl_gsplit) <;> first | exact rfl | (intro hb; (replace hb := Tidy.out hb; try (exfalso; omega))))
      | (with_reducible first | apply wl_nil | apply thn_n | apply w_seq | apply w_region | apply w_ret | apply w_skip | apply w_exit | apply w_block | apply thn_r | apply thn_e | apply blk_n | apply blk_r | apply blk_e)
      | ((with_reducible apply w_cond_true); exact rfl)
      | ((with_reducible apply w_cond_false); exact rfl)
      | ((with_reducible apply w_cond) <;> first | exact rfl | (intro hb; (replace hb := Tidy.out hb; try (exfalso; omega))))
      | ((with_reducible apply blk_x); exact rfl))
    refine retct (.inl rfl) Try.results70 rfl (by (repeat first | exact .hd | apply Sel.tl | apply In.tl)) rfl rfl (MSub.nil _) ?_
    rfl

theorem callsE_eq (L : List Nd) : callsE L = ((usesE L).1.filter rel, (usesE L).2) := by
  unfold callsE usesE
  split <;> rfl

set_option maxRecDepth 20000 in
set_option maxHeartbeats 4000000 in
theorem refCalls_at (L : List Nd) (hwf : ∀ n ∈ L, wfN n) (hlen : L.length ≤ 300) (tv : Value) (w : World) (ht : Reads w tv L.length (L.flatMap encN)) :
    FnAt Try.prog 43 [tv] w fun v H => ∃ A cap, v = .tuple #[sl A (callsE L).1.length cap, .int .i64 (callsE L).2] ∧ H = [.own A 68 6 (callsE L).1.length cap ((callsE L).1.flatMap encU)] := by
  have ht' := ht
  obtain ⟨Al, cl, rfl, hl1, hl2, hl3⟩ := ht
  refine fn_at Try.func43 rfl Try.ntmps43 rfl ?_
  refine w_nilrow 68 6 ?_
  have hus := fun w0 (hm : Reads w0 (.slice Al L.length cl) L.length (L.flatMap encN)) => refUses_at L hwf _ w0 hm
  rw [callsE_eq]
  have hul : (usesE L).1.length ≤ 300 := by
    unfold usesE
    split
    · simp
    · exact Nat.le_trans (usesF_len L) hlen
  generalize usesE L = Y at *
  obtain ⟨Y, e⟩ := Y
  dsimp only at hus hul ⊢
  repeat' (first
    | ((with_reducible apply wl_call (f := 41)); exact rfl; exact rfl; (intro w' hm; exact hus w' (ht'.of_w0 hm)); (rintro v H' ⟨A1, cap1, rfl, rfl⟩))
    | ((with_reducible apply wl_v); exact rfl; (first | ((with_reducible apply vop_ok); exact rfl) | ((with_reducible apply v_fieldAddr); exact rfl) | ((with_reducible apply v_len); exact rfl) | ((with_reducible apply v_lens); exact rfl) | ((with_reducible apply v_load_box); exact rfl; (repeat first | exact .hd | apply Sel.tl | apply In.tl); exact rfl) | ((with_reducible apply v_loadw_box); exact rfl; (repeat first | exact .hd | apply Sel.tl | apply In.tl); exact rfl) | ((with_reducible apply v_loadn_box); exact rfl; (repeat first | exact .hd | apply Sel.tl | apply In.tl); exact rfl; exact rfl)))
    | ((with_reducible apply wl_buildSlice); exact rfl; exact rfl; exact rfl; exact rfl; exact rfl; exact rfl; exact rfl; intro _)
    | (with_reducible first | apply wl_nil | apply thn_n | apply w_seq | apply w_region | apply w_ret | apply w_skip | apply w_exit | apply w_block | apply thn_r | apply thn_e | apply blk_n | apply blk_r | apply blk_e)
    | ((with_reducible apply w_cond_true); exact rfl)
    | ((with_reducible apply w_cond_false); exact rfl)
    | ((with_reducible apply w_cond) <;> first | exact rfl | (intro hb; (replace hb := Tidy.out hb; try (exfalso; omega))))
    | ((with_reducible apply blk_x); exact rfl))
  refine w_loopK [4, 5] rfl (fun x : Nat × Option Nat × Nat => [(6, sl x.2.1 ((Y.take x.1).filter rel).length x.2.2), (7, .int .i64 (x.1 : Int))]) (fun x => [.own x.2.1 68 6 ((Y.take x.1).filter rel).length x.2.2 (((Y.take x.1).filter rel).flatMap encU), .own A1 68 6 Y.length cap1 (Y.flatMap encU)])
    (fun x => x.1 ≤ Y.length) (fun x => Y.length - x.1) (0, none, 0) (Nat.zero_le _) (by (repeat (first | exact Sub.nil _ | refine Sub.cons rfl ?_))) (by (repeat (first | exact MSub.nil _ | refine MSub.pick (by (repeat first | exact .hd | apply Sel.tl | apply In.tl)) ?_ | exact MSub.refl _ | refine MSub.drop .hd ?_))) ?_
  rintro ⟨i, A, cap⟩ hi
  dsimp only at hi ⊢
  by_cases hlt : i < Y.length
  · refine w_some (A := A1) (by (repeat first | exact .hd | apply Sel.tl | apply In.tl)) (by omega) fun g1 hA1 => ?_
    subst hA1
    have hget := List.getElem?_eq_getElem hlt
    have hsn : (Y.take (i + 1)).filter rel = if 0 ≤ (Y[i]).node then (Y.take i).filter rel ++ [Y[i]] else (Y.take i).filter rel := by
      rw [List.take_succ_eq_append_getElem hlt, List.filter_append]
      by_cases h : 0 ≤ (Y[i]).node <;> simp [List.filter, rel, h]
    have hfl : ((Y.take i).filter rel).length ≤ i := Nat.le_trans (List.length_filter_le _ _) (by simp; omega)
    generalize Y[i] = u at hget hsn
    generalize hpf : (Y.take i).filter rel = pf at hsn hfl
    repeat' (first
      | ((with_reducible apply wl_v); exact rfl; (with_reducible apply v_indexAddr); exact rfl; exact rfl; exact hlt)
      | ((with_reducible apply wl_v (d := 23)); exact rfl; (with_reducible apply v_loadc_own); exact encU_len; exact rfl; (repeat first | exact .hd | apply Sel.tl | apply In.tl); decide; exact hget; exact rfl)
      | ((with_reducible apply wl_v (d := 29)); exact rfl; (with_reducible apply v_loadi_own); exact encU_len; exact rfl; (repeat first | exact .hd | apply Sel.tl | apply In.tl); exact hget)
      | ((with_reducible apply wl_append); exact rfl; exact rfl; exact rfl; (repeat first | exact .hd | apply Sel.tl | apply In.tl); (intro w hm; exact hm.cells_own (by (repeat first | exact .hd | apply Sel.tl | apply In.tl))); exact rfl; (simp [Value.oneCell', sl]); omega; (simp only [maxLen]; omega); (intro A2 c2 h2))
      | ((with_reducible apply wl_v); exact rfl; (first | ((with_reducible apply vop_ok); exact rfl) | ((with_reducible apply v_fieldAddr); exact rfl) | ((with_reducible apply v_len); exact rfl) | ((with_reducible apply v_lens); exact rfl) | ((with_reducible apply v_load_box); exact rfl; (repeat first | exact .hd | apply Sel.tl | apply In.tl); exact rfl) | ((with_reducible apply v_loadw_box); exact rfl; (repeat first | exact .hd | apply Sel.tl | apply In.tl); exact rfl) | ((with_reducible apply v_loadn_box); exact rfl; (repeat first | exact .hd | apply Sel.tl | apply In.tl); exact rfl; exact rfl)))
      | ((with_reducible apply wl_buildSlice); exact rfl; exact rfl; exact rfl; exact rfl; exact rfl; exact rfl; exact rfl; intro _)
      | (with_reducible first | apply wl_nil | apply thn_n | apply w_seq | apply w_region | apply w_ret | apply w_skip | apply w_exit | apply w_block | apply thn_r | apply thn_e | apply blk_n | apply blk_r | apply blk_e)
      | ((with_reducible apply w_cond_true); exact rfl)
      | ((with_reducible apply w_cond_false); exact rfl)
      | ((with_reducible apply w_cond) <;> first | exact rfl | (intro hb; (replace hb := Tidy.out hb; try (exfalso; omega))))
      | ((with_reducible apply blk_x); exact rfl)
      | ((with_reducible apply wl_v); exact rfl; (with_reducible apply v_succN); exact rfl; exact rfl; (simp only [maxLen] at *; omega))
      | ((with_reducible apply wl_v); exact rfl; (with_reducible apply v_1addN); exact rfl; exact rfl; (simp only [maxLen] at *; omega))
      | ((with_reducible apply wl_v); exact rfl; (with_reducible apply v_addN); exact rfl; exact rfl; (simp only [maxLen] at *; omega)))
    · rw [if_pos hb] at hsn
      refine ⟨(i + 1, A2, c2), hlt, (by dsimp only; omega), ?_, ?_, ?_⟩
      · dsimp only
        rw [hsn, List.length_append]
        (repeat (first | exact Sub.nil _ | refine Sub.cons rfl ?_))
      · (repeat (first | exact Sub.nil _ | refine Sub.cons rfl ?_))
      · dsimp only
        rw [hsn, flat_snoc, List.length_append]
        (repeat (first | exact MSub.nil _ | refine MSub.pick (by (repeat first | exact .hd | apply Sel.tl | apply In.tl)) ?_ | exact MSub.refl _ | refine MSub.drop .hd ?_))
    · rw [if_neg (by omega)] at hsn
      refine ⟨(i + 1, A, cap), hlt, (by dsimp only; omega), ?_, ?_, ?_⟩
      · dsimp only
        rw [hsn]
        (repeat (first | exact Sub.nil _ | refine Sub.cons rfl ?_))
      · (repeat (first | exact Sub.nil _ | refine Sub.cons rfl ?_))
      · dsimp only
        rw [hsn]
        (repeat (first | exact MSub.nil _ | refine MSub.pick (by (repeat first | exact .hd | apply Sel.tl | apply In.tl)) ?_ | exact MSub.refl _ | refine MSub.drop .hd ?_))
  · have e : i = Y.length := by omega
    subst e
    rw [List.take_length]
    repeat' (first
      | ((with_reducible apply wl_v); exact rfl; (first | ((with_reducible apply vop_ok); exact rfl) | ((with_reducible apply v_fieldAddr); exact rfl) | ((with_reducible apply v_len); exact rfl) | ((with_reducible apply v_lens); exact rfl) | ((with_reducible apply v_load_box); exact rfl; (repeat first | exact .hd | apply Sel.tl | apply In.tl); exact rfl) | ((with_reducible apply v_loadw_box); exact rfl; (repeat first | exact .hd | apply Sel.tl | apply In.tl); exact rfl) | ((with_reducible apply v_loadn_box); exact rfl; (repeat first | exact .hd | apply Sel.tl | apply In.tl); exact rfl; exact rfl)))
      | ((with_reducible apply wl_buildSlice); exact rfl; exact rfl; exact rfl; exact rfl; exact rfl; exact rfl; exact rfl; intro _)
      | (with_reducible first | apply wl_nil | apply thn_n | apply w_seq | apply w_region | apply w_ret | apply w_skip | apply w_exit | apply w_block | apply thn_r | apply thn_e | apply blk_n | apply blk_r | apply blk_e)
      | ((with_reducible apply w_cond_true); exact rfl)
      | ((with_reducible apply w_cond_false); exact rfl)
      | ((with_reducible apply w_cond) <;> first | exact rfl | (intro hb; (replace hb := Tidy.out hb; try (exfalso; omega))))
      | ((with_reducible apply blk_x); exact rfl))
    exact ret2 (by first | exact .inl rfl | exact .inr rfl) Try.results43 rfl rfl (H' := [.own A 68 6 (Y.filter rel).length cap ((Y.filter rel).flatMap encU)]) (by (repeat (first | exact MSub.nil _ | refine MSub.pick (by (repeat first | exact .hd | apply Sel.tl | apply In.tl)) ?_ | exact MSub.refl _ | refine MSub.drop .hd ?_))) ⟨A, cap, rfl, rfl⟩

set_option maxRecDepth 20000 in
set_option maxHeartbeats 4000000 in
theorem refTouches_at (L : List Nd) (hwf : ∀ n ∈ L, wfN n) (hlen : L.length ≤ 300) (r : Rct) (tv : Value) (w : World) (ht : Reads w tv L.length (L.flatMap encN)) :
    Pure Try.prog 45 [tv, .agg (encR r).toArray] w (.tuple #[.bool (touchesE L r).1, .int .i64 (touchesE L r).2]) := by
  have ht' := ht
  obtain ⟨Al, cl, rfl, hl1, hl2, hl3⟩ := ht
  refine fn_at Try.func45 rfl Try.ntmps45 rfl ?_
  have hus := fun w0 (hm : Reads w0 (.slice Al L.length cl) L.length (L.flatMap encN)) => refUses_at L hwf _ w0 hm
  have hul := usesF_len L
  have hrc := fun w0 => refRect_at r w0
  unfold usesE at hus
  unfold touchesE
  generalize checkE L = e at *
  generalize rectE r = re at *
  generalize usesF L = U at *
  by_cases he : e = 0
  rotate_left
  · rw [if_pos he] at *
    simp only [if_pos he] at hus
    repeat' (first
      | ((with_reducible apply wl_call (f := 41)); exact rfl; exact rfl; (intro w' hm; exact hus w' (ht'.of_w0 hm)); (rintro v H' ⟨A1, cap1, rfl, rfl⟩))
      | ((with_reducible apply wl_v); exact rfl; (first | ((with_reducible apply vop_ok); exact rfl) | ((with_reducible apply v_fieldAddr); exact rfl) | ((with_reducible apply v_len); exact rfl) | ((with_reducible apply v_lens); exact rfl) | ((with_reducible apply v_load_box); exact rfl; (repeat first | exact .hd | apply Sel.tl | apply In.tl); exact rfl) | ((with_reducible apply v_eqlb); exact rfl; exact rfl) | ((with_reducible apply v_neqb); exact rfl; exact rfl) | ((with_reducible apply v_loadw_box); exact rfl; (repeat first | exact .hd | apply Sel.tl | apply In.tl); exact rfl) | ((with_reducible apply v_loadn_box); exact rfl; (repeat first | exact .hd | apply Sel.tl | apply In.tl); exact rfl; exact rfl)))
      | ((with_reducible apply wl_boxs); exact rfl; exact rfl; intro _)
      | ((with_reducible apply wl_box1); exact rfl; exact rfl; exact rfl; intro _)
      | ((with_reducible apply wl_alloc); exact rfl; intro _)
      | ((with_reducible apply wl_storen_box); exact rfl; exact rfl; (repeat first | exact .hd | apply Sel.tl | apply In.tl); exact rfl; exact rfl; exact rfl)
      | ((with_reducible apply wl_putn_box); exact rfl; exact rfl; (repeat first | exact .hd | apply Sel.tl | apply In.tl); exact rfl; exact rfl; exact rfl; exact rfl)
      | (with_reducible first | apply wl_nil | apply thn_n | apply w_seq | apply w_region | apply w_ret | apply w_skip | apply w_exit | apply w_block | apply thn_r | apply thn_e | apply blk_n | apply blk_r | apply blk_e)
      | ((with_reducible apply w_cond_true); exact rfl)
      | ((with_reducible apply w_cond_false); exact rfl)
      | ((with_reducible apply w_cond) <;> first | exact rfl | (intro hb; (replace hb := Tidy.out hb; try (exfalso; omega))))
      | ((with_reducible apply blk_x); exact rfl))
    ((with_reducible apply ret2); exact .inl rfl; exact rfl; exact rfl; exact rfl; exact MSub.nil _)
    rfl
  rw [if_neg (by omega)]
  simp only [if_neg (show ¬ e ≠ 0 by omega)] at hus
  by_cases hre : re = 0
  rotate_left
  · rw [if_pos hre]
    repeat' (first
      | ((with_reducible apply wl_call (f := 41)); exact rfl; exact rfl; (intro w' hm; exact hus w' (ht'.of_w0 hm)); (rintro v H' ⟨A1, cap1, rfl, rfl⟩))
      | ((with_reducible apply wl_callp); exact rfl; exact rfl; (intro w hm; exact hrc w))
      | ((with_reducible apply wl_v); exact rfl; (first | ((with_reducible apply vop_ok); exact rfl) | ((with_reducible apply v_fieldAddr); exact rfl) | ((with_reducible apply v_len); exact rfl) | ((with_reducible apply v_lens); exact rfl) | ((with_reducible apply v_load_box); exact rfl; (repeat first | exact .hd | apply Sel.tl | apply In.tl); exact rfl) | ((with_reducible apply v_eqlb); exact rfl; exact rfl) | ((with_reducible apply v_neqb); exact rfl; exact rfl) | ((with_reducible apply v_loadw_box); exact rfl; (repeat first | exact .hd | apply Sel.tl | apply In.tl); exact rfl) | ((with_reducible apply v_loadn_box); exact rfl; (repeat first | exact .hd | apply Sel.tl | apply In.tl); exact rfl; exact rfl)))
      | ((with_reducible apply wl_boxs); exact rfl; exact rfl; intro _)
      | ((with_reducible apply wl_box1); exact rfl; exact rfl; exact rfl; intro _)
      | ((with_reducible apply wl_alloc); exact rfl; intro _)
      | ((with_reducible apply wl_storen_box); exact rfl; exact rfl; (repeat first | exact .hd | apply Sel.tl | apply In.tl); exact rfl; exact rfl; exact rfl)
      | ((with_reducible apply wl_putn_box); exact rfl; exact rfl; (repeat first | exact .hd | apply Sel.tl | apply In.tl); exact rfl; exact rfl; exact rfl; exact rfl)
      | (with_reducible first | apply wl_nil | apply thn_n | apply w_seq | apply w_region | apply w_ret | apply w_skip | apply w_exit | apply w_block | apply thn_r | apply thn_e | apply blk_n | apply blk_r | apply blk_e)
      | ((with_reducible apply w_cond_true); exact rfl)
      | ((with_reducible apply w_cond_false); exact rfl)
      | ((with_reducible apply w_cond) <;> first | exact rfl | (intro hb; (replace hb := Tidy.out hb; try (exfalso; omega))))
      | ((with_reducible apply blk_x); exact rfl))
    ((with_reducible apply ret2); exact .inl rfl; exact rfl; exact rfl; exact rfl; exact MSub.nil _)
    rfl
  rw [if_neg (by omega)]
  repeat' (first
    | ((with_reducible apply wl_call (f := 41)); exact rfl; exact rfl; (intro w' hm; exact hus w' (ht'.of_w0 hm)); (rintro v H' ⟨A1, cap1, rfl, rfl⟩))
    | ((with_reducible apply wl_callp); exact rfl; exact rfl; (intro w hm; exact hrc w))
    | ((with_reducible apply wl_v); exact rfl; (first | ((with_reducible apply vop_ok); exact rfl) | ((with_reducible apply v_fieldAddr); exact rfl) | ((with_reducible apply v_len); exact rfl) | ((with_reducible apply v_lens); exact rfl) | ((with_reducible apply v_load_box); exact rfl; (repeat first | exact .hd | apply Sel.tl | apply In.tl); exact rfl) | ((with_reducible apply v_eqlb); exact rfl; exact rfl) | ((with_reducible apply v_neqb); exact rfl; exact rfl) | ((with_reducible apply v_loadw_box); exact rfl; (repeat first | exact .hd | apply Sel.tl | apply In.tl); exact rfl) | ((with_reducible apply v_loadn_box); exact rfl; (repeat first | exact .hd | apply Sel.tl | apply In.tl); exact rfl; exact rfl)))
    | ((with_reducible apply wl_boxs); exact rfl; exact rfl; intro _)
    | ((with_reducible apply wl_box1); exact rfl; exact rfl; exact rfl; intro _)
    | ((with_reducible apply wl_alloc); exact rfl; intro _)
    | ((with_reducible apply wl_storen_box); exact rfl; exact rfl; (repeat first | exact .hd | apply Sel.tl | apply In.tl); exact rfl; exact rfl; exact rfl)
    | ((with_reducible apply wl_putn_box); exact rfl; exact rfl; (repeat first | exact .hd | apply Sel.tl | apply In.tl); exact rfl; exact rfl; exact rfl; exact rfl)
    | (with_reducible first | apply wl_nil | apply thn_n | apply w_seq | apply w_region | apply w_ret | apply w_skip | apply w_exit | apply w_block | apply thn_r | apply thn_e | apply blk_n | apply blk_r | apply blk_e)
    | ((with_reducible apply w_cond_true); exact rfl)
    | ((with_reducible apply w_cond_false); exact rfl)
    | ((with_reducible apply w_cond) <;> first | exact rfl | (intro hb; (replace hb := Tidy.out hb; try (exfalso; omega))))
    | ((with_reducible apply blk_x); exact rfl))
  rename_i g3
  refine w_loop (fun i : Nat => [(3, .pointer (some ⟨g3, 0, none⟩)), (6, sl A1 U.length cap1), (9, .int .i64 (i : Int))])
    (fun _ => [.own A1 68 6 U.length cap1 (U.flatMap encU), .box g3 38 (encR r)]) (fun i => i ≤ U.length ∧ (U.take i).any (touch r) = false) (fun i => U.length - i) 0 ⟨by omega, rfl⟩ ?_ ?_ ?_
  · (repeat (first | exact Sub.nil _ | refine Sub.cons rfl ?_))
  · (repeat (first | exact MSub.nil _ | refine MSub.pick (by (repeat first | exact .hd | apply Sel.tl | apply In.tl)) ?_ | exact MSub.refl _ | refine MSub.drop .hd ?_))
  rintro i ⟨hi, hno⟩
  by_cases hlt : i < U.length
  · refine w_some (A := A1) .hd (by omega) fun g2 hA2 => ?_
    subst hA2
    have hany : (U.take (i + 1)).any (touch r) = touch r U[i] := by
      rw [List.take_succ_eq_append_getElem hlt, List.any_append, hno]; simp
    have hanyL : touch r U[i] = true → U.any (touch r) = true := fun h => List.any_eq_true.2 ⟨_, List.getElem_mem hlt, h⟩
    have hrect : ((U.flatMap encU).drop (0 + i * 6 + 0)).take 4 = encR U[i].rect := by
      have he := congrArg (List.take 4) (flat_elem encU_len U i hlt)
      rw [List.take_take] at he
      rw [Nat.zero_add]
      exact he
    generalize U[i] = u at hany hrect hanyL
    have hme := fun w => refMeet_at u.rect r w
    have hme2 : touch r u = (meetR u.rect r).2 := rfl
    generalize meetR u.rect r = mt at hme hme2
    obtain ⟨mr, mb⟩ := mt
    dsimp only at hme hme2
    rw [hme2] at hany hanyL
    repeat' (first
      | ((with_reducible apply wl_v); exact rfl; (first | ((with_reducible apply vop_ok); exact rfl) | ((with_reducible apply v_fieldAddr); exact rfl) | ((with_reducible apply v_len); exact rfl) | ((with_reducible apply v_lens); exact rfl) | ((with_reducible apply v_load_box); exact rfl; (repeat first | exact .hd | apply Sel.tl | apply In.tl); exact rfl) | ((with_reducible apply v_eqlb); exact rfl; exact rfl) | ((with_reducible apply v_neqb); exact rfl; exact rfl) | ((with_reducible apply v_loadw_box); exact rfl; (repeat first | exact .hd | apply Sel.tl | apply In.tl); exact rfl) | ((with_reducible apply v_loadn_box); exact rfl; (repeat first | exact .hd | apply Sel.tl | apply In.tl); exact rfl; exact rfl)))
      | ((with_reducible apply wl_boxs); exact rfl; exact rfl; intro _)
      | ((with_reducible apply wl_box1); exact rfl; exact rfl; exact rfl; intro _)
      | ((with_reducible apply wl_alloc); exact rfl; intro _)
      | ((with_reducible apply wl_storen_box); exact rfl; exact rfl; (repeat first | exact .hd | apply Sel.tl | apply In.tl); exact rfl; exact rfl; exact rfl)
      | ((with_reducible apply wl_putn_box); exact rfl; exact rfl; (repeat first | exact .hd | apply Sel.tl | apply In.tl); exact rfl; exact rfl; exact rfl; exact rfl)
      | (with_reducible first | apply wl_nil | apply thn_n | apply w_seq | apply w_region | apply w_ret | apply w_skip | apply w_exit | apply w_block | apply thn_r | apply thn_e | apply blk_n | apply blk_r | apply blk_e)
      | ((with_reducible apply w_cond_true); exact rfl)
      | ((with_reducible apply w_cond_false); exact rfl)
      | ((with_reducible apply w_cond) <;> first | exact rfl | (intro hb; (replace hb := Tidy.out hb; try (exfalso; omega))))
      | ((with_reducible apply blk_x); exact rfl))
    refine w_nilrow 0 0 ?_
    refine w_drawXg (id := 10) (fun | 10 => some fun g => .pointer (some ⟨g.2, 0, none⟩) | _ => none)
      (fun (D : Done) (q : Nat → Gh) => (bif D 10 then Blk.box (q 10).2 38 (bif D 11 then encR mr else [.int .i64 0, .int .i64 0, .int .i64 0, .int .i64 0]) else nilB) :: .own (some g2) 68 6 U.length cap1 (U.flatMap encU) :: .box g3 38 (encR r) :: []) ?_ ?_ ?_ ?_
    · kernel_rfl
    · kernel_rfl
    · intro γ
      (repeat (first | exact MSub.nil _ | refine MSub.pick (by (repeat first | exact .hd | apply Sel.tl | apply In.tl)) ?_ | exact MSub.refl _ | refine MSub.drop .hd ?_))
    intro γ
    repeat' (first
      | ((with_reducible apply wx_v); exact rfl; exact rfl; exact rfl; (intro D ht; (with_reducible apply v_indexAddr); exact rfl; exact rfl; exact hlt); exact fun _ => rfl)
      | ((with_reducible apply wx_v (d := 36)); exact rfl; exact rfl; exact rfl; (intro D ht; (with_reducible apply v_loads_own (ys := encR u.rect)); exact rfl; (repeat first | exact .hd | apply Sel.tl | apply In.tl); exact hrect; exact rfl); exact fun _ => rfl)
      | ((with_reducible apply wx_callp (f := 70)); exact rfl; exact rfl; exact rfl; (decide +kernel); exact rfl; (intro D ht w hm; exact hme w); exact fun _ => rfl)
      | ((with_reducible apply wl_v); exact rfl; (first | ((with_reducible apply vop_ok); exact rfl) | ((with_reducible apply v_fieldAddr); exact rfl) | ((with_reducible apply v_len); exact rfl) | ((with_reducible apply v_lens); exact rfl) | ((with_reducible apply v_load_box); exact rfl; (repeat first | exact .hd | apply Sel.tl | apply In.tl); exact rfl) | ((with_reducible apply v_eqlb); exact rfl; exact rfl) | ((with_reducible apply v_neqb); exact rfl; exact rfl) | ((with_reducible apply v_loadw_box); exact rfl; (repeat first | exact .hd | apply Sel.tl | apply In.tl); exact rfl) | ((with_reducible apply v_loadn_box); exact rfl; (repeat first | exact .hd | apply Sel.tl | apply In.tl); exact rfl; exact rfl)))
      | ((with_reducible apply wl_boxs); exact rfl; exact rfl; intro _)
      | ((with_reducible apply wl_box1); exact rfl; exact rfl; exact rfl; intro _)
      | ((with_reducible apply wl_alloc); exact rfl; intro _)
      | ((with_reducible apply wl_storen_box); exact rfl; exact rfl; (repeat first | exact .hd | apply Sel.tl | apply In.tl); exact rfl; exact rfl; exact rfl)
      | ((with_reducible apply wl_putn_box); exact rfl; exact rfl; (repeat first | exact .hd | apply Sel.tl | apply In.tl); exact rfl; exact rfl; exact rfl; exact rfl)
      | (with_reducible first | apply wl_nil | apply thn_n | apply w_seq | apply w_region | apply w_ret | apply w_skip | apply w_exit | apply w_block | apply thn_r | apply thn_e | apply blk_n | apply blk_r | apply blk_e | apply wx_nil)
      | ((with_reducible apply w_cond_true); exact rfl)
      | ((with_reducible apply w_cond_false); exact rfl)
      | ((with_reducible apply w_cond) <;> first | exact rfl | (intro hb; (replace hb := Tidy.out hb; try (exfalso; omega))))
      | ((with_reducible apply blk_x); exact rfl)
      | ((with_reducible apply wx_v); exact rfl; exact rfl; exact rfl; (intro D ht; (first | ((with_reducible apply vop_ok); exact rfl) | ((with_reducible apply v_fieldAddr); exact rfl) | ((with_reducible apply v_len); exact rfl) | ((with_reducible apply v_lens); exact rfl) | ((with_reducible apply v_load_box); exact rfl; (repeat first | exact .hd | apply Sel.tl | apply In.tl); exact rfl) | ((with_reducible apply v_eqlb); exact rfl; exact rfl) | ((with_reducible apply v_neqb); exact rfl; exact rfl) | ((with_reducible apply v_loadw_box); exact rfl; (repeat first | exact .hd | apply Sel.tl | apply In.tl); exact rfl) | ((with_reducible apply v_loadn_box); exact rfl; (repeat first | exact .hd | apply Sel.tl | apply In.tl); exact rfl; exact rfl))); exact fun _ => rfl))
    refine wx_non rfl rfl rfl (fun D ht => ?_) ?_
    · have n10 : D 10 = false := ht.not
      have n11 : D 11 = false := ht.late (j := 11) (f := 60) (by decide +kernel)
      (simp only [gat, put, upd, Nat.reduceEqDiff, Nat.reduceAdd, reduceIte, n10, n11, cond_true, cond_false, List.nil_append, List.cons_append, Bool.and_true, Bool.and_false, Bool.true_and, Bool.false_and])
      (with_reducible apply wl_alloc); exact rfl; intro g
      refine wl_nil ⟨rfl, (none, g), rfl, ?_⟩
      (simp only [gat, put, upd, Nat.reduceEqDiff, Nat.reduceAdd, reduceIte, n10, n11, cond_true, cond_false, List.nil_append, List.cons_append, Bool.and_true, Bool.and_false, Bool.true_and, Bool.false_and])
      (repeat (first | exact MSub.nil _ | refine MSub.pick (by (repeat first | exact .hd | apply Sel.tl | apply In.tl)) ?_ | exact MSub.refl _ | refine MSub.drop .hd ?_))
    refine wx_put (T := 38) (vs := encR mr) rfl rfl rfl rfl rfl rfl rfl (fun D ht => ?_) ?_
    · have n11 : D 11 = false := ht.not
      have n10 : D 10 = true := ht.early (i := 10) (f := 60) (by decide +kernel)
      (simp only [gat, put, upd, Nat.reduceEqDiff, Nat.reduceAdd, reduceIte, n10, n11, cond_true, cond_false, List.nil_append, List.cons_append, Bool.and_true, Bool.and_false, Bool.true_and, Bool.false_and])
      refine ⟨_, _, .hd, ?_, ?_⟩
      · exact Nat.le_of_ble_eq_true rfl
      · (repeat (first | exact MSub.nil _ | refine MSub.pick (by (repeat first | exact .hd | apply Sel.tl | apply In.tl)) ?_ | exact MSub.refl _ | refine MSub.drop .hd ?_))
    repeat' (first
      | ((with_reducible apply wl_v); exact rfl; (first | ((with_reducible apply vop_ok); exact rfl) | ((with_reducible apply v_fieldAddr); exact rfl) | ((with_reducible apply v_len); exact rfl) | ((with_reducible apply v_lens); exact rfl) | ((with_reducible apply v_load_box); exact rfl; (repeat first | exact .hd | apply Sel.tl | apply In.tl); exact rfl) | ((with_reducible apply v_eqlb); exact rfl; exact rfl) | ((with_reducible apply v_neqb); exact rfl; exact rfl) | ((with_reducible apply v_loadw_box); exact rfl; (repeat first | exact .hd | apply Sel.tl | apply In.tl); exact rfl) | ((with_reducible apply v_loadn_box); exact rfl; (repeat first | exact .hd | apply Sel.tl | apply In.tl); exact rfl; exact rfl)))
      | ((with_reducible apply wl_boxs); exact rfl; exact rfl; intro _)
      | ((with_reducible apply wl_box1); exact rfl; exact rfl; exact rfl; intro _)
      | ((with_reducible apply wl_alloc); exact rfl; intro _)
      | ((with_reducible apply wl_storen_box); exact rfl; exact rfl; (repeat first | exact .hd | apply Sel.tl | apply In.tl); exact rfl; exact rfl; exact rfl)
      | ((with_reducible apply wl_putn_box); exact rfl; exact rfl; (repeat first | exact .hd | apply Sel.tl | apply In.tl); exact rfl; exact rfl; exact rfl; exact rfl)
      | (with_reducible first | apply wl_nil | apply thn_n | apply w_seq | apply w_region | apply w_ret | apply w_skip | apply w_exit | apply w_block | apply thn_r | apply thn_e | apply blk_n | apply blk_r | apply blk_e | apply wx_nil)
      | ((with_reducible apply w_cond_true); exact rfl)
      | ((with_reducible apply w_cond_false); exact rfl)
      | ((with_reducible apply w_cond) <;> first | exact rfl | (intro hb; (replace hb := Tidy.out hb; try (exfalso; omega))))
      | ((with_reducible apply blk_x); exact rfl)
      | ((with_reducible apply wx_v); exact rfl; exact rfl; exact rfl; (intro D ht; (first | ((with_reducible apply vop_ok); exact rfl) | ((with_reducible apply v_fieldAddr); exact rfl) | ((with_reducible apply v_len); exact rfl) | ((with_reducible apply v_lens); exact rfl) | ((with_reducible apply v_load_box); exact rfl; (repeat first | exact .hd | apply Sel.tl | apply In.tl); exact rfl) | ((with_reducible apply v_eqlb); exact rfl; exact rfl) | ((with_reducible apply v_neqb); exact rfl; exact rfl) | ((with_reducible apply v_loadw_box); exact rfl; (repeat first | exact .hd | apply Sel.tl | apply In.tl); exact rfl) | ((with_reducible apply v_loadn_box); exact rfl; (repeat first | exact .hd | apply Sel.tl | apply In.tl); exact rfl; exact rfl))); exact fun _ => rfl))
    intro D hD
    have n10 := hD 10 (by decide)
    have n11 := hD 11 (by decide)
    (simp only [gat, put, upd, Nat.reduceEqDiff, Nat.reduceAdd, reduceIte, n10, n11, cond_true, cond_false, List.nil_append, List.cons_append, Bool.and_true, Bool.and_false, Bool.true_and, Bool.false_and])
    cases mb
    · repeat' (first
        | ((with_reducible apply wl_v); exact rfl; (first | ((with_reducible apply vop_ok); exact rfl) | ((with_reducible apply v_fieldAddr); exact rfl) | ((with_reducible apply v_len); exact rfl) | ((with_reducible apply v_lens); exact rfl) | ((with_reducible apply v_load_box); exact rfl; (repeat first | exact .hd | apply Sel.tl | apply In.tl); exact rfl) | ((with_reducible apply v_eqlb); exact rfl; exact rfl) | ((with_reducible apply v_neqb); exact rfl; exact rfl) | ((with_reducible apply v_loadw_box); exact rfl; (repeat first | exact .hd | apply Sel.tl | apply In.tl); exact rfl) | ((with_reducible apply v_loadn_box); exact rfl; (repeat first | exact .hd | apply Sel.tl | apply In.tl); exact rfl; exact rfl)))
        | ((with_reducible apply wl_boxs); exact rfl; exact rfl; intro _)
        | ((with_reducible apply wl_box1); exact rfl; exact rfl; exact rfl; intro _)
        | ((with_reducible apply wl_alloc); exact rfl; intro _)
        | ((with_reducible apply wl_storen_box); exact rfl; exact rfl; (repeat first | exact .hd | apply Sel.tl | apply In.tl); exact rfl; exact rfl; exact rfl)
        | ((with_reducible apply wl_putn_box); exact rfl; exact rfl; (repeat first | exact .hd | apply Sel.tl | apply In.tl); exact rfl; exact rfl; exact rfl; exact rfl)
        | (with_reducible first | apply wl_nil | apply thn_n | apply w_seq | apply w_region | apply w_ret | apply w_skip | apply w_exit | apply w_block | apply thn_r | apply thn_e | apply blk_n | apply blk_r | apply blk_e)
        | ((with_reducible apply w_cond_true); exact rfl)
        | ((with_reducible apply w_cond_false); exact rfl)
        | ((with_reducible apply w_cond) <;> first | exact rfl | (intro hb; (replace hb := Tidy.out hb; try (exfalso; omega))))
        | ((with_reducible apply blk_x); exact rfl)
        | ((with_reducible apply wl_v); exact rfl; (with_reducible apply v_succN); exact rfl; exact rfl; (simp only [maxLen] at *; omega))
        | ((with_reducible apply wl_v); exact rfl; (with_reducible apply v_1addN); exact rfl; exact rfl; (simp only [maxLen] at *; omega))
        | ((with_reducible apply wl_v); exact rfl; (with_reducible apply v_addN); exact rfl; exact rfl; (simp only [maxLen] at *; omega)))
      refine ⟨i + 1, ⟨hlt, hany⟩, by omega, ?_, ?_⟩
      · (repeat (first | exact Sub.nil _ | refine Sub.cons rfl ?_))
      · (repeat (first | exact MSub.nil _ | refine MSub.pick (by (repeat first | exact .hd | apply Sel.tl | apply In.tl)) ?_ | exact MSub.refl _ | refine MSub.drop .hd ?_))
    · rw [hanyL rfl]
      repeat' (first
        | ((with_reducible apply wl_v); exact rfl; (first | ((with_reducible apply vop_ok); exact rfl) | ((with_reducible apply v_fieldAddr); exact rfl) | ((with_reducible apply v_len); exact rfl) | ((with_reducible apply v_lens); exact rfl) | ((with_reducible apply v_load_box); exact rfl; (repeat first | exact .hd | apply Sel.tl | apply In.tl); exact rfl) | ((with_reducible apply v_eqlb); exact rfl; exact rfl) | ((with_reducible apply v_neqb); exact rfl; exact rfl) | ((with_reducible apply v_loadw_box); exact rfl; (repeat first | exact .hd | apply Sel.tl | apply In.tl); exact rfl) | ((with_reducible apply v_loadn_box); exact rfl; (repeat first | exact .hd | apply Sel.tl | apply In.tl); exact rfl; exact rfl)))
        | ((with_reducible apply wl_boxs); exact rfl; exact rfl; intro _)
        | ((with_reducible apply wl_box1); exact rfl; exact rfl; exact rfl; intro _)
        | ((with_reducible apply wl_alloc); exact rfl; intro _)
        | ((with_reducible apply wl_storen_box); exact rfl; exact rfl; (repeat first | exact .hd | apply Sel.tl | apply In.tl); exact rfl; exact rfl; exact rfl)
        | ((with_reducible apply wl_putn_box); exact rfl; exact rfl; (repeat first | exact .hd | apply Sel.tl | apply In.tl); exact rfl; exact rfl; exact rfl; exact rfl)
        | (with_reducible first | apply wl_nil | apply thn_n | apply w_seq | apply w_region | apply w_ret | apply w_skip | apply w_exit | apply w_block | apply thn_r | apply thn_e | apply blk_n | apply blk_r | apply blk_e)
        | ((with_reducible apply w_cond_true); exact rfl)
        | ((with_reducible apply w_cond_false); exact rfl)
        | ((with_reducible apply w_cond) <;> first | exact rfl | (intro hb; (replace hb := Tidy.out hb; try (exfalso; omega))))
        | ((with_reducible apply blk_x); exact rfl)
        | ((with_reducible apply wl_v); exact rfl; (with_reducible apply v_succN); exact rfl; exact rfl; (simp only [maxLen] at *; omega))
        | ((with_reducible apply wl_v); exact rfl; (with_reducible apply v_1addN); exact rfl; exact rfl; (simp only [maxLen] at *; omega))
        | ((with_reducible apply wl_v); exact rfl; (with_reducible apply v_addN); exact rfl; exact rfl; (simp only [maxLen] at *; omega)))
      ((with_reducible apply ret2); exact .inl rfl; exact rfl; exact rfl; exact rfl; exact MSub.nil _)
      rfl
  · have e : i = U.length := by omega
    subst e
    rw [List.take_length] at hno
    rw [hno]
    repeat' (first
      | ((with_reducible apply wl_v); exact rfl; (first | ((with_reducible apply vop_ok); exact rfl) | ((with_reducible apply v_fieldAddr); exact rfl) | ((with_reducible apply v_len); exact rfl) | ((with_reducible apply v_lens); exact rfl) | ((with_reducible apply v_load_box); exact rfl; (repeat first | exact .hd | apply Sel.tl | apply In.tl); exact rfl) | ((with_reducible apply v_eqlb); exact rfl; exact rfl) | ((with_reducible apply v_neqb); exact rfl; exact rfl) | ((with_reducible apply v_loadw_box); exact rfl; (repeat first | exact .hd | apply Sel.tl | apply In.tl); exact rfl) | ((with_reducible apply v_loadn_box); exact rfl; (repeat first | exact .hd | apply Sel.tl | apply In.tl); exact rfl; exact rfl)))
      | ((with_reducible apply wl_boxs); exact rfl; exact rfl; intro _)
      | ((with_reducible apply wl_box1); exact rfl; exact rfl; exact rfl; intro _)
      | ((with_reducible apply wl_alloc); exact rfl; intro _)
      | ((with_reducible apply wl_storen_box); exact rfl; exact rfl; (repeat first | exact .hd | apply Sel.tl | apply In.tl); exact rfl; exact rfl; exact rfl)
      | ((with_reducible apply wl_putn_box); exact rfl; exact rfl; (repeat first | exact .hd | apply Sel.tl | apply In.tl); exact rfl; exact rfl; exact rfl; exact rfl)
      | (with_reducible first | apply wl_nil | apply thn_n | apply w_seq | apply w_region | apply w_ret | apply w_skip | apply w_exit | apply w_block | apply thn_r | apply thn_e | apply blk_n | apply blk_r | apply blk_e)
      | ((with_reducible apply w_cond_true); exact rfl)
      | ((with_reducible apply w_cond_false); exact rfl)
      | ((with_reducible apply w_cond) <;> first | exact rfl | (intro hb; (replace hb := Tidy.out hb; try (exfalso; omega))))
      | ((with_reducible apply blk_x); exact rfl))
    ((with_reducible apply ret2); exact .inl rfl; exact rfl; exact rfl; exact rfl; exact MSub.nil _)
    rfl
end Go.SL

/-
  RefsMatches returns true.
-/
namespace Go.SL
open Go Go.Proofs
attribute [local irreducible] W WL WQ WG WA VOp thn blk cutP retP FnAt FnIn Held

def zeroU : Us := ⟨zeroR, 0, 0⟩
theorem EqualUses_same (L : List Us) (a b : Value) (w : World) (h1 : Reads w a L.length (L.flatMap encU)) (h2 : Reads w b L.length (L.flatMap encU)) : Pure Try.prog 46 [a, b] w (.bool true) := by
  have h := EqualUses_at L L a b w h1 h2
  rwa [decide_eq_true rfl] at h
theorem usesE_len (L : List Nd) : (usesE L).1.length ≤ L.length := by
  unfold usesE
  split
  · simp
  · exact usesF_len L

theorem v_neqb_same {P : Program} {w0 : World} {s : Slots} {H : List Blk} {ty t t' : TypeId} [Und P t .bool] {x y : Operand} {b : Bool} (hx : ev s x = some (.bool b)) (hy : ev s y = some (.bool b)) : VOp P w0 s H (.binOp .neq t x y t') ty (.bool false) := by
  have h := v_neqb (P := P) (w0 := w0) (H := H) (ty := ty) (t := t) (t' := t') hx hy
  cases b <;> exact h

set_option maxRecDepth 20000 in
set_option maxHeartbeats 4000000 in
theorem RefsMatches_at (L : List Nd) (hwf : ∀ n ∈ L, wfN n) (r : Rct) (tv : Value) (w : World) (hl : Reads w tv L.length (L.flatMap encN)) : Pure Try.prog 10 [tv, .agg (encR r).toArray] w (.bool true) := by
  refine fn_at Try.func10 rfl Try.ntmps10 rfl ?_
  have hf1 := fun (w' : World) (H : List Blk) (hm : Mem w w' H) => Few_at L tv w' (hl.of_w0 hm)
  have hidem := fewT_idem L
  have hwf1 := wf_few hwf
  have hle := few_len L
  generalize fewT L = T at hf1 hidem hwf1 hle
  have hf3 := fun (w' : World) (A : Option Nat) (cap : Nat) (h : Reads w' (sl A T.length cap) T.length (T.flatMap encN)) => Few_at T _ w' h
  rw [hidem] at hf3
  have u1 := fun (v : Value) (w' : World) h => Uses_at T v w' h (by omega)
  have u2 := fun (v : Value) (w' : World) h => refUses_at T hwf1 v w' h
  have c1 := fun (v : Value) (w' : World) h => Calls_at T v w' h (by omega)
  have c2 := fun (v : Value) (w' : World) h => refCalls_at T hwf1 hle v w' h
  have t1 := fun (v : Value) (w' : World) h => Touches_at T r v w' h (by omega)
  have t2 := fun (v : Value) (w' : World) h => refTouches_at T hwf1 hle r v w' h
  have hUl := usesE_len T
  have hCl : (callsE T).1.length ≤ 300 := by
    rw [callsE_eq]
    exact Nat.le_trans (List.length_filter_le _ _) (by omega)
  generalize usesE T = U at u1 u2 hUl
  generalize callsE T = C at c1 c2 hCl
  generalize touchesE T r = X at t1 t2
  obtain ⟨U, ue⟩ := U
  obtain ⟨C, ce⟩ := C
  obtain ⟨xb, xe⟩ := X
  dsimp only at u1 u2 c1 c2 t1 t2 hUl hCl
  repeat' (first
    | ((with_reducible apply wl_call (xs := [.tmp 21])); exact rfl; exact rfl; (intro w' h; exact hf1 w' _ h); (rintro v H' ⟨A1, cap1, rfl, rfl⟩))
    | ((with_reducible apply wl_call (xs := [.tmp 23])); exact rfl; exact rfl; (intro w' h; exact hf3 w' _ _ (Reads.of_own h (by (repeat first | exact .hd | apply Sel.tl | apply In.tl)))); (rintro v H' ⟨A2, cap2, rfl, rfl⟩))
    | ((with_reducible apply wl_v); exact rfl; (first | ((with_reducible apply vop_ok); exact rfl) | ((with_reducible apply v_len); exact rfl) | ((with_reducible apply v_lens); exact rfl) | ((with_reducible apply v_load_box); exact rfl; (repeat first | exact .hd | apply Sel.tl | apply In.tl); exact rfl) | ((with_reducible apply v_eqlb); exact rfl; exact rfl) | ((with_reducible apply v_neqb); exact rfl; exact rfl) | ((with_reducible apply v_loadw_box); exact rfl; (repeat first | exact .hd | apply Sel.tl | apply In.tl); exact rfl) | ((with_reducible apply v_loadn_box); exact rfl; (repeat first | exact .hd | apply Sel.tl | apply In.tl); exact rfl; exact rfl) | ((with_reducible apply v_build); exact rfl; exact rfl; exact rfl)))
    | ((with_reducible apply wl_gyes); exact rfl; exact rfl)
    | ((with_reducible apply wl_gno_b); exact rfl; exact rfl; exact rfl; exact rfl)
    | ((with_reducible apply wl_gno_u); exact rfl; exact rfl; exact rfl)
    | ((with_reducible apply wl_boxs); exact rfl; exact rfl; intro _)
    | ((with_reducible apply wl_box1); exact rfl; exact rfl; exact rfl; intro _)
    | ((with_reducible apply wl_storen_box); exact rfl; exact rfl; (repeat first | exact .hd | apply Sel.tl | apply In.tl); exact rfl; exact rfl; exact rfl)
    | ((with_reducible apply wl_putn_box); exact rfl; exact rfl; (repeat first | exact .hd | apply Sel.tl | apply In.tl); exact rfl; exact rfl; exact rfl; exact rfl)
    | ((with_reducible apply wl_gsplit) <;> first | exact rfl | (intro hb; (replace hb := Tidy.out hb; try (exfalso; omega))))
    | (with_reducible first | apply wl_nil | apply thn_n | apply w_seq | apply w_region | apply w_ret | apply w_skip | apply w_exit | apply w_block | apply thn_r | apply thn_e | apply blk_n | apply blk_r | apply blk_e)
    | ((with_reducible apply w_cond_true); exact rfl)
    | ((with_reducible apply w_cond_false); exact rfl)
    | ((with_reducible apply w_cond) <;> first | exact rfl | (intro hb; (replace hb := Tidy.out hb; try (exfalso; omega))))
    | ((with_reducible apply blk_x); exact rfl))
  rename_i g3
  refine w_loopK [0, 3, 5] rfl (fun q : Nat => [(6, .int .i64 (q : Int))]) (fun _ => [.own A2 40 11 T.length cap2 (T.flatMap encN), .own A1 40 11 T.length cap1 (T.flatMap encN), .box g3 38 (encR r)]) (fun q => q ≤ 2) (fun q => 2 - q) 0 (by omega) (by (repeat (first | exact Sub.nil _ | refine Sub.cons rfl ?_))) (by (repeat (first | exact MSub.nil _ | refine MSub.pick (by (repeat first | exact .hd | apply Sel.tl | apply In.tl)) ?_ | exact MSub.refl _ | refine MSub.drop .hd ?_))) ?_
  intro q hq
  by_cases hq2 : q < 2
  · repeat' (first
      | ((with_reducible apply wl_call (d := 31)); exact rfl; exact rfl; (intro w' h; exact u1 _ w' (Reads.of_own (A := A2) h (by (repeat first | exact .hd | apply Sel.tl | apply In.tl)))); (rintro v H' ⟨A3, cap3, rfl, rfl⟩))
      | ((with_reducible apply wl_call (d := 36)); exact rfl; exact rfl; (intro w' h; exact u2 _ w' (Reads.of_own (A := A1) h (by (repeat first | exact .hd | apply Sel.tl | apply In.tl)))); (rintro v H' ⟨A4, cap4, rfl, rfl⟩))
      | ((with_reducible apply wl_call (d := 41)); exact rfl; exact rfl; (intro w' h; exact c1 _ w' (Reads.of_own (A := A2) h (by (repeat first | exact .hd | apply Sel.tl | apply In.tl)))); (rintro v H' ⟨A5, cap5, rfl, rfl⟩))
      | ((with_reducible apply wl_call (d := 46)); exact rfl; exact rfl; (intro w' h; exact c2 _ w' (Reads.of_own (A := A1) h (by (repeat first | exact .hd | apply Sel.tl | apply In.tl)))); (rintro v H' ⟨A6, cap6, rfl, rfl⟩))
      | ((with_reducible apply wl_callp (d := 52)); exact rfl; exact rfl; (intro w' h; exact t1 _ w' (Reads.of_own (A := A2) h (by (repeat first | exact .hd | apply Sel.tl | apply In.tl)))))
      | ((with_reducible apply wl_callp (d := 58)); exact rfl; exact rfl; (intro w' h; exact t2 _ w' (Reads.of_own (A := A1) h (by (repeat first | exact .hd | apply Sel.tl | apply In.tl)))))
      | ((with_reducible apply wl_callp (d := 63)); exact rfl; exact rfl; (intro w' h; exact EqualUses_same U _ _ w' (Reads.of_own (A := A3) h (by (repeat first | exact .hd | apply Sel.tl | apply In.tl))) (Reads.of_own (A := A4) h (by (repeat first | exact .hd | apply Sel.tl | apply In.tl)))))
      | ((with_reducible apply wl_callp (d := 73)); exact rfl; exact rfl; (intro w' h; exact EqualUses_same C _ _ w' (Reads.of_own (A := A5) h (by (repeat first | exact .hd | apply Sel.tl | apply In.tl))) (Reads.of_own (A := A6) h (by (repeat first | exact .hd | apply Sel.tl | apply In.tl)))))
      | ((with_reducible apply wl_callp (d := 94)); exact rfl; exact rfl; (intro w' h; exact EqualTree_same T _ _ w' (Reads.of_own (A := A2) h (by (repeat first | exact .hd | apply Sel.tl | apply In.tl))) (Reads.of_own (A := A1) h (by (repeat first | exact .hd | apply Sel.tl | apply In.tl)))))
      | ((with_reducible apply wl_v (d := 84)); exact rfl; (with_reducible apply v_neqb_same); exact rfl; exact rfl)
      | ((with_reducible apply wl_v); exact rfl; (with_reducible apply v_neq_same); exact rfl; exact rfl)
      | ((with_reducible apply wl_v); exact rfl; (first | ((with_reducible apply vop_ok); exact rfl) | ((with_reducible apply v_len); exact rfl) | ((with_reducible apply v_lens); exact rfl) | ((with_reducible apply v_load_box); exact rfl; (repeat first | exact .hd | apply Sel.tl | apply In.tl); exact rfl) | ((with_reducible apply v_eqlb); exact rfl; exact rfl) | ((with_reducible apply v_neqb); exact rfl; exact rfl) | ((with_reducible apply v_loadw_box); exact rfl; (repeat first | exact .hd | apply Sel.tl | apply In.tl); exact rfl) | ((with_reducible apply v_loadn_box); exact rfl; (repeat first | exact .hd | apply Sel.tl | apply In.tl); exact rfl; exact rfl) | ((with_reducible apply v_build); exact rfl; exact rfl; exact rfl)))
      | ((with_reducible apply wl_gyes); exact rfl; exact rfl)
      | ((with_reducible apply wl_gno_b); exact rfl; exact rfl; exact rfl; exact rfl)
      | ((with_reducible apply wl_gno_u); exact rfl; exact rfl; exact rfl)
      | ((with_reducible apply wl_boxs); exact rfl; exact rfl; intro _)
      | ((with_reducible apply wl_box1); exact rfl; exact rfl; exact rfl; intro _)
      | ((with_reducible apply wl_storen_box); exact rfl; exact rfl; (repeat first | exact .hd | apply Sel.tl | apply In.tl); exact rfl; exact rfl; exact rfl)
      | ((with_reducible apply wl_putn_box); exact rfl; exact rfl; (repeat first | exact .hd | apply Sel.tl | apply In.tl); exact rfl; exact rfl; exact rfl; exact rfl)
      | ((with_reducible apply wl_gsplit) <;> first | exact rfl | (intro hb; (replace hb := Tidy.out hb; try (exfalso; omega))))
      | (with_reducible first | apply wl_nil | apply thn_n | apply w_seq | apply w_region | apply w_ret | apply w_skip | apply w_exit | apply w_block | apply thn_r | apply thn_e | apply blk_n | apply blk_r | apply blk_e)
      | ((with_reducible apply w_cond_true); exact rfl)
      | ((with_reducible apply w_cond_false); exact rfl)
      | ((with_reducible apply w_cond) <;> first | exact rfl | (intro hb; (replace hb := Tidy.out hb; try (exfalso; omega))))
      | ((with_reducible apply blk_x); exact rfl))
    refine w_loopK [0, 3, 5, 6, 11] rfl (fun x : Nat × List Value => [(7, sl A3 U.length cap3), (19, .int .i64 (x.1 : Int))]) (fun x => [.own A3 68 6 U.length cap3 x.2, .own A5 68 6 C.length cap5 (C.flatMap encU), .own A2 40 11 T.length cap2 (T.flatMap encN), .own A1 40 11 T.length cap1 (T.flatMap encN), .box g3 38 (encR r)])
      (fun x => x.1 ≤ U.length ∧ x.2.length = U.length * 6) (fun x => U.length - x.1) (0, U.flatMap encU) ⟨by omega, flat_length' encU_len U⟩ (by (repeat (first | exact Sub.nil _ | refine Sub.cons rfl ?_))) (by (repeat (first | exact MSub.nil _ | refine MSub.pick (by (repeat first | exact .hd | apply Sel.tl | apply In.tl)) ?_ | exact MSub.refl _ | refine MSub.drop .hd ?_))) ?_
    rintro ⟨z, xs⟩ ⟨hz, hxs⟩
    dsimp only at hz hxs ⊢
    by_cases hlt : z < U.length
    · refine w_some (A := A3) .hd (by omega) fun g4 hA3 => ?_
      subst hA3
      repeat' (first
        | ((with_reducible apply wl_v); exact rfl; (with_reducible apply v_indexAddr); exact rfl; exact rfl; exact hlt)
        | ((with_reducible apply wl_put_own (vs := encU zeroU)); exact rfl; exact rfl; (repeat first | exact .hd | apply Sel.tl | apply In.tl); exact rfl; exact rfl; (simp [encU, Value.oneCell']); (rw [hxs]; omega))
        | ((with_reducible apply wl_v); exact rfl; (first | ((with_reducible apply vop_ok); exact rfl) | ((with_reducible apply v_len); exact rfl) | ((with_reducible apply v_lens); exact rfl) | ((with_reducible apply v_load_box); exact rfl; (repeat first | exact .hd | apply Sel.tl | apply In.tl); exact rfl) | ((with_reducible apply v_eqlb); exact rfl; exact rfl) | ((with_reducible apply v_neqb); exact rfl; exact rfl) | ((with_reducible apply v_loadw_box); exact rfl; (repeat first | exact .hd | apply Sel.tl | apply In.tl); exact rfl) | ((with_reducible apply v_loadn_box); exact rfl; (repeat first | exact .hd | apply Sel.tl | apply In.tl); exact rfl; exact rfl) | ((with_reducible apply v_build); exact rfl; exact rfl; exact rfl)))
        | ((with_reducible apply wl_gyes); exact rfl; exact rfl)
        | ((with_reducible apply wl_gno_b); exact rfl; exact rfl; exact rfl; exact rfl)
        | ((with_reducible apply wl_gno_u); exact rfl; exact rfl; exact rfl)
        | ((with_reducible apply wl_boxs); exact rfl; exact rfl; intro _)
        | ((with_reducible apply wl_box1); exact rfl; exact rfl; exact rfl; intro _)
        | ((with_reducible apply wl_storen_box); exact rfl; exact rfl; (repeat first | exact .hd | apply Sel.tl | apply In.tl); exact rfl; exact rfl; exact rfl)
        | ((with_reducible apply wl_putn_box); exact rfl; exact rfl; (repeat first | exact .hd | apply Sel.tl | apply In.tl); exact rfl; exact rfl; exact rfl; exact rfl)
        | ((with_reducible apply wl_gsplit) <;> first | exact rfl | (intro hb; (replace hb := Tidy.out hb; try (exfalso; omega))))
        | (with_reducible first | apply wl_nil | apply thn_n | apply w_seq | apply w_region | apply w_ret | apply w_skip | apply w_exit | apply w_block | apply thn_r | apply thn_e | apply blk_n | apply blk_r | apply blk_e)
        | ((with_reducible apply w_cond_true); exact rfl)
        | ((with_reducible apply w_cond_false); exact rfl)
        | ((with_reducible apply w_cond) <;> first | exact rfl | (intro hb; (replace hb := Tidy.out hb; try (exfalso; omega))))
        | ((with_reducible apply blk_x); exact rfl)
        | ((with_reducible apply wl_v); exact rfl; (with_reducible apply v_succN); exact rfl; exact rfl; (simp only [maxLen] at *; omega))
        | ((with_reducible apply wl_v); exact rfl; (with_reducible apply v_1addN); exact rfl; exact rfl; (simp only [maxLen] at *; omega))
        | ((with_reducible apply wl_v); exact rfl; (with_reducible apply v_addN); exact rfl; exact rfl; (simp only [maxLen] at *; omega)))
      refine ⟨(z + 1, xs.take (0 + z * 6) ++ encU zeroU ++ xs.drop (0 + z * 6 + 6)), ?_, (by first | omega | (dsimp only; omega)), (by (repeat (first | exact Sub.nil _ | refine Sub.cons rfl ?_))), (by (repeat (first | exact Sub.nil _ | refine Sub.cons rfl ?_))), (by (repeat (first | exact MSub.nil _ | refine MSub.pick (by (repeat first | exact .hd | apply Sel.tl | apply In.tl)) ?_ | exact MSub.refl _ | refine MSub.drop .hd ?_)))⟩
      exact ⟨hlt, by simp only [List.length_append, List.length_take, List.length_drop, encU_len, hxs]; omega⟩
    have e : z = U.length := by omega
    subst e
    repeat' (first
      | ((with_reducible apply wl_v); exact rfl; (first | ((with_reducible apply vop_ok); exact rfl) | ((with_reducible apply v_len); exact rfl) | ((with_reducible apply v_lens); exact rfl) | ((with_reducible apply v_load_box); exact rfl; (repeat first | exact .hd | apply Sel.tl | apply In.tl); exact rfl) | ((with_reducible apply v_eqlb); exact rfl; exact rfl) | ((with_reducible apply v_neqb); exact rfl; exact rfl) | ((with_reducible apply v_loadw_box); exact rfl; (repeat first | exact .hd | apply Sel.tl | apply In.tl); exact rfl) | ((with_reducible apply v_loadn_box); exact rfl; (repeat first | exact .hd | apply Sel.tl | apply In.tl); exact rfl; exact rfl) | ((with_reducible apply v_build); exact rfl; exact rfl; exact rfl)))
      | ((with_reducible apply wl_gyes); exact rfl; exact rfl)
      | ((with_reducible apply wl_gno_b); exact rfl; exact rfl; exact rfl; exact rfl)
      | ((with_reducible apply wl_gno_u); exact rfl; exact rfl; exact rfl)
      | ((with_reducible apply wl_boxs); exact rfl; exact rfl; intro _)
      | ((with_reducible apply wl_box1); exact rfl; exact rfl; exact rfl; intro _)
      | ((with_reducible apply wl_storen_box); exact rfl; exact rfl; (repeat first | exact .hd | apply Sel.tl | apply In.tl); exact rfl; exact rfl; exact rfl)
      | ((with_reducible apply wl_putn_box); exact rfl; exact rfl; (repeat first | exact .hd | apply Sel.tl | apply In.tl); exact rfl; exact rfl; exact rfl; exact rfl)
      | ((with_reducible apply wl_gsplit) <;> first | exact rfl | (intro hb; (replace hb := Tidy.out hb; try (exfalso; omega))))
      | (with_reducible first | apply wl_nil | apply thn_n | apply w_seq | apply w_region | apply w_ret | apply w_skip | apply w_exit | apply w_block | apply thn_r | apply thn_e | apply blk_n | apply blk_r | apply blk_e)
      | ((with_reducible apply w_cond_true); exact rfl)
      | ((with_reducible apply w_cond_false); exact rfl)
      | ((with_reducible apply w_cond) <;> first | exact rfl | (intro hb; (replace hb := Tidy.out hb; try (exfalso; omega))))
      | ((with_reducible apply blk_x); exact rfl))
    refine w_loopK [0, 3, 5, 6] rfl (fun x : Nat × List Value => [(11, sl A5 C.length cap5), (20, .int .i64 (x.1 : Int))]) (fun x => [.own A5 68 6 C.length cap5 x.2, .own A2 40 11 T.length cap2 (T.flatMap encN), .own A1 40 11 T.length cap1 (T.flatMap encN), .box g3 38 (encR r)])
      (fun x => x.1 ≤ C.length ∧ x.2.length = C.length * 6) (fun x => C.length - x.1) (0, C.flatMap encU) ⟨by omega, flat_length' encU_len C⟩ (by (repeat (first | exact Sub.nil _ | refine Sub.cons rfl ?_))) (by (repeat (first | exact MSub.nil _ | refine MSub.pick (by (repeat first | exact .hd | apply Sel.tl | apply In.tl)) ?_ | exact MSub.refl _ | refine MSub.drop .hd ?_))) ?_
    rintro ⟨z, ys⟩ ⟨hz, hys⟩
    dsimp only at hz hys ⊢
    by_cases hlt : z < C.length
    · refine w_some (A := A5) .hd (by omega) fun g4 hA5 => ?_
      subst hA5
      repeat' (first
        | ((with_reducible apply wl_v); exact rfl; (with_reducible apply v_indexAddr); exact rfl; exact rfl; exact hlt)
        | ((with_reducible apply wl_put_own (vs := encU zeroU)); exact rfl; exact rfl; (repeat first | exact .hd | apply Sel.tl | apply In.tl); exact rfl; exact rfl; (simp [encU, Value.oneCell']); (rw [hys]; omega))
        | ((with_reducible apply wl_v); exact rfl; (first | ((with_reducible apply vop_ok); exact rfl) | ((with_reducible apply v_len); exact rfl) | ((with_reducible apply v_lens); exact rfl) | ((with_reducible apply v_load_box); exact rfl; (repeat first | exact .hd | apply Sel.tl | apply In.tl); exact rfl) | ((with_reducible apply v_eqlb); exact rfl; exact rfl) | ((with_reducible apply v_neqb); exact rfl; exact rfl) | ((with_reducible apply v_loadw_box); exact rfl; (repeat first | exact .hd | apply Sel.tl | apply In.tl); exact rfl) | ((with_reducible apply v_loadn_box); exact rfl; (repeat first | exact .hd | apply Sel.tl | apply In.tl); exact rfl; exact rfl) | ((with_reducible apply v_build); exact rfl; exact rfl; exact rfl)))
        | ((with_reducible apply wl_gyes); exact rfl; exact rfl)
        | ((with_reducible apply wl_gno_b); exact rfl; exact rfl; exact rfl; exact rfl)
        | ((with_reducible apply wl_gno_u); exact rfl; exact rfl; exact rfl)
        | ((with_reducible apply wl_boxs); exact rfl; exact rfl; intro _)
        | ((with_reducible apply wl_box1); exact rfl; exact rfl; exact rfl; intro _)
        | ((with_reducible apply wl_storen_box); exact rfl; exact rfl; (repeat first | exact .hd | apply Sel.tl | apply In.tl); exact rfl; exact rfl; exact rfl)
        | ((with_reducible apply wl_putn_box); exact rfl; exact rfl; (repeat first | exact .hd | apply Sel.tl | apply In.tl); exact rfl; exact rfl; exact rfl; exact rfl)
        | ((with_reducible apply wl_gsplit) <;> first | exact rfl | (intro hb; (replace hb := Tidy.out hb; try (exfalso; omega))))
        | (with_reducible first | apply wl_nil | apply thn_n | apply w_seq | apply w_region | apply w_ret | apply w_skip | apply w_exit | apply w_block | apply thn_r | apply thn_e | apply blk_n | apply blk_r | apply blk_e)
        | ((with_reducible apply w_cond_true); exact rfl)
        | ((with_reducible apply w_cond_false); exact rfl)
        | ((with_reducible apply w_cond) <;> first | exact rfl | (intro hb; (replace hb := Tidy.out hb; try (exfalso; omega))))
        | ((with_reducible apply blk_x); exact rfl)
        | ((with_reducible apply wl_v); exact rfl; (with_reducible apply v_succN); exact rfl; exact rfl; (simp only [maxLen] at *; omega))
        | ((with_reducible apply wl_v); exact rfl; (with_reducible apply v_1addN); exact rfl; exact rfl; (simp only [maxLen] at *; omega))
        | ((with_reducible apply wl_v); exact rfl; (with_reducible apply v_addN); exact rfl; exact rfl; (simp only [maxLen] at *; omega)))
      refine ⟨(z + 1, ys.take (0 + z * 6) ++ encU zeroU ++ ys.drop (0 + z * 6 + 6)), ?_, (by first | omega | (dsimp only; omega)), (by (repeat (first | exact Sub.nil _ | refine Sub.cons rfl ?_))), (by (repeat (first | exact Sub.nil _ | refine Sub.cons rfl ?_))), (by (repeat (first | exact MSub.nil _ | refine MSub.pick (by (repeat first | exact .hd | apply Sel.tl | apply In.tl)) ?_ | exact MSub.refl _ | refine MSub.drop .hd ?_)))⟩
      exact ⟨hlt, by simp only [List.length_append, List.length_take, List.length_drop, encU_len, hys]; omega⟩
    have e : z = C.length := by omega
    subst e
    repeat' (first
      | ((with_reducible apply wl_v); exact rfl; (first | ((with_reducible apply vop_ok); exact rfl) | ((with_reducible apply v_len); exact rfl) | ((with_reducible apply v_lens); exact rfl) | ((with_reducible apply v_load_box); exact rfl; (repeat first | exact .hd | apply Sel.tl | apply In.tl); exact rfl) | ((with_reducible apply v_eqlb); exact rfl; exact rfl) | ((with_reducible apply v_neqb); exact rfl; exact rfl) | ((with_reducible apply v_loadw_box); exact rfl; (repeat first | exact .hd | apply Sel.tl | apply In.tl); exact rfl) | ((with_reducible apply v_loadn_box); exact rfl; (repeat first | exact .hd | apply Sel.tl | apply In.tl); exact rfl; exact rfl) | ((with_reducible apply v_build); exact rfl; exact rfl; exact rfl)))
      | ((with_reducible apply wl_gyes); exact rfl; exact rfl)
      | ((with_reducible apply wl_gno_b); exact rfl; exact rfl; exact rfl; exact rfl)
      | ((with_reducible apply wl_gno_u); exact rfl; exact rfl; exact rfl)
      | ((with_reducible apply wl_boxs); exact rfl; exact rfl; intro _)
      | ((with_reducible apply wl_box1); exact rfl; exact rfl; exact rfl; intro _)
      | ((with_reducible apply wl_storen_box); exact rfl; exact rfl; (repeat first | exact .hd | apply Sel.tl | apply In.tl); exact rfl; exact rfl; exact rfl)
      | ((with_reducible apply wl_putn_box); exact rfl; exact rfl; (repeat first | exact .hd | apply Sel.tl | apply In.tl); exact rfl; exact rfl; exact rfl; exact rfl)
      | ((with_reducible apply wl_gsplit) <;> first | exact rfl | (intro hb; (replace hb := Tidy.out hb; try (exfalso; omega))))
      | (with_reducible first | apply wl_nil | apply thn_n | apply w_seq | apply w_region | apply w_ret | apply w_skip | apply w_exit | apply w_block | apply thn_r | apply thn_e | apply blk_n | apply blk_r | apply blk_e)
      | ((with_reducible apply w_cond_true); exact rfl)
      | ((with_reducible apply w_cond_false); exact rfl)
      | ((with_reducible apply w_cond) <;> first | exact rfl | (intro hb; (replace hb := Tidy.out hb; try (exfalso; omega))))
      | ((with_reducible apply blk_x); exact rfl)
      | ((with_reducible apply wl_v); exact rfl; (with_reducible apply v_succN); exact rfl; exact rfl; (simp only [maxLen] at *; omega))
      | ((with_reducible apply wl_v); exact rfl; (with_reducible apply v_1addN); exact rfl; exact rfl; (simp only [maxLen] at *; omega))
      | ((with_reducible apply wl_v); exact rfl; (with_reducible apply v_addN); exact rfl; exact rfl; (simp only [maxLen] at *; omega)))
    refine ⟨q + 1, ?_, (by first | omega | (dsimp only; omega)), (by (repeat (first | exact Sub.nil _ | refine Sub.cons rfl ?_))), (by (repeat (first | exact Sub.nil _ | refine Sub.cons rfl ?_))), (by (repeat (first | exact MSub.nil _ | refine MSub.pick (by (repeat first | exact .hd | apply Sel.tl | apply In.tl)) ?_ | exact MSub.refl _ | refine MSub.drop .hd ?_)))⟩
    omega
  · repeat' (first
      | ((with_reducible apply wl_callp (f := 47)); exact rfl; exact rfl; (intro w' h; exact awake12_at w'))
      | ((with_reducible apply wl_v); exact rfl; (first | ((with_reducible apply vop_ok); exact rfl) | ((with_reducible apply v_len); exact rfl) | ((with_reducible apply v_lens); exact rfl) | ((with_reducible apply v_load_box); exact rfl; (repeat first | exact .hd | apply Sel.tl | apply In.tl); exact rfl) | ((with_reducible apply v_eqlb); exact rfl; exact rfl) | ((with_reducible apply v_neqb); exact rfl; exact rfl) | ((with_reducible apply v_loadw_box); exact rfl; (repeat first | exact .hd | apply Sel.tl | apply In.tl); exact rfl) | ((with_reducible apply v_loadn_box); exact rfl; (repeat first | exact .hd | apply Sel.tl | apply In.tl); exact rfl; exact rfl) | ((with_reducible apply v_build); exact rfl; exact rfl; exact rfl)))
      | ((with_reducible apply wl_gyes); exact rfl; exact rfl)
      | ((with_reducible apply wl_gno_b); exact rfl; exact rfl; exact rfl; exact rfl)
      | ((with_reducible apply wl_gno_u); exact rfl; exact rfl; exact rfl)
      | ((with_reducible apply wl_boxs); exact rfl; exact rfl; intro _)
      | ((with_reducible apply wl_box1); exact rfl; exact rfl; exact rfl; intro _)
      | ((with_reducible apply wl_storen_box); exact rfl; exact rfl; (repeat first | exact .hd | apply Sel.tl | apply In.tl); exact rfl; exact rfl; exact rfl)
      | ((with_reducible apply wl_putn_box); exact rfl; exact rfl; (repeat first | exact .hd | apply Sel.tl | apply In.tl); exact rfl; exact rfl; exact rfl; exact rfl)
      | ((with_reducible apply wl_gsplit) <;> first | exact rfl | (intro hb; (replace hb := Tidy.out hb; try (exfalso; omega))))
      | (with_reducible first | apply wl_nil | apply thn_n | apply w_seq | apply w_region | apply w_ret | apply w_skip | apply w_exit | apply w_block | apply thn_r | apply thn_e | apply blk_n | apply blk_r | apply blk_e)
      | ((with_reducible apply w_cond_true); exact rfl)
      | ((with_reducible apply w_cond_false); exact rfl)
      | ((with_reducible apply w_cond) <;> first | exact rfl | (intro hb; (replace hb := Tidy.out hb; try (exfalso; omega))))
      | ((with_reducible apply blk_x); exact rfl))
    ((with_reducible apply ret1); exact .inl rfl; exact rfl; exact rfl; exact MSub.nil _)
    rfl
end Go.SL

/-
  More readings of arguments: pairs of numbers.
-/
namespace Go.SL
open Go Go.Proofs Go.ChangeShapes Go.WideShapes Go.ChangeAt Go.RowKit Go.Deep

theorem okWide_array {P : Program} {w : World} {r : Reach} {base t n : Nat} {e : TypeId} {v : Value} (ht : P.underlying t = some (.array n e)) (h : Value.okWide P w r base t v) : ∃ cs, v = .agg cs := by
  simp only [Value.okWide, ht] at h
  obtain ⟨cs, h1, h2⟩ := h
  exact ⟨cs, h1⟩

section
variable {H : Type} {enc : TypeId × Value → H} {w : World} {base : Nat} {spare : Nat → Bool} {held : Bool}

set_option maxRecDepth 100000 in
theorem open_pair {v : Value} {d : DataW H} {p : List MemPlace} (hv : Value.okWide Try.prog w .any base 73 v) (h : DataW.Trod enc Try.prog w 0 spare held 73 v d p) : ∃ a b : Int, v = .agg #[.int .i64 a, .int .i64 b] ∧ I64 a ∧ I64 b := by
  obtain ⟨fuel, hf⟩ := h
  obtain ⟨cs, rfl⟩ := okWide_array Try.underlying73 hv
  have hcs : (Value.agg cs).cells.toList = cs.toList := by simp [Value.cells]
  rw [hcs] at hf
  obtain ⟨xs, n, _, _, hlen, hxl, hx⟩ := DataW.trod_array Try.underlying73 hf
  have e73 : Try.prog.cellsOf 73 = 2 := by kernel_rfl
  have e3 : Try.prog.cellsOf 3 = 1 := by kernel_rfl
  rw [e73] at hlen
  obtain ⟨cs⟩ := cs
  simp only at hlen hx hxl ⊢
  match cs, hlen, xs, hxl with
  | [c0, c1], _, [x0, x1], _ =>
    have h0 : DataW.trod enc Try.prog w 0 spare held n 3 ((([c0, c1] : List Value).drop (0 * Try.prog.cellsOf 3)).take (Try.prog.cellsOf 3)) = some x0 := hx 0 (by decide)
    rw [e3] at h0
    replace h0 : DataW.trod enc Try.prog w 0 spare held n 3 [c0] = some x0 := h0
    have h1 : DataW.trod enc Try.prog w 0 spare held n 3 ((([c0, c1] : List Value).drop (1 * Try.prog.cellsOf 3)).take (Try.prog.cellsOf 3)) = some x1 := hx 1 (by decide)
    rw [e3] at h1
    replace h1 : DataW.trod enc Try.prog w 0 spare held n 3 [c1] = some x1 := h1
    obtain ⟨a0, q0, _, w0⟩ := DataW.trod_int Try.underlying3 h0
    obtain ⟨a1, q1, _, w1⟩ := DataW.trod_int Try.underlying3 h1
    simp only [List.cons.injEq, and_true] at q0 q1
    subst q0; subst q1
    exact ⟨a0, a1, rfl, bounds_i64 w0, bounds_i64 w1⟩
end
end Go.SL

/-
  Moving a tree: what Check says of it stays, its uses move, moving back and moving twice. No program in sight.
-/
namespace Go.SL
open Go

section
variable (f : Nd → Nd) (hk : ∀ n, (f n).kind = n.kind) (hfn : ∀ n, (f n).fn = n.fn) (hn : ∀ n, (f n).n = n.n)
include hk
theorem kindAt_map (L : List Nd) (i : Nat) : kindAt (L.map f) i = kindAt L i := by
  unfold kindAt
  rw [List.getElem?_map, Option.map_map]
  have e : Nd.kind ∘ f = Nd.kind := funext hk
  rw [e]
include hfn
theorem fitsFrom_map (L : List Nd) (n : Nd) : ∀ (l : List Pt) (i : Int), fitsFrom (L.map f) (f n) i l = fitsFrom L n i l
  | [], i => rfl
  | p :: r, i => by
    rw [fitsFrom, fitsFrom, fitsFrom_map L n r]
    unfold fitOne mayAt
    rw [hk, hfn, kindAt_map f hk]
include hn
theorem stepT_map (L : List Nd) (n : Nd) (hf : fieldsE (f n) = fieldsE n) (i : Nat) (st : List Pt) : stepT (L.map f) (f n) i st = stepT L n i st := by
  have hb : below (f n) = below n := by unfold below; rw [hk, hn]
  unfold stepT
  rw [hf, hb, fitsFrom_map f hk hfn, hk]
theorem walkT_map (L : List Nd) : ∀ (r : List Nd), (∀ n ∈ r, fieldsE (f n) = fieldsE n) → ∀ (i : Nat) (st : List Pt) (vs : List Visit), walkT (L.map f) (r.map f) i st vs = walkT L r i st vs
  | [], _, i, st, vs => rfl
  | n :: r, h, i, st, vs => by
    rw [List.map_cons, walkT, walkT, stepT_map f hk hfn hn L n (h n List.mem_cons_self)]
    cases stepT L n i st with
    | inl e => rfl
    | inr x => exact walkT_map L r (fun m hm => h m (List.mem_cons_of_mem _ hm)) _ _ _
theorem checkE_map (L : List Nd) (h : ∀ n ∈ L, fieldsE (f n) = fieldsE n) : checkE (L.map f) = checkE L := by
  unfold checkE checkT
  rw [List.length_map, walkT_map f hk hfn hn L L h, kindAt_map f hk]
end

theorem mvN_kind (c o : Int) (n : Nd) : (mvN c o n).kind = n.kind := by unfold mvN; cases rangesF n <;> rfl
theorem mvN_fn (c o : Int) (n : Nd) : (mvN c o n).fn = n.fn := by unfold mvN; cases rangesF n <;> rfl
theorem mvN_n (c o : Int) (n : Nd) : (mvN c o n).n = n.n := by unfold mvN; cases rangesF n <;> rfl
theorem mvN_ranges (c o : Int) (n : Nd) : rangesF (mvN c o n) = rangesF n := by unfold rangesF; rw [mvN_kind]

theorem farF_iff (b : Int) : farF b = false ↔ -1024 < b ∧ b < 1024 := by
  unfold farF
  rw [← Bool.not_eq_true, Bool.or_eq_true, decide_eq_true_eq, decide_eq_true_eq]
  omega

theorem mvR_of {r : Rct} (hr : rectOk r = true) {c o : Int} (hc : -4096 < c ∧ c < 4096) (ho : -4096 < o ∧ o < 4096) : mvR c o r = ⟨r.c1 + c, r.r1 + o, r.c2 + c, r.r2 + o⟩ := by
  have hk := (rectOk_iff' r).1 hr
  unfold mvR
  rw [I64.wrap (by unfold I64; omega), I64.wrap (by unfold I64; omega), I64.wrap (by unfold I64; omega), I64.wrap (by unfold I64; omega)]

theorem stuck_of {c o : Int} {n : Nd} (hr : rangesF n = true) : stuckN c o n = false ↔ farF c = false ∧ farF o = false ∧ rectOk (mvR c o n.rect) = true := by
  unfold stuckN
  rw [hr, Bool.true_and, ← Bool.not_eq_true]
  simp only [Bool.or_eq_true, decide_eq_true_eq, rectE_ne]
  cases farF c <;> cases farF o <;> cases rectOk (mvR c o n.rect) <;> simp

theorem fields_range {n : Nd} (h : fieldsE n = 0) (hr : rangesF n = true) : n = ⟨n.kind, zeroV, n.rect, 0, 0, 0⟩ ∧ rectOk n.rect = true ∧ oneR n.rect = decide (n.kind = 2) := by
  have hrk := fields_rect h hr
  unfold fieldsE at h
  split at h
  · cases h
  rename_i hh
  simp only [rangesF, Bool.or_eq_true, decide_eq_true_eq] at hr
  have hk : kindOk n = true := by cases q : kindOk n; exact absurd (Or.inl q) hh; rfl
  have he : eqN n (want n) = true := by cases q : eqN n (want n); exact absurd (Or.inr q) hh; rfl
  have he := eqN_iff.1 he
  unfold want at he
  rw [if_neg (by omega), if_pos hr] at he
  refine ⟨he, hrk, ?_⟩
  unfold kindOk at hk
  rw [if_neg (by omega), if_pos hr] at hk
  simp only [Bool.and_eq_true] at hk
  exact eq_of_beq hk.2

theorem range_fields {k : Int} {r : Rct} (hk : k = 2 ∨ k = 3) (hr : rectOk r = true) (ho : oneR r = decide (k = 2)) : fieldsE ⟨k, zeroV, r, 0, 0, 0⟩ = 0 := by
  have hw : want ⟨k, zeroV, r, 0, 0, 0⟩ = ⟨k, zeroV, r, 0, 0, 0⟩ := by
    unfold want
    dsimp only
    rw [if_neg (by omega), if_pos hk]
  have hko : kindOk ⟨k, zeroV, r, 0, 0, 0⟩ = true := by
    unfold kindOk
    dsimp only
    rw [if_neg (by omega), if_pos hk]
    have : rectE r = 0 := by unfold rectE; rw [hr]; rfl
    simp [this, ho]
  unfold fieldsE
  rw [hw, hko, eqN_iff.2 rfl, if_neg (by decide), if_pos (by dsimp only; omega)]

theorem mvN_of {c o : Int} {n : Nd} (hr : rangesF n = true) : mvN c o n = { n with rect := mvR c o n.rect } := by unfold mvN; rw [hr]; rfl
theorem mvN_not {c o : Int} {n : Nd} (hr : rangesF n = false) : mvN c o n = n := by unfold mvN; rw [hr]; rfl

theorem moved_fields {c o : Int} {n : Nd} (h : fieldsE n = 0) (hs : stuckN c o n = false) : fieldsE (mvN c o n) = 0 := by
  cases hr : rangesF n
  · rw [mvN_not hr]; exact h
  · obtain ⟨h1, h2, h3⟩ := fields_range h hr
    obtain ⟨s1, s2, s3⟩ := (stuck_of hr).1 hs
    rw [mvN_of hr]
    have e : ({ n with rect := mvR c o n.rect } : Nd) = ⟨n.kind, zeroV, mvR c o n.rect, 0, 0, 0⟩ := by rw [h1]
    rw [e]
    have hk : n.kind = 2 ∨ n.kind = 3 := by simpa [rangesF] using hr
    refine range_fields hk s3 ?_
    rw [← h3]
    rw [farF_iff] at s1 s2
    rw [mvR_of h2 (by omega) (by omega)]
    unfold oneR
    dsimp only
    rw [show decide (n.rect.c1 + c = n.rect.c2 + c) = decide (n.rect.c1 = n.rect.c2) from by rw [decide_eq_decide]; omega, show decide (n.rect.r1 + o = n.rect.r2 + o) = decide (n.rect.r1 = n.rect.r2) from by rw [decide_eq_decide]; omega]

theorem any_false {α : Type} {g : α → Bool} {L : List α} (h : L.any g = false) : ∀ x ∈ L, g x = false := fun x hx => by
  cases hq : g x
  · rfl
  · have := List.any_eq_true.2 ⟨x, hx, hq⟩
    rw [h] at this
    cases this

theorem moved_check {L : List Nd} {c o : Int} (h : checkE L = 0) (hs : L.any (stuckN c o) = false) : checkE (L.map (mvN c o)) = 0 := by
  rw [checkE_map (mvN c o) (mvN_kind c o) (mvN_fn c o) (mvN_n c o) L fun n hn => ?_]
  · exact h
  · have hf := check_fields h n hn
    rw [hf]
    exact moved_fields hf (any_false hs n hn)

/-! ### Uses -/

def mvU (c o : Int) (u : Us) : Us := { u with rect := mvR c o u.rect }
theorem useOf_map (c o : Int) (n : Nd) (hr : rangesF n = true) (i : Nat) : ∀ r : List Nd, useOf (mvN c o n) i (r.map (mvN c o)) = mvU c o (useOf n i r)
  | [] => by rw [mvN_of hr]; rfl
  | m :: r => by
    simp only [List.map_cons, useOf, mvN_kind, mvN_fn]
    rw [mvN_of hr]
    split <;> rfl
theorem usesFrom_map (c o : Int) : ∀ (r : List Nd) (i : Nat), usesFrom (r.map (mvN c o)) i = (usesFrom r i).map (mvU c o)
  | [], _ => rfl
  | n :: r, i => by
    rw [List.map_cons, usesFrom, usesFrom, mvN_ranges, usesFrom_map c o r]
    cases hr : rangesF n
    · rfl
    · rw [cond_true, cond_true, List.map_cons, useOf_map c o n hr]
theorem usesF_map (c o : Int) (L : List Nd) : usesF (L.map (mvN c o)) = (usesF L).map (mvU c o) := usesFrom_map c o L 0

/-! ### Twice -/

theorem twice_one {a b c o : Int} {n : Nd} (hf : fieldsE n = 0) (hs : stuckN a b n = false) (hc : farF c = false) (ho : farF o = false) :
    mvN c o (mvN a b n) = mvN (a + c) (b + o) n ∧ stuckN c o (mvN a b n) = stuckN (a + c) (b + o) n := by
  cases hr : rangesF n
  · have h2 : rangesF (mvN a b n) = false := by rw [mvN_ranges, hr]
    rw [mvN_not h2, mvN_not hr, mvN_not hr]
    refine ⟨rfl, ?_⟩
    unfold stuckN
    rw [hr]; rfl
  · have hrk := fields_rect hf hr
    obtain ⟨s1, s2, s3⟩ := (stuck_of hr).1 hs
    rw [farF_iff] at s1 s2
    have hc' := (farF_iff c).1 hc
    have ho' := (farF_iff o).1 ho
    have e1 : mvR c o (mvR a b n.rect) = mvR (a + c) (b + o) n.rect := by
      rw [mvR_of s3 (by omega) (by omega), mvR_of hrk (by omega) (by omega), mvR_of hrk (by omega) (by omega)]
      simp only [Int.add_assoc]
    have h2 : rangesF (mvN a b n) = true := by rw [mvN_ranges, hr]
    have e2 : (mvN a b n).rect = mvR a b n.rect := by rw [mvN_of hr]
    refine ⟨?_, ?_⟩
    · rw [mvN_of h2, mvN_of hr, mvN_of hr]
      dsimp only
      rw [e1]
    · rw [Bool.eq_iff_iff, ← Bool.not_eq_false, ← Bool.not_eq_false, stuck_of h2, stuck_of hr, e2, e1, farF_iff, farF_iff, farF_iff, farF_iff, mvR_of hrk (by omega) (by omega), rectOk_iff']
      have hk := (rectOk_iff' n.rect).1 hrk
      dsimp only
      omega

theorem map_congr' {α β : Type} {f g : α → β} {L : List α} (h : ∀ x ∈ L, f x = g x) : L.map f = L.map g := List.map_congr_left h

theorem move_twice {L : List Nd} {a b c o : Int} (h : checkE L = 0) (hs : L.any (stuckN a b) = false) (hc : farF c = false) (ho : farF o = false) : moveE (L.map (mvN a b)) c o = moveE L (a + c) (b + o) := by
  have h1 : (L.map (mvN a b)).any (stuckN c o) = L.any (stuckN (a + c) (b + o)) := by
    rw [List.any_map]
    exact any_congr fun n hn => (twice_one (check_fields h n hn) (any_false hs n hn) hc ho).2
  have h2 : (L.map (mvN a b)).map (mvN c o) = L.map (mvN (a + c) (b + o)) := by
    rw [List.map_map]
    exact map_congr' fun n hn => (twice_one (check_fields h n hn) (any_false hs n hn) hc ho).1
  unfold moveE
  rw [moved_check h hs, h, h1, h2]

theorem move_none {L : List Nd} (h : checkE L = 0) : moveE L 0 0 = (L, 0) := by
  have hz : ∀ n ∈ L, mvN 0 0 n = n ∧ stuckN 0 0 n = false := fun n hn => by
    cases hr : rangesF n
    · refine ⟨mvN_not hr, ?_⟩
      unfold stuckN
      rw [hr]; rfl
    · have hrk := fields_rect (check_fields h n hn) hr
      have e : mvR 0 0 n.rect = n.rect := by rw [mvR_of hrk (by omega) (by omega)]; simp only [Int.add_zero]
      refine ⟨by rw [mvN_of hr, e], ?_⟩
      rw [stuck_of hr, e]
      exact ⟨by decide, by decide, hrk⟩
  unfold moveE
  have h1 : L.any (stuckN 0 0) = false := by
    cases hq : L.any (stuckN 0 0)
    · rfl
    · obtain ⟨x, hx, hx'⟩ := List.any_eq_true.1 hq
      rw [(hz x hx).2] at hx'
      cases hx'
  rw [h, h1, if_neg (by decide), if_neg (by decide)]
  congr 1
  exact (map_congr' fun n hn => (hz n hn).1).trans (List.map_id L)

theorem move_back {L : List Nd} {a b : Int} (h : checkE L = 0) (hs : L.any (stuckN a b) = false) (ha : farF a = false) (hb : farF b = false) : moveE (L.map (mvN a b)) (-a) (-b) = (L, 0) := by
  rw [farF_iff] at ha hb
  rw [move_twice h hs ((farF_iff _).2 (by omega)) ((farF_iff _).2 (by omega)), Int.add_right_neg, Int.add_right_neg]
  exact move_none h
end Go.SL

/-
  RefsMoved returns true.
-/
namespace Go.SL
open Go Go.Proofs
attribute [local irreducible] W WL WQ WG WA VOp thn blk cutP retP FnAt FnIn Held

theorem v_neqU_same {w0 : World} {s : Slots} {H : List Blk} {ty t' : TypeId} {x y : Operand} {a : Us} (hx : ev s x = some (.agg (encU a).toArray)) (hy : ev s y = some (.agg (encU a).toArray)) : VOp Try.prog w0 s H (.binOp .neq 68 x y t') ty (.bool false) := by
  have h := v_neqU (w0 := w0) (H := H) (ty := ty) (t' := t') hx hy
  rwa [eqU_iff.2 rfl] at h

theorem tmod_bounds (a : Int) : -1024 < a.tmod 1024 ∧ a.tmod 1024 < 1024 := by
  have h1 := Int.tmod_lt_of_pos a (show (0 : Int) < 1024 by decide)
  have h2 := Int.tmod_lt_of_pos (-a) (show (0 : Int) < 1024 by decide)
  rw [Int.neg_tmod] at h2
  omega

theorem uses_mv (T : List Nd) (p q : Int) (U : List Us) (v : Value) (w : World) (h : FnAt Try.prog 40 [v] w fun v H => ∃ A cap, v = .tuple #[sl A (U.map (mvU p q)).length cap, .int .i64 0] ∧ H = [.own A 68 6 (U.map (mvU p q)).length cap ((U.map (mvU p q)).flatMap encU)]) :
    FnAt Try.prog 40 [v] w fun v H => ∃ A cap, v = .tuple #[sl A U.length cap, .int .i64 0] ∧ H = [.own A 68 6 U.length cap ((U.map (mvU p q)).flatMap encU)] := by
  rw [List.length_map] at h
  exact h

set_option maxRecDepth 20000 in
set_option maxHeartbeats 4000000 in
theorem RefsMoved_at (L : List Nd) (a0 a1 b0 b1 : Int) (tv : Value) (w : World) (hl : Reads w tv L.length (L.flatMap encN)) : Pure Try.prog 13 [tv, .agg #[.int .i64 a0, .int .i64 a1], .agg #[.int .i64 b0, .int .i64 b1]] w (.bool true) := by
  refine fn_at Try.func13 rfl Try.ntmps13 rfl ?_
  have hf1 := fun (w' : World) (H : List Blk) (hm : Mem w w' H) => Few_at L tv w' (hl.of_w0 hm)
  have hle := few_len L
  generalize fewT L = T at hf1 hle
  repeat' (first
    | ((with_reducible apply wl_call (d := 21)); exact rfl; exact rfl; (intro w' h; exact hf1 w' _ h); (rintro v H' ⟨A1, cap1, rfl, rfl⟩))
    | ((with_reducible apply wl_v); exact rfl; (first | ((with_reducible apply vop_ok); exact rfl) | ((with_reducible apply v_fieldAddr); exact rfl) | ((with_reducible apply v_len); exact rfl) | ((with_reducible apply v_lens); exact rfl) | ((with_reducible apply v_load_box); exact rfl; (repeat first | exact .hd | apply Sel.tl | apply In.tl); exact rfl) | ((with_reducible apply v_eqlb); exact rfl; exact rfl) | ((with_reducible apply v_neqb); exact rfl; exact rfl) | ((with_reducible apply v_loadw_box); exact rfl; (repeat first | exact .hd | apply Sel.tl | apply In.tl); exact rfl) | ((with_reducible apply v_loadn_box); exact rfl; (repeat first | exact .hd | apply Sel.tl | apply In.tl); exact rfl; exact rfl) | ((with_reducible apply v_build); exact rfl; exact rfl; exact rfl)))
    | ((with_reducible apply wl_gyes); exact rfl; exact rfl)
    | ((with_reducible apply wl_gno_b); exact rfl; exact rfl; exact rfl; exact rfl)
    | ((with_reducible apply wl_gno_u); exact rfl; exact rfl; exact rfl)
    | ((with_reducible apply wl_boxs); exact rfl; exact rfl; intro _)
    | ((with_reducible apply wl_box1); exact rfl; exact rfl; exact rfl; intro _)
    | ((with_reducible apply wl_alloc); exact rfl; intro _)
    | ((with_reducible apply wl_storen_box); exact rfl; exact rfl; (repeat first | exact .hd | apply Sel.tl | apply In.tl); exact rfl; exact rfl; exact rfl)
    | ((with_reducible apply wl_putn_box); exact rfl; exact rfl; (repeat first | exact .hd | apply Sel.tl | apply In.tl); exact rfl; exact rfl; exact rfl; exact rfl)
    | ((with_reducible apply wl_gsplit) <;> first | exact rfl | (intro hb; (replace hb := Tidy.out hb; try (exfalso; omega))))
    | (with_reducible first | apply wl_nil | apply thn_n | apply w_seq | apply w_region | apply w_ret | apply w_skip | apply w_exit | apply w_block | apply thn_r | apply thn_e | apply blk_n | apply blk_r | apply blk_e)
    | ((with_reducible apply w_cond_true); exact rfl)
    | ((with_reducible apply w_cond_false); exact rfl)
    | ((with_reducible apply w_cond) <;> first | exact rfl | (intro hb; (replace hb := Tidy.out hb; try (exfalso; omega))))
    | ((with_reducible apply blk_x); exact rfl))
  rename_i gx gy
  refine w_rounds 3 (wrn ?_)
  repeat' (first
    | ((with_reducible apply wl_v); exact rfl; (first | ((with_reducible apply vop_ok); exact rfl) | ((with_reducible apply v_fieldAddr); exact rfl) | ((with_reducible apply v_len); exact rfl) | ((with_reducible apply v_lens); exact rfl) | ((with_reducible apply v_load_box); exact rfl; (repeat first | exact .hd | apply Sel.tl | apply In.tl); exact rfl) | ((with_reducible apply v_eqlb); exact rfl; exact rfl) | ((with_reducible apply v_neqb); exact rfl; exact rfl) | ((with_reducible apply v_loadw_box); exact rfl; (repeat first | exact .hd | apply Sel.tl | apply In.tl); exact rfl) | ((with_reducible apply v_loadn_box); exact rfl; (repeat first | exact .hd | apply Sel.tl | apply In.tl); exact rfl; exact rfl) | ((with_reducible apply v_build); exact rfl; exact rfl; exact rfl)))
    | ((with_reducible apply wl_gyes); exact rfl; exact rfl)
    | ((with_reducible apply wl_gno_b); exact rfl; exact rfl; exact rfl; exact rfl)
    | ((with_reducible apply wl_gno_u); exact rfl; exact rfl; exact rfl)
    | ((with_reducible apply wl_boxs); exact rfl; exact rfl; intro _)
    | ((with_reducible apply wl_box1); exact rfl; exact rfl; exact rfl; intro _)
    | ((with_reducible apply wl_alloc); exact rfl; intro _)
    | ((with_reducible apply wl_storen_box); exact rfl; exact rfl; (repeat first | exact .hd | apply Sel.tl | apply In.tl); exact rfl; exact rfl; exact rfl)
    | ((with_reducible apply wl_putn_box); exact rfl; exact rfl; (repeat first | exact .hd | apply Sel.tl | apply In.tl); exact rfl; exact rfl; exact rfl; exact rfl)
    | ((with_reducible apply wl_gsplit) <;> first | exact rfl | (intro hb; (replace hb := Tidy.out hb; try (exfalso; omega))))
    | (with_reducible first | apply wl_nil | apply thn_n | apply w_seq | apply w_region | apply w_ret | apply w_skip | apply w_exit | apply w_block | apply thn_r | apply thn_e | apply blk_n | apply blk_r | apply blk_e)
    | ((with_reducible apply w_cond_true); exact rfl)
    | ((with_reducible apply w_cond_false); exact rfl)
    | ((with_reducible apply w_cond) <;> first | exact rfl | (intro hb; (replace hb := Tidy.out hb; try (exfalso; omega))))
    | ((with_reducible apply blk_x); exact rfl))
  refine w_drawXg (id := 5) (fun _ => none) (fun (D : Done) (_ : Nat → Gh) => .box gx 73 (bif D 11 then [.int .i64 (a0.tmod 1024), .int .i64 a1] else [.int .i64 a0, .int .i64 a1]) :: .box gy 73 (bif D 13 then [.int .i64 (b0.tmod 1024), .int .i64 b1] else [.int .i64 b0, .int .i64 b1]) :: .own A1 40 11 T.length cap1 (T.flatMap encN) :: []) ?_ ?_ ?_ ?_
  · kernel_rfl
  · kernel_rfl
  · intro γ
    (repeat (first | exact MSub.nil _ | refine MSub.pick (by (repeat first | exact .hd | apply Sel.tl | apply In.tl)) ?_ | exact MSub.refl _ | refine MSub.drop .hd ?_))
  intro γ
  repeat' (first
    | ((with_reducible apply wx_v); exact rfl; exact rfl; exact rfl; (intro D ht; (with_reducible apply v_ia_arr0); exact rfl; exact rfl; exact rfl); exact fun _ => rfl)
    | ((with_reducible apply wx_v (d := 30)); exact rfl; exact rfl; exact rfl; (intro D ht; have n11 : D 11 = false := ht.late (j := 11) (f := 60) (by decide +kernel); (simp only [gat, put, upd, Nat.reduceEqDiff, Nat.reduceAdd, reduceIte, n11, cond_true, cond_false, List.nil_append, List.cons_append, Bool.and_true, Bool.and_false, Bool.true_and, Bool.false_and]); (with_reducible apply v_load_box); exact rfl; (repeat first | exact .hd | apply Sel.tl | apply In.tl); exact rfl); exact fun _ => rfl)
    | ((with_reducible apply wx_v (d := 34)); exact rfl; exact rfl; exact rfl; (intro D ht; have n13 : D 13 = false := ht.late (j := 13) (f := 60) (by decide +kernel); (simp only [gat, put, upd, Nat.reduceEqDiff, Nat.reduceAdd, reduceIte, n13, cond_true, cond_false, List.nil_append, List.cons_append, Bool.and_true, Bool.and_false, Bool.true_and, Bool.false_and]); (with_reducible apply v_load_box); exact rfl; (repeat first | exact .hd | apply Sel.tl | apply In.tl); exact rfl); exact fun _ => rfl)
    | ((with_reducible apply wx_v); exact rfl; exact rfl; exact rfl; (intro D ht; (with_reducible apply v_rem); exact rfl; exact rfl; decide); exact fun _ => rfl)
    | ((with_reducible apply wl_v); exact rfl; (first | ((with_reducible apply vop_ok); exact rfl) | ((with_reducible apply v_fieldAddr); exact rfl) | ((with_reducible apply v_len); exact rfl) | ((with_reducible apply v_lens); exact rfl) | ((with_reducible apply v_load_box); exact rfl; (repeat first | exact .hd | apply Sel.tl | apply In.tl); exact rfl) | ((with_reducible apply v_eqlb); exact rfl; exact rfl) | ((with_reducible apply v_neqb); exact rfl; exact rfl) | ((with_reducible apply v_loadw_box); exact rfl; (repeat first | exact .hd | apply Sel.tl | apply In.tl); exact rfl) | ((with_reducible apply v_loadn_box); exact rfl; (repeat first | exact .hd | apply Sel.tl | apply In.tl); exact rfl; exact rfl) | ((with_reducible apply v_build); exact rfl; exact rfl; exact rfl)))
    | ((with_reducible apply wl_gyes); exact rfl; exact rfl)
    | ((with_reducible apply wl_gno_b); exact rfl; exact rfl; exact rfl; exact rfl)
    | ((with_reducible apply wl_gno_u); exact rfl; exact rfl; exact rfl)
    | ((with_reducible apply wl_boxs); exact rfl; exact rfl; intro _)
    | ((with_reducible apply wl_box1); exact rfl; exact rfl; exact rfl; intro _)
    | ((with_reducible apply wl_alloc); exact rfl; intro _)
    | ((with_reducible apply wl_storen_box); exact rfl; exact rfl; (repeat first | exact .hd | apply Sel.tl | apply In.tl); exact rfl; exact rfl; exact rfl)
    | ((with_reducible apply wl_putn_box); exact rfl; exact rfl; (repeat first | exact .hd | apply Sel.tl | apply In.tl); exact rfl; exact rfl; exact rfl; exact rfl)
    | ((with_reducible apply wl_gsplit) <;> first | exact rfl | (intro hb; (replace hb := Tidy.out hb; try (exfalso; omega))))
    | (with_reducible first | apply wl_nil | apply thn_n | apply w_seq | apply w_region | apply w_ret | apply w_skip | apply w_exit | apply w_block | apply thn_r | apply thn_e | apply blk_n | apply blk_r | apply blk_e | apply wx_nil)
    | ((with_reducible apply w_cond_true); exact rfl)
    | ((with_reducible apply w_cond_false); exact rfl)
    | ((with_reducible apply w_cond) <;> first | exact rfl | (intro hb; (replace hb := Tidy.out hb; try (exfalso; omega))))
    | ((with_reducible apply blk_x); exact rfl)
    | ((with_reducible apply wx_v); exact rfl; exact rfl; exact rfl; (intro D ht; (first | ((with_reducible apply vop_ok); exact rfl) | ((with_reducible apply v_fieldAddr); exact rfl) | ((with_reducible apply v_len); exact rfl) | ((with_reducible apply v_lens); exact rfl) | ((with_reducible apply v_load_box); exact rfl; (repeat first | exact .hd | apply Sel.tl | apply In.tl); exact rfl) | ((with_reducible apply v_eqlb); exact rfl; exact rfl) | ((with_reducible apply v_neqb); exact rfl; exact rfl) | ((with_reducible apply v_loadw_box); exact rfl; (repeat first | exact .hd | apply Sel.tl | apply In.tl); exact rfl) | ((with_reducible apply v_loadn_box); exact rfl; (repeat first | exact .hd | apply Sel.tl | apply In.tl); exact rfl; exact rfl) | ((with_reducible apply v_build); exact rfl; exact rfl; exact rfl))); exact fun _ => rfl)
    | ((with_reducible apply wx_gno); exact rfl; exact rfl; exact rfl; exact fun _ => rfl)
    | ((with_reducible apply wx_gsplit) <;> first | exact rfl | (intro hb; (replace hb := Tidy.out hb; try (exfalso; omega)))))
  refine wx_put (T := 73) rfl rfl rfl rfl rfl rfl rfl (fun D ht => ?_) ?_
  · have n11 : D 11 = false := ht.not
    (simp only [gat, put, upd, Nat.reduceEqDiff, Nat.reduceAdd, reduceIte, n11, cond_true, cond_false, List.nil_append, List.cons_append, Bool.and_true, Bool.and_false, Bool.true_and, Bool.false_and])
    refine ⟨_, _, .hd, ?_, ?_⟩
    · exact Nat.le_of_ble_eq_true rfl
    · (repeat (first | exact MSub.nil _ | refine MSub.pick (by (repeat first | exact .hd | apply Sel.tl | apply In.tl)) ?_ | exact MSub.refl _ | refine MSub.drop .hd ?_))
  repeat' (first
    | ((with_reducible apply wx_v); exact rfl; exact rfl; exact rfl; (intro D ht; (with_reducible apply v_ia_arr0); exact rfl; exact rfl; exact rfl); exact fun _ => rfl)
    | ((with_reducible apply wl_v); exact rfl; (first | ((with_reducible apply vop_ok); exact rfl) | ((with_reducible apply v_fieldAddr); exact rfl) | ((with_reducible apply v_len); exact rfl) | ((with_reducible apply v_lens); exact rfl) | ((with_reducible apply v_load_box); exact rfl; (repeat first | exact .hd | apply Sel.tl | apply In.tl); exact rfl) | ((with_reducible apply v_eqlb); exact rfl; exact rfl) | ((with_reducible apply v_neqb); exact rfl; exact rfl) | ((with_reducible apply v_loadw_box); exact rfl; (repeat first | exact .hd | apply Sel.tl | apply In.tl); exact rfl) | ((with_reducible apply v_loadn_box); exact rfl; (repeat first | exact .hd | apply Sel.tl | apply In.tl); exact rfl; exact rfl) | ((with_reducible apply v_build); exact rfl; exact rfl; exact rfl)))
    | ((with_reducible apply wl_gyes); exact rfl; exact rfl)
    | ((with_reducible apply wl_gno_b); exact rfl; exact rfl; exact rfl; exact rfl)
    | ((with_reducible apply wl_gno_u); exact rfl; exact rfl; exact rfl)
    | ((with_reducible apply wl_boxs); exact rfl; exact rfl; intro _)
    | ((with_reducible apply wl_box1); exact rfl; exact rfl; exact rfl; intro _)
    | ((with_reducible apply wl_alloc); exact rfl; intro _)
    | ((with_reducible apply wl_storen_box); exact rfl; exact rfl; (repeat first | exact .hd | apply Sel.tl | apply In.tl); exact rfl; exact rfl; exact rfl)
    | ((with_reducible apply wl_putn_box); exact rfl; exact rfl; (repeat first | exact .hd | apply Sel.tl | apply In.tl); exact rfl; exact rfl; exact rfl; exact rfl)
    | ((with_reducible apply wl_gsplit) <;> first | exact rfl | (intro hb; (replace hb := Tidy.out hb; try (exfalso; omega))))
    | (with_reducible first | apply wl_nil | apply thn_n | apply w_seq | apply w_region | apply w_ret | apply w_skip | apply w_exit | apply w_block | apply thn_r | apply thn_e | apply blk_n | apply blk_r | apply blk_e | apply wx_nil)
    | ((with_reducible apply w_cond_true); exact rfl)
    | ((with_reducible apply w_cond_false); exact rfl)
    | ((with_reducible apply w_cond) <;> first | exact rfl | (intro hb; (replace hb := Tidy.out hb; try (exfalso; omega))))
    | ((with_reducible apply blk_x); exact rfl)
    | ((with_reducible apply wx_v); exact rfl; exact rfl; exact rfl; (intro D ht; (first | ((with_reducible apply vop_ok); exact rfl) | ((with_reducible apply v_fieldAddr); exact rfl) | ((with_reducible apply v_len); exact rfl) | ((with_reducible apply v_lens); exact rfl) | ((with_reducible apply v_load_box); exact rfl; (repeat first | exact .hd | apply Sel.tl | apply In.tl); exact rfl) | ((with_reducible apply v_eqlb); exact rfl; exact rfl) | ((with_reducible apply v_neqb); exact rfl; exact rfl) | ((with_reducible apply v_loadw_box); exact rfl; (repeat first | exact .hd | apply Sel.tl | apply In.tl); exact rfl) | ((with_reducible apply v_loadn_box); exact rfl; (repeat first | exact .hd | apply Sel.tl | apply In.tl); exact rfl; exact rfl) | ((with_reducible apply v_build); exact rfl; exact rfl; exact rfl))); exact fun _ => rfl)
    | ((with_reducible apply wx_gno); exact rfl; exact rfl; exact rfl; exact fun _ => rfl)
    | ((with_reducible apply wx_gsplit) <;> first | exact rfl | (intro hb; (replace hb := Tidy.out hb; try (exfalso; omega)))))
  refine wx_put (T := 73) rfl rfl rfl rfl rfl rfl rfl (fun D ht => ?_) ?_
  · have n13 : D 13 = false := ht.not
    (simp only [gat, put, upd, Nat.reduceEqDiff, Nat.reduceAdd, reduceIte, n13, cond_true, cond_false, List.nil_append, List.cons_append, Bool.and_true, Bool.and_false, Bool.true_and, Bool.false_and])
    refine ⟨_, _, .tl .hd, ?_, ?_⟩
    · exact Nat.le_of_ble_eq_true rfl
    · (repeat (first | exact MSub.nil _ | refine MSub.pick (by (repeat first | exact .hd | apply Sel.tl | apply In.tl)) ?_ | exact MSub.refl _ | refine MSub.drop .hd ?_))
  repeat' (first
    | ((with_reducible apply wl_v); exact rfl; (first | ((with_reducible apply vop_ok); exact rfl) | ((with_reducible apply v_fieldAddr); exact rfl) | ((with_reducible apply v_len); exact rfl) | ((with_reducible apply v_lens); exact rfl) | ((with_reducible apply v_load_box); exact rfl; (repeat first | exact .hd | apply Sel.tl | apply In.tl); exact rfl) | ((with_reducible apply v_eqlb); exact rfl; exact rfl) | ((with_reducible apply v_neqb); exact rfl; exact rfl) | ((with_reducible apply v_loadw_box); exact rfl; (repeat first | exact .hd | apply Sel.tl | apply In.tl); exact rfl) | ((with_reducible apply v_loadn_box); exact rfl; (repeat first | exact .hd | apply Sel.tl | apply In.tl); exact rfl; exact rfl) | ((with_reducible apply v_build); exact rfl; exact rfl; exact rfl)))
    | ((with_reducible apply wl_gyes); exact rfl; exact rfl)
    | ((with_reducible apply wl_gno_b); exact rfl; exact rfl; exact rfl; exact rfl)
    | ((with_reducible apply wl_gno_u); exact rfl; exact rfl; exact rfl)
    | ((with_reducible apply wl_boxs); exact rfl; exact rfl; intro _)
    | ((with_reducible apply wl_box1); exact rfl; exact rfl; exact rfl; intro _)
    | ((with_reducible apply wl_alloc); exact rfl; intro _)
    | ((with_reducible apply wl_storen_box); exact rfl; exact rfl; (repeat first | exact .hd | apply Sel.tl | apply In.tl); exact rfl; exact rfl; exact rfl)
    | ((with_reducible apply wl_putn_box); exact rfl; exact rfl; (repeat first | exact .hd | apply Sel.tl | apply In.tl); exact rfl; exact rfl; exact rfl; exact rfl)
    | ((with_reducible apply wl_gsplit) <;> first | exact rfl | (intro hb; (replace hb := Tidy.out hb; try (exfalso; omega))))
    | (with_reducible first | apply wl_nil | apply thn_n | apply w_seq | apply w_region | apply w_ret | apply w_skip | apply w_exit | apply w_block | apply thn_r | apply thn_e | apply blk_n | apply blk_r | apply blk_e | apply wx_nil)
    | ((with_reducible apply w_cond_true); exact rfl)
    | ((with_reducible apply w_cond_false); exact rfl)
    | ((with_reducible apply w_cond) <;> first | exact rfl | (intro hb; (replace hb := Tidy.out hb; try (exfalso; omega))))
    | ((with_reducible apply blk_x); exact rfl)
    | ((with_reducible apply wx_v); exact rfl; exact rfl; exact rfl; (intro D ht; (first | ((with_reducible apply vop_ok); exact rfl) | ((with_reducible apply v_fieldAddr); exact rfl) | ((with_reducible apply v_len); exact rfl) | ((with_reducible apply v_lens); exact rfl) | ((with_reducible apply v_load_box); exact rfl; (repeat first | exact .hd | apply Sel.tl | apply In.tl); exact rfl) | ((with_reducible apply v_eqlb); exact rfl; exact rfl) | ((with_reducible apply v_neqb); exact rfl; exact rfl) | ((with_reducible apply v_loadw_box); exact rfl; (repeat first | exact .hd | apply Sel.tl | apply In.tl); exact rfl) | ((with_reducible apply v_loadn_box); exact rfl; (repeat first | exact .hd | apply Sel.tl | apply In.tl); exact rfl; exact rfl) | ((with_reducible apply v_build); exact rfl; exact rfl; exact rfl))); exact fun _ => rfl)
    | ((with_reducible apply wx_gno); exact rfl; exact rfl; exact rfl; exact fun _ => rfl)
    | ((with_reducible apply wx_gsplit) <;> first | exact rfl | (intro hb; (replace hb := Tidy.out hb; try (exfalso; omega)))))
  intro D hD
  have n11 := hD 11 (by decide)
  have n13 := hD 13 (by decide)
  (simp only [gat, put, upd, Nat.reduceEqDiff, Nat.reduceAdd, reduceIte, n11, n13, cond_true, cond_false, List.nil_append, List.cons_append, Bool.and_true, Bool.and_false, Bool.true_and, Bool.false_and])
  repeat' (first
    | ((with_reducible apply wl_v (d := 25)); exact rfl; (with_reducible apply v_add); exact rfl; exact rfl; (unfold I64; omega))
    | ((with_reducible apply wl_v); exact rfl; (first | ((with_reducible apply vop_ok); exact rfl) | ((with_reducible apply v_fieldAddr); exact rfl) | ((with_reducible apply v_len); exact rfl) | ((with_reducible apply v_lens); exact rfl) | ((with_reducible apply v_load_box); exact rfl; (repeat first | exact .hd | apply Sel.tl | apply In.tl); exact rfl) | ((with_reducible apply v_eqlb); exact rfl; exact rfl) | ((with_reducible apply v_neqb); exact rfl; exact rfl) | ((with_reducible apply v_loadw_box); exact rfl; (repeat first | exact .hd | apply Sel.tl | apply In.tl); exact rfl) | ((with_reducible apply v_loadn_box); exact rfl; (repeat first | exact .hd | apply Sel.tl | apply In.tl); exact rfl; exact rfl) | ((with_reducible apply v_build); exact rfl; exact rfl; exact rfl)))
    | ((with_reducible apply wl_gyes); exact rfl; exact rfl)
    | ((with_reducible apply wl_gno_b); exact rfl; exact rfl; exact rfl; exact rfl)
    | ((with_reducible apply wl_gno_u); exact rfl; exact rfl; exact rfl)
    | ((with_reducible apply wl_boxs); exact rfl; exact rfl; intro _)
    | ((with_reducible apply wl_box1); exact rfl; exact rfl; exact rfl; intro _)
    | ((with_reducible apply wl_alloc); exact rfl; intro _)
    | ((with_reducible apply wl_storen_box); exact rfl; exact rfl; (repeat first | exact .hd | apply Sel.tl | apply In.tl); exact rfl; exact rfl; exact rfl)
    | ((with_reducible apply wl_putn_box); exact rfl; exact rfl; (repeat first | exact .hd | apply Sel.tl | apply In.tl); exact rfl; exact rfl; exact rfl; exact rfl)
    | ((with_reducible apply wl_gsplit) <;> first | exact rfl | (intro hb; (replace hb := Tidy.out hb; try (exfalso; omega))))
    | (with_reducible first | apply wl_nil | apply thn_n | apply w_seq | apply w_region | apply w_ret | apply w_skip | apply w_exit | apply w_block | apply thn_r | apply thn_e | apply blk_n | apply blk_r | apply blk_e)
    | ((with_reducible apply w_cond_true); exact rfl)
    | ((with_reducible apply w_cond_false); exact rfl)
    | ((with_reducible apply w_cond) <;> first | exact rfl | (intro hb; (replace hb := Tidy.out hb; try (exfalso; omega))))
    | ((with_reducible apply blk_x); exact rfl))
  refine wrn ?_
  repeat' (first
    | ((with_reducible apply wl_v); exact rfl; (first | ((with_reducible apply vop_ok); exact rfl) | ((with_reducible apply v_fieldAddr); exact rfl) | ((with_reducible apply v_len); exact rfl) | ((with_reducible apply v_lens); exact rfl) | ((with_reducible apply v_load_box); exact rfl; (repeat first | exact .hd | apply Sel.tl | apply In.tl); exact rfl) | ((with_reducible apply v_eqlb); exact rfl; exact rfl) | ((with_reducible apply v_neqb); exact rfl; exact rfl) | ((with_reducible apply v_loadw_box); exact rfl; (repeat first | exact .hd | apply Sel.tl | apply In.tl); exact rfl) | ((with_reducible apply v_loadn_box); exact rfl; (repeat first | exact .hd | apply Sel.tl | apply In.tl); exact rfl; exact rfl) | ((with_reducible apply v_build); exact rfl; exact rfl; exact rfl)))
    | ((with_reducible apply wl_gyes); exact rfl; exact rfl)
    | ((with_reducible apply wl_gno_b); exact rfl; exact rfl; exact rfl; exact rfl)
    | ((with_reducible apply wl_gno_u); exact rfl; exact rfl; exact rfl)
    | ((with_reducible apply wl_boxs); exact rfl; exact rfl; intro _)
    | ((with_reducible apply wl_box1); exact rfl; exact rfl; exact rfl; intro _)
    | ((with_reducible apply wl_alloc); exact rfl; intro _)
    | ((with_reducible apply wl_storen_box); exact rfl; exact rfl; (repeat first | exact .hd | apply Sel.tl | apply In.tl); exact rfl; exact rfl; exact rfl)
    | ((with_reducible apply wl_putn_box); exact rfl; exact rfl; (repeat first | exact .hd | apply Sel.tl | apply In.tl); exact rfl; exact rfl; exact rfl; exact rfl)
    | ((with_reducible apply wl_gsplit) <;> first | exact rfl | (intro hb; (replace hb := Tidy.out hb; try (exfalso; omega))))
    | (with_reducible first | apply wl_nil | apply thn_n | apply w_seq | apply w_region | apply w_ret | apply w_skip | apply w_exit | apply w_block | apply thn_r | apply thn_e | apply blk_n | apply blk_r | apply blk_e)
    | ((with_reducible apply w_cond_true); exact rfl)
    | ((with_reducible apply w_cond_false); exact rfl)
    | ((with_reducible apply w_cond) <;> first | exact rfl | (intro hb; (replace hb := Tidy.out hb; try (exfalso; omega))))
    | ((with_reducible apply blk_x); exact rfl))
  refine w_drawXg (id := 5) (fun _ => none) (fun (D : Done) (_ : Nat → Gh) => .box gx 73 (bif D 11 then [.int .i64 (a0.tmod 1024), .int .i64 (a1.tmod 1024)] else [.int .i64 (a0.tmod 1024), .int .i64 a1]) :: .box gy 73 (bif D 13 then [.int .i64 (b0.tmod 1024), .int .i64 (b1.tmod 1024)] else [.int .i64 (b0.tmod 1024), .int .i64 b1]) :: .own A1 40 11 T.length cap1 (T.flatMap encN) :: []) ?_ ?_ ?_ ?_
  · kernel_rfl
  · kernel_rfl
  · intro γ
    (repeat (first | exact MSub.nil _ | refine MSub.pick (by (repeat first | exact .hd | apply Sel.tl | apply In.tl)) ?_ | exact MSub.refl _ | refine MSub.drop .hd ?_))
  intro γ
  repeat' (first
    | ((with_reducible apply wx_v); exact rfl; exact rfl; exact rfl; (intro D ht; (with_reducible apply v_ia_arr1); exact rfl; exact rfl; exact rfl); exact fun _ => rfl)
    | ((with_reducible apply wx_v (d := 30)); exact rfl; exact rfl; exact rfl; (intro D ht; have n11 : D 11 = false := ht.late (j := 11) (f := 60) (by decide +kernel); (simp only [gat, put, upd, Nat.reduceEqDiff, Nat.reduceAdd, reduceIte, n11, cond_true, cond_false, List.nil_append, List.cons_append, Bool.and_true, Bool.and_false, Bool.true_and, Bool.false_and]); (with_reducible apply v_load_box); exact rfl; (repeat first | exact .hd | apply Sel.tl | apply In.tl); exact rfl); exact fun _ => rfl)
    | ((with_reducible apply wx_v (d := 34)); exact rfl; exact rfl; exact rfl; (intro D ht; have n13 : D 13 = false := ht.late (j := 13) (f := 60) (by decide +kernel); (simp only [gat, put, upd, Nat.reduceEqDiff, Nat.reduceAdd, reduceIte, n13, cond_true, cond_false, List.nil_append, List.cons_append, Bool.and_true, Bool.and_false, Bool.true_and, Bool.false_and]); (with_reducible apply v_load_box); exact rfl; (repeat first | exact .hd | apply Sel.tl | apply In.tl); exact rfl); exact fun _ => rfl)
    | ((with_reducible apply wx_v); exact rfl; exact rfl; exact rfl; (intro D ht; (with_reducible apply v_rem); exact rfl; exact rfl; decide); exact fun _ => rfl)
    | ((with_reducible apply wl_v); exact rfl; (first | ((with_reducible apply vop_ok); exact rfl) | ((with_reducible apply v_fieldAddr); exact rfl) | ((with_reducible apply v_len); exact rfl) | ((with_reducible apply v_lens); exact rfl) | ((with_reducible apply v_load_box); exact rfl; (repeat first | exact .hd | apply Sel.tl | apply In.tl); exact rfl) | ((with_reducible apply v_eqlb); exact rfl; exact rfl) | ((with_reducible apply v_neqb); exact rfl; exact rfl) | ((with_reducible apply v_loadw_box); exact rfl; (repeat first | exact .hd | apply Sel.tl | apply In.tl); exact rfl) | ((with_reducible apply v_loadn_box); exact rfl; (repeat first | exact .hd | apply Sel.tl | apply In.tl); exact rfl; exact rfl) | ((with_reducible apply v_build); exact rfl; exact rfl; exact rfl)))
    | ((with_reducible apply wl_gyes); exact rfl; exact rfl)
    | ((with_reducible apply wl_gno_b); exact rfl; exact rfl; exact rfl; exact rfl)
    | ((with_reducible apply wl_gno_u); exact rfl; exact rfl; exact rfl)
    | ((with_reducible apply wl_boxs); exact rfl; exact rfl; intro _)
    | ((with_reducible apply wl_box1); exact rfl; exact rfl; exact rfl; intro _)
    | ((with_reducible apply wl_alloc); exact rfl; intro _)
    | ((with_reducible apply wl_storen_box); exact rfl; exact rfl; (repeat first | exact .hd | apply Sel.tl | apply In.tl); exact rfl; exact rfl; exact rfl)
    | ((with_reducible apply wl_putn_box); exact rfl; exact rfl; (repeat first | exact .hd | apply Sel.tl | apply In.tl); exact rfl; exact rfl; exact rfl; exact rfl)
    | ((with_reducible apply wl_gsplit) <;> first | exact rfl | (intro hb; (replace hb := Tidy.out hb; try (exfalso; omega))))
    | (with_reducible first | apply wl_nil | apply thn_n | apply w_seq | apply w_region | apply w_ret | apply w_skip | apply w_exit | apply w_block | apply thn_r | apply thn_e | apply blk_n | apply blk_r | apply blk_e | apply wx_nil)
    | ((with_reducible apply w_cond_true); exact rfl)
    | ((with_reducible apply w_cond_false); exact rfl)
    | ((with_reducible apply w_cond) <;> first | exact rfl | (intro hb; (replace hb := Tidy.out hb; try (exfalso; omega))))
    | ((with_reducible apply blk_x); exact rfl)
    | ((with_reducible apply wx_v); exact rfl; exact rfl; exact rfl; (intro D ht; (first | ((with_reducible apply vop_ok); exact rfl) | ((with_reducible apply v_fieldAddr); exact rfl) | ((with_reducible apply v_len); exact rfl) | ((with_reducible apply v_lens); exact rfl) | ((with_reducible apply v_load_box); exact rfl; (repeat first | exact .hd | apply Sel.tl | apply In.tl); exact rfl) | ((with_reducible apply v_eqlb); exact rfl; exact rfl) | ((with_reducible apply v_neqb); exact rfl; exact rfl) | ((with_reducible apply v_loadw_box); exact rfl; (repeat first | exact .hd | apply Sel.tl | apply In.tl); exact rfl) | ((with_reducible apply v_loadn_box); exact rfl; (repeat first | exact .hd | apply Sel.tl | apply In.tl); exact rfl; exact rfl) | ((with_reducible apply v_build); exact rfl; exact rfl; exact rfl))); exact fun _ => rfl)
    | ((with_reducible apply wx_gno); exact rfl; exact rfl; exact rfl; exact fun _ => rfl)
    | ((with_reducible apply wx_gsplit) <;> first | exact rfl | (intro hb; (replace hb := Tidy.out hb; try (exfalso; omega)))))
  refine wx_put (T := 73) rfl rfl rfl rfl rfl rfl rfl (fun D ht => ?_) ?_
  · have n11 : D 11 = false := ht.not
    (simp only [gat, put, upd, Nat.reduceEqDiff, Nat.reduceAdd, reduceIte, n11, cond_true, cond_false, List.nil_append, List.cons_append, Bool.and_true, Bool.and_false, Bool.true_and, Bool.false_and])
    refine ⟨_, _, .hd, ?_, ?_⟩
    · exact Nat.le_of_ble_eq_true rfl
    · (repeat (first | exact MSub.nil _ | refine MSub.pick (by (repeat first | exact .hd | apply Sel.tl | apply In.tl)) ?_ | exact MSub.refl _ | refine MSub.drop .hd ?_))
  repeat' (first
    | ((with_reducible apply wx_v); exact rfl; exact rfl; exact rfl; (intro D ht; (with_reducible apply v_ia_arr1); exact rfl; exact rfl; exact rfl); exact fun _ => rfl)
    | ((with_reducible apply wl_v); exact rfl; (first | ((with_reducible apply vop_ok); exact rfl) | ((with_reducible apply v_fieldAddr); exact rfl) | ((with_reducible apply v_len); exact rfl) | ((with_reducible apply v_lens); exact rfl) | ((with_reducible apply v_load_box); exact rfl; (repeat first | exact .hd | apply Sel.tl | apply In.tl); exact rfl) | ((with_reducible apply v_eqlb); exact rfl; exact rfl) | ((with_reducible apply v_neqb); exact rfl; exact rfl) | ((with_reducible apply v_loadw_box); exact rfl; (repeat first | exact .hd | apply Sel.tl | apply In.tl); exact rfl) | ((with_reducible apply v_loadn_box); exact rfl; (repeat first | exact .hd | apply Sel.tl | apply In.tl); exact rfl; exact rfl) | ((with_reducible apply v_build); exact rfl; exact rfl; exact rfl)))
    | ((with_reducible apply wl_gyes); exact rfl; exact rfl)
    | ((with_reducible apply wl_gno_b); exact rfl; exact rfl; exact rfl; exact rfl)
    | ((with_reducible apply wl_gno_u); exact rfl; exact rfl; exact rfl)
    | ((with_reducible apply wl_boxs); exact rfl; exact rfl; intro _)
    | ((with_reducible apply wl_box1); exact rfl; exact rfl; exact rfl; intro _)
    | ((with_reducible apply wl_alloc); exact rfl; intro _)
    | ((with_reducible apply wl_storen_box); exact rfl; exact rfl; (repeat first | exact .hd | apply Sel.tl | apply In.tl); exact rfl; exact rfl; exact rfl)
    | ((with_reducible apply wl_putn_box); exact rfl; exact rfl; (repeat first | exact .hd | apply Sel.tl | apply In.tl); exact rfl; exact rfl; exact rfl; exact rfl)
    | ((with_reducible apply wl_gsplit) <;> first | exact rfl | (intro hb; (replace hb := Tidy.out hb; try (exfalso; omega))))
    | (with_reducible first | apply wl_nil | apply thn_n | apply w_seq | apply w_region | apply w_ret | apply w_skip | apply w_exit | apply w_block | apply thn_r | apply thn_e | apply blk_n | apply blk_r | apply blk_e | apply wx_nil)
    | ((with_reducible apply w_cond_true); exact rfl)
    | ((with_reducible apply w_cond_false); exact rfl)
    | ((with_reducible apply w_cond) <;> first | exact rfl | (intro hb; (replace hb := Tidy.out hb; try (exfalso; omega))))
    | ((with_reducible apply blk_x); exact rfl)
    | ((with_reducible apply wx_v); exact rfl; exact rfl; exact rfl; (intro D ht; (first | ((with_reducible apply vop_ok); exact rfl) | ((with_reducible apply v_fieldAddr); exact rfl) | ((with_reducible apply v_len); exact rfl) | ((with_reducible apply v_lens); exact rfl) | ((with_reducible apply v_load_box); exact rfl; (repeat first | exact .hd | apply Sel.tl | apply In.tl); exact rfl) | ((with_reducible apply v_eqlb); exact rfl; exact rfl) | ((with_reducible apply v_neqb); exact rfl; exact rfl) | ((with_reducible apply v_loadw_box); exact rfl; (repeat first | exact .hd | apply Sel.tl | apply In.tl); exact rfl) | ((with_reducible apply v_loadn_box); exact rfl; (repeat first | exact .hd | apply Sel.tl | apply In.tl); exact rfl; exact rfl) | ((with_reducible apply v_build); exact rfl; exact rfl; exact rfl))); exact fun _ => rfl)
    | ((with_reducible apply wx_gno); exact rfl; exact rfl; exact rfl; exact fun _ => rfl)
    | ((with_reducible apply wx_gsplit) <;> first | exact rfl | (intro hb; (replace hb := Tidy.out hb; try (exfalso; omega)))))
  refine wx_put (T := 73) rfl rfl rfl rfl rfl rfl rfl (fun D ht => ?_) ?_
  · have n13 : D 13 = false := ht.not
    (simp only [gat, put, upd, Nat.reduceEqDiff, Nat.reduceAdd, reduceIte, n13, cond_true, cond_false, List.nil_append, List.cons_append, Bool.and_true, Bool.and_false, Bool.true_and, Bool.false_and])
    refine ⟨_, _, .tl .hd, ?_, ?_⟩
    · exact Nat.le_of_ble_eq_true rfl
    · (repeat (first | exact MSub.nil _ | refine MSub.pick (by (repeat first | exact .hd | apply Sel.tl | apply In.tl)) ?_ | exact MSub.refl _ | refine MSub.drop .hd ?_))
  repeat' (first
    | ((with_reducible apply wl_v); exact rfl; (first | ((with_reducible apply vop_ok); exact rfl) | ((with_reducible apply v_fieldAddr); exact rfl) | ((with_reducible apply v_len); exact rfl) | ((with_reducible apply v_lens); exact rfl) | ((with_reducible apply v_load_box); exact rfl; (repeat first | exact .hd | apply Sel.tl | apply In.tl); exact rfl) | ((with_reducible apply v_eqlb); exact rfl; exact rfl) | ((with_reducible apply v_neqb); exact rfl; exact rfl) | ((with_reducible apply v_loadw_box); exact rfl; (repeat first | exact .hd | apply Sel.tl | apply In.tl); exact rfl) | ((with_reducible apply v_loadn_box); exact rfl; (repeat first | exact .hd | apply Sel.tl | apply In.tl); exact rfl; exact rfl) | ((with_reducible apply v_build); exact rfl; exact rfl; exact rfl)))
    | ((with_reducible apply wl_gyes); exact rfl; exact rfl)
    | ((with_reducible apply wl_gno_b); exact rfl; exact rfl; exact rfl; exact rfl)
    | ((with_reducible apply wl_gno_u); exact rfl; exact rfl; exact rfl)
    | ((with_reducible apply wl_boxs); exact rfl; exact rfl; intro _)
    | ((with_reducible apply wl_box1); exact rfl; exact rfl; exact rfl; intro _)
    | ((with_reducible apply wl_alloc); exact rfl; intro _)
    | ((with_reducible apply wl_storen_box); exact rfl; exact rfl; (repeat first | exact .hd | apply Sel.tl | apply In.tl); exact rfl; exact rfl; exact rfl)
    | ((with_reducible apply wl_putn_box); exact rfl; exact rfl; (repeat first | exact .hd | apply Sel.tl | apply In.tl); exact rfl; exact rfl; exact rfl; exact rfl)
    | ((with_reducible apply wl_gsplit) <;> first | exact rfl | (intro hb; (replace hb := Tidy.out hb; try (exfalso; omega))))
    | (with_reducible first | apply wl_nil | apply thn_n | apply w_seq | apply w_region | apply w_ret | apply w_skip | apply w_exit | apply w_block | apply thn_r | apply thn_e | apply blk_n | apply blk_r | apply blk_e | apply wx_nil)
    | ((with_reducible apply w_cond_true); exact rfl)
    | ((with_reducible apply w_cond_false); exact rfl)
    | ((with_reducible apply w_cond) <;> first | exact rfl | (intro hb; (replace hb := Tidy.out hb; try (exfalso; omega))))
    | ((with_reducible apply blk_x); exact rfl)
    | ((with_reducible apply wx_v); exact rfl; exact rfl; exact rfl; (intro D ht; (first | ((with_reducible apply vop_ok); exact rfl) | ((with_reducible apply v_fieldAddr); exact rfl) | ((with_reducible apply v_len); exact rfl) | ((with_reducible apply v_lens); exact rfl) | ((with_reducible apply v_load_box); exact rfl; (repeat first | exact .hd | apply Sel.tl | apply In.tl); exact rfl) | ((with_reducible apply v_eqlb); exact rfl; exact rfl) | ((with_reducible apply v_neqb); exact rfl; exact rfl) | ((with_reducible apply v_loadw_box); exact rfl; (repeat first | exact .hd | apply Sel.tl | apply In.tl); exact rfl) | ((with_reducible apply v_loadn_box); exact rfl; (repeat first | exact .hd | apply Sel.tl | apply In.tl); exact rfl; exact rfl) | ((with_reducible apply v_build); exact rfl; exact rfl; exact rfl))); exact fun _ => rfl)
    | ((with_reducible apply wx_gno); exact rfl; exact rfl; exact rfl; exact fun _ => rfl)
    | ((with_reducible apply wx_gsplit) <;> first | exact rfl | (intro hb; (replace hb := Tidy.out hb; try (exfalso; omega)))))
  intro D hD
  have n11 := hD 11 (by decide)
  have n13 := hD 13 (by decide)
  (simp only [gat, put, upd, Nat.reduceEqDiff, Nat.reduceAdd, reduceIte, n11, n13, cond_true, cond_false, List.nil_append, List.cons_append, Bool.and_true, Bool.and_false, Bool.true_and, Bool.false_and])
  repeat' (first
    | ((with_reducible apply wl_v (d := 25)); exact rfl; (with_reducible apply v_add); exact rfl; exact rfl; (unfold I64; omega))
    | ((with_reducible apply wl_v); exact rfl; (first | ((with_reducible apply vop_ok); exact rfl) | ((with_reducible apply v_fieldAddr); exact rfl) | ((with_reducible apply v_len); exact rfl) | ((with_reducible apply v_lens); exact rfl) | ((with_reducible apply v_load_box); exact rfl; (repeat first | exact .hd | apply Sel.tl | apply In.tl); exact rfl) | ((with_reducible apply v_eqlb); exact rfl; exact rfl) | ((with_reducible apply v_neqb); exact rfl; exact rfl) | ((with_reducible apply v_loadw_box); exact rfl; (repeat first | exact .hd | apply Sel.tl | apply In.tl); exact rfl) | ((with_reducible apply v_loadn_box); exact rfl; (repeat first | exact .hd | apply Sel.tl | apply In.tl); exact rfl; exact rfl) | ((with_reducible apply v_build); exact rfl; exact rfl; exact rfl)))
    | ((with_reducible apply wl_gyes); exact rfl; exact rfl)
    | ((with_reducible apply wl_gno_b); exact rfl; exact rfl; exact rfl; exact rfl)
    | ((with_reducible apply wl_gno_u); exact rfl; exact rfl; exact rfl)
    | ((with_reducible apply wl_boxs); exact rfl; exact rfl; intro _)
    | ((with_reducible apply wl_box1); exact rfl; exact rfl; exact rfl; intro _)
    | ((with_reducible apply wl_alloc); exact rfl; intro _)
    | ((with_reducible apply wl_storen_box); exact rfl; exact rfl; (repeat first | exact .hd | apply Sel.tl | apply In.tl); exact rfl; exact rfl; exact rfl)
    | ((with_reducible apply wl_putn_box); exact rfl; exact rfl; (repeat first | exact .hd | apply Sel.tl | apply In.tl); exact rfl; exact rfl; exact rfl; exact rfl)
    | ((with_reducible apply wl_gsplit) <;> first | exact rfl | (intro hb; (replace hb := Tidy.out hb; try (exfalso; omega))))
    | (with_reducible first | apply wl_nil | apply thn_n | apply w_seq | apply w_region | apply w_ret | apply w_skip | apply w_exit | apply w_block | apply thn_r | apply thn_e | apply blk_n | apply blk_r | apply blk_e)
    | ((with_reducible apply w_cond_true); exact rfl)
    | ((with_reducible apply w_cond_false); exact rfl)
    | ((with_reducible apply w_cond) <;> first | exact rfl | (intro hb; (replace hb := Tidy.out hb; try (exfalso; omega))))
    | ((with_reducible apply blk_x); exact rfl))

  refine wrn ?_
  have bp := tmod_bounds a0
  have bq := tmod_bounds a1
  have br := tmod_bounds b0
  have bs := tmod_bounds b1
  generalize a0.tmod 1024 = p at bp ⊢
  generalize a1.tmod 1024 = q at bq ⊢
  generalize b0.tmod 1024 = r at br ⊢
  generalize b1.tmod 1024 = z at bs ⊢
  have m1 := fun (v : Value) (w' : World) h => Move_at T p q v w' h (by omega)
  have c1 := fun (v : Value) (w' : World) h => Check_at T v w' h
  have fp := (farF_iff p).2 bp
  have fq := (farF_iff q).2 bq
  have fr := (farF_iff r).2 br
  have fz := (farF_iff z).2 bs
  by_cases hck : checkE T = 0
  rotate_left
  · have e : moveE T p q = ([], checkE T) := by unfold moveE; rw [if_pos hck]
    rw [e] at m1
    dsimp only at m1
    generalize checkE T = ce at m1 c1 hck
    repeat' (first
      | ((with_reducible apply wl_v); exact rfl; (with_reducible apply v_ia_arr0); exact rfl; exact rfl; exact rfl)
      | ((with_reducible apply wl_v); exact rfl; (with_reducible apply v_ia_arr1); exact rfl; exact rfl; exact rfl)
      | ((with_reducible apply wl_call (f := 48)); exact rfl; exact rfl; (intro w' h; exact m1 _ w' (Reads.of_own (A := A1) h (by (repeat first | exact .hd | apply Sel.tl | apply In.tl)))); (rintro v H' ⟨A2, cap2, rfl, rfl⟩))
      | ((with_reducible apply wl_callp (f := 24)); exact rfl; exact rfl; (intro w' h; exact c1 _ w' (Reads.of_own (A := A1) h (by (repeat first | exact .hd | apply Sel.tl | apply In.tl)))))
      | ((with_reducible apply wl_v); exact rfl; (with_reducible apply v_eql_same); exact rfl; exact rfl)
      | ((with_reducible apply wl_callp (f := 47)); exact rfl; exact rfl; (intro w' h; exact awake12_at w'))
      | ((with_reducible apply wl_v); exact rfl; (first | ((with_reducible apply vop_ok); exact rfl) | ((with_reducible apply v_fieldAddr); exact rfl) | ((with_reducible apply v_len); exact rfl) | ((with_reducible apply v_lens); exact rfl) | ((with_reducible apply v_load_box); exact rfl; (repeat first | exact .hd | apply Sel.tl | apply In.tl); exact rfl) | ((with_reducible apply v_eqlb); exact rfl; exact rfl) | ((with_reducible apply v_neqb); exact rfl; exact rfl) | ((with_reducible apply v_loadw_box); exact rfl; (repeat first | exact .hd | apply Sel.tl | apply In.tl); exact rfl) | ((with_reducible apply v_loadn_box); exact rfl; (repeat first | exact .hd | apply Sel.tl | apply In.tl); exact rfl; exact rfl) | ((with_reducible apply v_build); exact rfl; exact rfl; exact rfl)))
      | ((with_reducible apply wl_gyes); exact rfl; exact rfl)
      | ((with_reducible apply wl_gno_b); exact rfl; exact rfl; exact rfl; exact rfl)
      | ((with_reducible apply wl_gno_u); exact rfl; exact rfl; exact rfl)
      | ((with_reducible apply wl_boxs); exact rfl; exact rfl; intro _)
      | ((with_reducible apply wl_box1); exact rfl; exact rfl; exact rfl; intro _)
      | ((with_reducible apply wl_alloc); exact rfl; intro _)
      | ((with_reducible apply wl_storen_box); exact rfl; exact rfl; (repeat first | exact .hd | apply Sel.tl | apply In.tl); exact rfl; exact rfl; exact rfl)
      | ((with_reducible apply wl_putn_box); exact rfl; exact rfl; (repeat first | exact .hd | apply Sel.tl | apply In.tl); exact rfl; exact rfl; exact rfl; exact rfl)
      | ((with_reducible apply wl_gsplit) <;> first | exact rfl | (intro hb; (replace hb := Tidy.out hb; try (exfalso; omega))))
      | (with_reducible first | apply wl_nil | apply thn_n | apply w_seq | apply w_region | apply w_ret | apply w_skip | apply w_exit | apply w_block | apply thn_r | apply thn_e | apply blk_n | apply blk_r | apply blk_e)
      | ((with_reducible apply w_cond_true); exact rfl)
      | ((with_reducible apply w_cond_false); exact rfl)
      | ((with_reducible apply w_cond) <;> first | exact rfl | (intro hb; (replace hb := Tidy.out hb; try (exfalso; omega))))
      | ((with_reducible apply blk_x); exact rfl))
    all_goals
      ((with_reducible apply ret1); exact .inl rfl; exact rfl; exact rfl; exact MSub.nil _)
      rfl
  rw [hck] at c1
  by_cases hst : T.any (stuckN p q) = true
  · have e : moveE T p q = ([], 3) := by unfold moveE; rw [if_neg (by omega), if_pos hst]
    rw [e] at m1
    dsimp only at m1
    repeat' (first
      | ((with_reducible apply wl_v); exact rfl; (with_reducible apply v_ia_arr0); exact rfl; exact rfl; exact rfl)
      | ((with_reducible apply wl_v); exact rfl; (with_reducible apply v_ia_arr1); exact rfl; exact rfl; exact rfl)
      | ((with_reducible apply wl_call (f := 48)); exact rfl; exact rfl; (intro w' h; exact m1 _ w' (Reads.of_own (A := A1) h (by (repeat first | exact .hd | apply Sel.tl | apply In.tl)))); (rintro v H' ⟨A2, cap2, rfl, rfl⟩))
      | ((with_reducible apply wl_callp (f := 24)); exact rfl; exact rfl; (intro w' h; exact c1 _ w' (Reads.of_own (A := A1) h (by (repeat first | exact .hd | apply Sel.tl | apply In.tl)))))
      | ((with_reducible apply wl_callp (f := 47)); exact rfl; exact rfl; (intro w' h; exact awake12_at w'))
      | ((with_reducible apply wl_v); exact rfl; (first | ((with_reducible apply vop_ok); exact rfl) | ((with_reducible apply v_fieldAddr); exact rfl) | ((with_reducible apply v_len); exact rfl) | ((with_reducible apply v_lens); exact rfl) | ((with_reducible apply v_load_box); exact rfl; (repeat first | exact .hd | apply Sel.tl | apply In.tl); exact rfl) | ((with_reducible apply v_eqlb); exact rfl; exact rfl) | ((with_reducible apply v_neqb); exact rfl; exact rfl) | ((with_reducible apply v_loadw_box); exact rfl; (repeat first | exact .hd | apply Sel.tl | apply In.tl); exact rfl) | ((with_reducible apply v_loadn_box); exact rfl; (repeat first | exact .hd | apply Sel.tl | apply In.tl); exact rfl; exact rfl) | ((with_reducible apply v_build); exact rfl; exact rfl; exact rfl)))
      | ((with_reducible apply wl_gyes); exact rfl; exact rfl)
      | ((with_reducible apply wl_gno_b); exact rfl; exact rfl; exact rfl; exact rfl)
      | ((with_reducible apply wl_gno_u); exact rfl; exact rfl; exact rfl)
      | ((with_reducible apply wl_boxs); exact rfl; exact rfl; intro _)
      | ((with_reducible apply wl_box1); exact rfl; exact rfl; exact rfl; intro _)
      | ((with_reducible apply wl_alloc); exact rfl; intro _)
      | ((with_reducible apply wl_storen_box); exact rfl; exact rfl; (repeat first | exact .hd | apply Sel.tl | apply In.tl); exact rfl; exact rfl; exact rfl)
      | ((with_reducible apply wl_putn_box); exact rfl; exact rfl; (repeat first | exact .hd | apply Sel.tl | apply In.tl); exact rfl; exact rfl; exact rfl; exact rfl)
      | ((with_reducible apply wl_gsplit) <;> first | exact rfl | (intro hb; (replace hb := Tidy.out hb; try (exfalso; omega))))
      | (with_reducible first | apply wl_nil | apply thn_n | apply w_seq | apply w_region | apply w_ret | apply w_skip | apply w_exit | apply w_block | apply thn_r | apply thn_e | apply blk_n | apply blk_r | apply blk_e)
      | ((with_reducible apply w_cond_true); exact rfl)
      | ((with_reducible apply w_cond_false); exact rfl)
      | ((with_reducible apply w_cond) <;> first | exact rfl | (intro hb; (replace hb := Tidy.out hb; try (exfalso; omega))))
      | ((with_reducible apply blk_x); exact rfl))
    all_goals
      ((with_reducible apply ret1); exact .inl rfl; exact rfl; exact rfl; exact MSub.nil _)
      rfl
  replace hst : T.any (stuckN p q) = false := by simpa using hst
  have e : moveE T p q = (T.map (mvN p q), 0) := by unfold moveE; rw [if_neg (by omega), if_neg (by rw [hst]; decide)]
  rw [e] at m1
  dsimp only at m1
  have hrects : ∀ u ∈ usesF T, True := fun _ _ => trivial
  have hml : (T.map (mvN p q)).length = T.length := List.length_map _
  have mb := fun (v : Value) (w' : World) h => Move_at (T.map (mvN p q)) (-p) (-q) v w' h (by omega)
  rw [move_back hck hst fp fq] at mb
  have my := fun (v : Value) (w' : World) h => Move_at (T.map (mvN p q)) r z v w' h (by omega)
  rw [move_twice hck hst fr fz] at my
  have ms := fun (v : Value) (w' : World) h => Move_at T (p + r) (q + z) v w' h (by omega)
  have ua := fun (v : Value) (w' : World) h => Uses_at T v w' h (by omega)
  have ub := fun (v : Value) (w' : World) h => Uses_at (T.map (mvN p q)) v w' h (by omega)
  have eu : usesE T = (usesF T, 0) := by unfold usesE; rw [if_neg (by omega)]
  have ev' : usesE (T.map (mvN p q)) = ((usesF T).map (mvU p q), 0) := by unfold usesE; rw [if_neg (by rw [moved_check hck hst]; decide), usesF_map]
  rw [eu] at ua
  rw [ev'] at ub
  have hul := usesF_len T
  dsimp only at ua ub mb my ms
  replace ub := fun (v : Value) (w' : World) h => uses_mv T p q (usesF T) v w' (ub v w' h)
  generalize usesF T = U at ua ub hul
  generalize T.map (mvN p q) = M at m1 mb my ub hml
  have hX : (moveE T (p + r) (q + z)).1.length ≤ 300 := by
    unfold moveE
    split
    · simp
    · split
      · simp
      · simpa using hle
  generalize moveE T (p + r) (q + z) = X at my ms hX
  obtain ⟨X, xe⟩ := X
  dsimp only at my ms hX
  repeat' (first
    | ((with_reducible apply wl_v); exact rfl; (with_reducible apply v_ia_arr0); exact rfl; exact rfl; exact rfl)
    | ((with_reducible apply wl_v); exact rfl; (with_reducible apply v_ia_arr1); exact rfl; exact rfl; exact rfl)
    | ((with_reducible apply wl_v); exact rfl; (with_reducible apply v_neg); exact rfl; (unfold I64; omega))
    | ((with_reducible apply wl_call (d := 44)); exact rfl; exact rfl; (intro w' h; exact m1 _ w' (Reads.of_own (A := A1) h (by (repeat first | exact .hd | apply Sel.tl | apply In.tl)))); (rintro v H' ⟨A2, cap2, rfl, rfl⟩))
    | ((with_reducible apply wl_call (d := 78)); exact rfl; exact rfl; (intro w' h; exact mb _ w' (Reads.of_own (A := A2) h (by (repeat first | exact .hd | apply Sel.tl | apply In.tl)))); (rintro v H' ⟨A3, cap3, rfl, rfl⟩))
    | ((with_reducible apply wl_call (d := 83)); exact rfl; exact rfl; (intro w' h; exact ua _ w' (Reads.of_own (A := A1) h (by (repeat first | exact .hd | apply Sel.tl | apply In.tl)))); (rintro v H' ⟨A4, cap4, rfl, rfl⟩))
    | ((with_reducible apply wl_call (d := 88)); exact rfl; exact rfl; (intro w' h; exact ub _ w' (Reads.of_own (A := A2) h (by (repeat first | exact .hd | apply Sel.tl | apply In.tl)))); (rintro v H' ⟨A5, cap5, rfl, rfl⟩))
    | ((with_reducible apply wl_callp (f := 27)); exact rfl; exact rfl; (intro w' h; exact EqualTree_same T _ _ w' (Reads.of_own (A := A3) h (by (repeat first | exact .hd | apply Sel.tl | apply In.tl))) (Reads.of_own (A := A1) h (by (repeat first | exact .hd | apply Sel.tl | apply In.tl)))))
    | ((with_reducible apply wl_v (d := 112)); exact rfl; (with_reducible apply v_neq_same); exact rfl; exact rfl)
    | ((with_reducible apply wl_v); exact rfl; (first | ((with_reducible apply vop_ok); exact rfl) | ((with_reducible apply v_fieldAddr); exact rfl) | ((with_reducible apply v_len); exact rfl) | ((with_reducible apply v_lens); exact rfl) | ((with_reducible apply v_load_box); exact rfl; (repeat first | exact .hd | apply Sel.tl | apply In.tl); exact rfl) | ((with_reducible apply v_eqlb); exact rfl; exact rfl) | ((with_reducible apply v_neqb); exact rfl; exact rfl) | ((with_reducible apply v_loadw_box); exact rfl; (repeat first | exact .hd | apply Sel.tl | apply In.tl); exact rfl) | ((with_reducible apply v_loadn_box); exact rfl; (repeat first | exact .hd | apply Sel.tl | apply In.tl); exact rfl; exact rfl) | ((with_reducible apply v_build); exact rfl; exact rfl; exact rfl)))
    | ((with_reducible apply wl_gyes); exact rfl; exact rfl)
    | ((with_reducible apply wl_gno_b); exact rfl; exact rfl; exact rfl; exact rfl)
    | ((with_reducible apply wl_gno_u); exact rfl; exact rfl; exact rfl)
    | ((with_reducible apply wl_boxs); exact rfl; exact rfl; intro _)
    | ((with_reducible apply wl_box1); exact rfl; exact rfl; exact rfl; intro _)
    | ((with_reducible apply wl_alloc); exact rfl; intro _)
    | ((with_reducible apply wl_storen_box); exact rfl; exact rfl; (repeat first | exact .hd | apply Sel.tl | apply In.tl); exact rfl; exact rfl; exact rfl)
    | ((with_reducible apply wl_putn_box); exact rfl; exact rfl; (repeat first | exact .hd | apply Sel.tl | apply In.tl); exact rfl; exact rfl; exact rfl; exact rfl)
    | ((with_reducible apply wl_gsplit) <;> first | exact rfl | (intro hb; (replace hb := Tidy.out hb; try (exfalso; omega))))
    | (with_reducible first | apply wl_nil | apply thn_n | apply w_seq | apply w_region | apply w_ret | apply w_skip | apply w_exit | apply w_block | apply thn_r | apply thn_e | apply blk_n | apply blk_r | apply blk_e)
    | ((with_reducible apply w_cond_true); exact rfl)
    | ((with_reducible apply w_cond_false); exact rfl)
    | ((with_reducible apply w_cond) <;> first | exact rfl | (intro hb; (replace hb := Tidy.out hb; try (exfalso; omega))))
    | ((with_reducible apply blk_x); exact rfl))
  refine w_loopK [0, 4, 5, 8, 12, 14] rfl (fun i : Nat => [(16, .int .i64 (i : Int))]) (fun _ => [.own A5 68 6 U.length cap5 ((U.map (mvU p q)).flatMap encU), .own A4 68 6 U.length cap4 (U.flatMap encU), .own A2 40 11 M.length cap2 (M.flatMap encN), .own A1 40 11 T.length cap1 (T.flatMap encN), .box gx 73 [.int .i64 p, .int .i64 q], .box gy 73 [.int .i64 r, .int .i64 z]])
    (fun i => i ≤ U.length) (fun i => U.length - i) 0 (by omega) (by (repeat (first | exact Sub.nil _ | refine Sub.cons rfl ?_))) (by (repeat (first | exact MSub.nil _ | refine MSub.pick (by (repeat first | exact .hd | apply Sel.tl | apply In.tl)) ?_ | exact MSub.refl _ | refine MSub.drop .hd ?_))) ?_
  intro i hi
  by_cases hlt : i < U.length
  · refine w_some (A := A4) (.tl .hd) (by omega) fun g4 hA4 => ?_
    subst hA4
    refine w_some (A := A5) .hd (by omega) fun g5 hA5 => ?_
    subst hA5
    have hu : U[i]? = some U[i] := List.getElem?_eq_getElem hlt
    have hv : (U.map (mvU p q))[i]? = some (mvU p q U[i]) := by rw [List.getElem?_map, hu]; rfl
    generalize U[i] = u at hu hv
    repeat' (first
      | ((with_reducible apply wl_v); exact rfl; (with_reducible apply v_ia_arr0); exact rfl; exact rfl; exact rfl)
      | ((with_reducible apply wl_v); exact rfl; (with_reducible apply v_ia_arr1); exact rfl; exact rfl; exact rfl)
      | ((with_reducible apply wl_v (d := 122)); exact rfl; (with_reducible apply v_indexAddr); exact rfl; exact rfl; exact hlt)
      | ((with_reducible apply wl_v (d := 123)); exact rfl; (with_reducible apply v_loadi_own); exact encU_len; exact rfl; (repeat first | exact .hd | apply Sel.tl | apply In.tl); exact hu)
      | ((with_reducible apply wl_v (d := 129)); exact rfl; (with_reducible apply v_addw); exact rfl; exact rfl)
      | ((with_reducible apply wl_v (d := 135)); exact rfl; (with_reducible apply v_addw); exact rfl; exact rfl)
      | ((with_reducible apply wl_v (d := 141)); exact rfl; (with_reducible apply v_addw); exact rfl; exact rfl)
      | ((with_reducible apply wl_v (d := 147)); exact rfl; (with_reducible apply v_addw); exact rfl; exact rfl)
      | ((with_reducible apply wq_v (d := 152)); exact rfl; (with_reducible apply v_indexAddr); exact rfl; exact rfl; exact hlt)
      | ((with_reducible apply wq_v (d := 153)); exact rfl; (with_reducible apply v_loadi_own); exact encU_len; exact rfl; (repeat first | exact .hd | apply Sel.tl | apply In.tl); exact hv)
      | ((with_reducible apply wq_v (d := 155)); exact rfl; (with_reducible apply v_neqU_same (a := mvU p q u)); exact rfl; exact rfl)
      | ((with_reducible first | apply wl_v | apply wq_v); exact rfl; (first | ((with_reducible apply vop_ok); exact rfl) | ((with_reducible apply v_fieldAddr); exact rfl) | ((with_reducible apply v_len); exact rfl) | ((with_reducible apply v_lens); exact rfl) | ((with_reducible apply v_load_box); exact rfl; (repeat first | exact .hd | apply Sel.tl | apply In.tl); exact rfl) | ((with_reducible apply v_eqlb); exact rfl; exact rfl) | ((with_reducible apply v_neqb); exact rfl; exact rfl) | ((with_reducible apply v_loadw_box); exact rfl; (repeat first | exact .hd | apply Sel.tl | apply In.tl); exact rfl) | ((with_reducible apply v_loadn_box); exact rfl; (repeat first | exact .hd | apply Sel.tl | apply In.tl); exact rfl; exact rfl) | ((with_reducible apply v_build); exact rfl; exact rfl; exact rfl)))
      | ((with_reducible first | apply wl_gyes | apply wq_gyes); exact rfl; exact rfl)
      | ((with_reducible first | apply wl_gno_b | apply wq_gno_b); exact rfl; exact rfl; exact rfl; exact rfl)
      | ((with_reducible first | apply wl_gno_u | apply wq_gno_u); exact rfl; exact rfl; exact rfl)
      | ((with_reducible apply wl_boxs); exact rfl; exact rfl; intro _)
      | ((with_reducible apply wl_box1); exact rfl; exact rfl; exact rfl; intro _)
      | ((with_reducible apply wl_alloc); exact rfl; intro _)
      | ((with_reducible apply wl_storen_box); exact rfl; exact rfl; (repeat first | exact .hd | apply Sel.tl | apply In.tl); exact rfl; exact rfl; exact rfl)
      | ((with_reducible apply wl_putn_box); exact rfl; exact rfl; (repeat first | exact .hd | apply Sel.tl | apply In.tl); exact rfl; exact rfl; exact rfl; exact rfl)
      | ((with_reducible first | apply wl_gsplit | apply wq_gsplit) <;> first | exact rfl | (intro hb; (replace hb := Tidy.out hb; try (exfalso; omega))))
      | (with_reducible first | apply wl_nil | apply thn_n | apply w_seq | apply w_region | apply w_ret | apply w_skip | apply w_exit | apply w_block | apply thn_r | apply thn_e | apply blk_n | apply blk_r | apply blk_e | apply wq_nil)
      | ((with_reducible apply w_cond_true); exact rfl)
      | ((with_reducible apply w_cond_false); exact rfl)
      | ((with_reducible apply w_cond) <;> first | exact rfl | (intro hb; (replace hb := Tidy.out hb; try (exfalso; omega))))
      | ((with_reducible apply blk_x); exact rfl)
      | ((with_reducible first | apply wl_v | apply wq_v); exact rfl; (with_reducible apply v_succN); exact rfl; exact rfl; (simp only [maxLen] at *; omega))
      | ((with_reducible first | apply wl_v | apply wq_v); exact rfl; (with_reducible apply v_1addN); exact rfl; exact rfl; (simp only [maxLen] at *; omega))
      | ((with_reducible first | apply wl_v | apply wq_v); exact rfl; (with_reducible apply v_addN); exact rfl; exact rfl; (simp only [maxLen] at *; omega))
      | ((with_reducible apply w_draw); kernel_rfl; kernel_rfl))
    refine ⟨i + 1, ?_, (by first | omega | (dsimp only; omega)), (by (repeat (first | exact Sub.nil _ | refine Sub.cons rfl ?_))), (by (repeat (first | exact Sub.nil _ | refine Sub.cons rfl ?_))), (by (repeat (first | exact MSub.nil _ | refine MSub.pick (by (repeat first | exact .hd | apply Sel.tl | apply In.tl)) ?_ | exact MSub.refl _ | refine MSub.drop .hd ?_)))⟩
    omega
  · have e : i = U.length := by omega
    subst e
    repeat' (first
      | ((with_reducible apply wl_v); exact rfl; (with_reducible apply v_ia_arr0); exact rfl; exact rfl; exact rfl)
      | ((with_reducible apply wl_v); exact rfl; (with_reducible apply v_ia_arr1); exact rfl; exact rfl; exact rfl)
      | ((with_reducible apply wl_v); exact rfl; (with_reducible apply v_add); exact rfl; exact rfl; (unfold I64; omega))
      | ((with_reducible apply wl_call (d := 162)); exact rfl; exact rfl; (intro w' h; exact my _ w' (Reads.of_own (A := A2) h (by (repeat first | exact .hd | apply Sel.tl | apply In.tl)))); (rintro v H' ⟨A6, cap6, rfl, rfl⟩))
      | ((with_reducible apply wl_call (d := 177)); exact rfl; exact rfl; (intro w' h; exact ms _ w' (Reads.of_own (A := A1) h (by (repeat first | exact .hd | apply Sel.tl | apply In.tl)))); (rintro v H' ⟨A7, cap7, rfl, rfl⟩))
      | ((with_reducible apply wl_v (d := 182)); exact rfl; (with_reducible apply v_eql_same); exact rfl; exact rfl)
      | ((with_reducible apply wl_callp (f := 27)); exact rfl; exact rfl; (intro w' h; exact EqualTree_same X _ _ w' (Reads.of_own (A := A6) h (by (repeat first | exact .hd | apply Sel.tl | apply In.tl))) (Reads.of_own (A := A7) h (by (repeat first | exact .hd | apply Sel.tl | apply In.tl)))))
      | ((with_reducible apply wl_callp (f := 47)); exact rfl; exact rfl; (intro w' h; exact awake12_at w'))
      | ((with_reducible apply wl_v); exact rfl; (first | ((with_reducible apply vop_ok); exact rfl) | ((with_reducible apply v_fieldAddr); exact rfl) | ((with_reducible apply v_len); exact rfl) | ((with_reducible apply v_lens); exact rfl) | ((with_reducible apply v_load_box); exact rfl; (repeat first | exact .hd | apply Sel.tl | apply In.tl); exact rfl) | ((with_reducible apply v_eqlb); exact rfl; exact rfl) | ((with_reducible apply v_neqb); exact rfl; exact rfl) | ((with_reducible apply v_loadw_box); exact rfl; (repeat first | exact .hd | apply Sel.tl | apply In.tl); exact rfl) | ((with_reducible apply v_loadn_box); exact rfl; (repeat first | exact .hd | apply Sel.tl | apply In.tl); exact rfl; exact rfl) | ((with_reducible apply v_build); exact rfl; exact rfl; exact rfl)))
      | ((with_reducible apply wl_gyes); exact rfl; exact rfl)
      | ((with_reducible apply wl_gno_b); exact rfl; exact rfl; exact rfl; exact rfl)
      | ((with_reducible apply wl_gno_u); exact rfl; exact rfl; exact rfl)
      | ((with_reducible apply wl_boxs); exact rfl; exact rfl; intro _)
      | ((with_reducible apply wl_box1); exact rfl; exact rfl; exact rfl; intro _)
      | ((with_reducible apply wl_alloc); exact rfl; intro _)
      | ((with_reducible apply wl_storen_box); exact rfl; exact rfl; (repeat first | exact .hd | apply Sel.tl | apply In.tl); exact rfl; exact rfl; exact rfl)
      | ((with_reducible apply wl_putn_box); exact rfl; exact rfl; (repeat first | exact .hd | apply Sel.tl | apply In.tl); exact rfl; exact rfl; exact rfl; exact rfl)
      | ((with_reducible apply wl_gsplit) <;> first | exact rfl | (intro hb; (replace hb := Tidy.out hb; try (exfalso; omega))))
      | (with_reducible first | apply wl_nil | apply thn_n | apply w_seq | apply w_region | apply w_ret | apply w_skip | apply w_exit | apply w_block | apply thn_r | apply thn_e | apply blk_n | apply blk_r | apply blk_e)
      | ((with_reducible apply w_cond_true); exact rfl)
      | ((with_reducible apply w_cond_false); exact rfl)
      | ((with_reducible apply w_cond) <;> first | exact rfl | (intro hb; (replace hb := Tidy.out hb; try (exfalso; omega))))
      | ((with_reducible apply blk_x); exact rfl))
    ((with_reducible apply ret1); exact .inl rfl; exact rfl; exact rfl; exact MSub.nil _)
    rfl
end Go.SL

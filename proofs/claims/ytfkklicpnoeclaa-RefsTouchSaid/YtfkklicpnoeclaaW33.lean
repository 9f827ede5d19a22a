/-
  RefsTouch returns true.
-/
import Derived.Test.YtfkklicpnoeclaaW32
namespace Go.SL
open Go Go.Proofs
attribute [local irreducible] W WL WQ WG WA VOp thn blk cutP retP FnAt FnIn Held

theorem rectOk_iff (r : Rct) : rectOk r = true ↔ 1 ≤ r.c1 ∧ r.c1 ≤ 1024 ∧ 1 ≤ r.r1 ∧ r.r1 ≤ 1024 ∧ 1 ≤ r.c2 ∧ r.c2 ≤ 1024 ∧ 1 ≤ r.r2 ∧ r.r2 ≤ 1024 ∧ r.c1 ≤ r.c2 ∧ r.r1 ≤ r.r2 := by
  simp only [rectOk, valid, Bool.and_eq_true, decide_eq_true_eq]
  omega
theorem touch_iff (r : Rct) (u : Us) : touch r u = true ↔ rectOk u.rect = true ∧ rectOk r = true ∧ u.rect.c1 ≤ r.c2 ∧ r.c1 ≤ u.rect.c2 ∧ u.rect.r1 ≤ r.r2 ∧ r.r1 ≤ u.rect.r2 := by
  have h : touch r u = [u.rect, r, meetM u.rect r].all rectOk := by
    unfold touch meetR
    cases [u.rect, r, meetM u.rect r].all rectOk <;> simp
  rw [h]
  simp only [List.all_cons, List.all_nil, Bool.and_true, Bool.and_eq_true, rectOk_iff]
  generalize u.rect = a
  unfold meetM
  dsimp only
  repeat' split
  all_goals omega

theorem touch_split (r : Rct) (row : Int) (h1 : r.r1 ≤ row) (h2 : row < r.r2) (hr : rectOk r = true) (u : Us) : (touch ⟨r.c1, r.r1, r.c2, row⟩ u || touch ⟨r.c1, row + 1, r.c2, r.r2⟩ u) = touch r u := by
  rw [Bool.eq_iff_iff, Bool.or_eq_true, touch_iff, touch_iff, touch_iff]
  simp only [rectOk_iff] at hr ⊢
  omega
theorem any_or {α : Type} (f g : α → Bool) : ∀ L : List α, (L.any f || L.any g) = L.any fun x => f x || g x
  | [] => rfl
  | x :: r => by
    have := any_or f g r
    simp only [List.any_cons]
    rw [← this]
    cases f x <;> cases g x <;> cases r.any f <;> cases r.any g <;> rfl

set_option maxRecDepth 20000 in
set_option maxHeartbeats 4000000 in
theorem RefsTouch_at (L : List Nd) (r : Rct) (row : Int) (tv : Value) (w : World) (hl : Reads w tv L.length (L.flatMap encN)) : Pure Try.prog 14 [tv, .agg (encR r).toArray, .int .i64 row] w (.bool true) := by
  refine fn_at Try.func14 rfl Try.ntmps14 rfl ?_
  have hft : (fewT L).length ≤ 1000000 := by unfold fewT; simp; omega
  have hto := fun (r' : Rct) (tv' : Value) (w' : World) (h : Reads w' tv' (fewT L).length ((fewT L).flatMap encN)) => Touches_at (fewT L) r' tv' w' h hft
  have hus := fun (tv' : Value) (w' : World) (h : Reads w' tv' (fewT L).length ((fewT L).flatMap encN)) => Uses_at (fewT L) tv' w' h hft
  have hul := usesF_len (fewT L)
  have hfew := fun (w' : World) (H : List Blk) (hm : Mem w w' H) => Few_at L tv w' (hl.of_w0 hm)
  unfold usesE at hus
  unfold touchesE at hto
  generalize fewT L = T at *
  have hrc := fun w => rect_at r w
  by_cases hgood : checkE T = 0 ∧ rectOk r = true
  rotate_left
  · by_cases hce : checkE T = 0
    · have hre : rectE r = 3 := by
        unfold rectE
        cases hq : rectOk r
        · rfl
        · exact absurd ⟨hce, hq⟩ hgood
      have hto' := fun (tv' : Value) (w' : World) h => hto r tv' w' h
      rw [hre] at hrc
      simp only [hce, hre] at hto'
      simp only [if_neg (show ¬ ((0 : Int) ≠ 0) by decide), if_pos (show (3 : Int) ≠ 0 by decide)] at hto'
      simp only [hce, if_neg (show ¬ ((0 : Int) ≠ 0) by decide)] at hus
      repeat' (first
        | ((with_reducible apply wl_call (xs := [.tmp 19])); exact rfl; exact rfl; (intro w' h; exact hfew w' _ h); (rintro v H' ⟨A1, cap1, rfl, rfl⟩))
        | ((with_reducible apply wl_callp (f := 44)); exact rfl; exact rfl; (intro w' h; exact hto' _ w' (Reads.of_own (A := A1) h (by (repeat first | exact .hd | apply Sel.tl | apply In.tl)))))
        | ((with_reducible apply wl_call (f := 40)); exact rfl; exact rfl; (intro w' h; exact hus _ w' (Reads.of_own (A := A1) h (by (repeat first | exact .hd | apply Sel.tl | apply In.tl)))); (rintro v H' ⟨A2, cap2, rfl, rfl⟩))
        | ((with_reducible apply wl_callp); exact rfl; exact rfl; (intro w hm; exact hrc w))
        | ((with_reducible apply wl_callp (f := 47)); exact rfl; exact rfl; (intro w' h; exact awake12_at w'))
        | ((with_reducible apply wl_v); exact rfl; (first | ((with_reducible apply vop_ok); exact rfl) | ((with_reducible apply v_fieldAddr); exact rfl) | ((with_reducible apply v_len); exact rfl) | ((with_reducible apply v_lens); exact rfl) | ((with_reducible apply v_load_box); exact rfl; (repeat first | exact .hd | apply Sel.tl | apply In.tl); exact rfl) | ((with_reducible apply v_eqlb); exact rfl; exact rfl) | ((with_reducible apply v_neqb); exact rfl; exact rfl) | ((with_reducible apply v_loadw_box); exact rfl; (repeat first | exact .hd | apply Sel.tl | apply In.tl); exact rfl) | ((with_reducible apply v_loadn_box); exact rfl; (repeat first | exact .hd | apply Sel.tl | apply In.tl); exact rfl; exact rfl) | ((with_reducible apply v_build); exact rfl; exact rfl; exact rfl)))
        | ((with_reducible apply wl_gyes); exact rfl; exact rfl)
        | ((with_reducible apply wl_gno_b); exact rfl; exact rfl; exact rfl; exact rfl)
        | ((with_reducible apply wl_gno_u); exact rfl; exact rfl; exact rfl)
        | ((with_reducible apply wl_boxs); exact rfl; exact rfl; intro _)
        | ((with_reducible apply wl_box1); exact rfl; exact rfl; exact rfl; intro _)
        | ((with_reducible apply wl_alloc); exact rfl; intro _)
        | ((with_reducible apply wl_storen_box); exact rfl; exact rfl; (repeat first | exact .hd | apply Sel.tl | apply In.tl); exact rfl; exact rfl; exact rfl)
        | ((with_reducible apply wl_putn_box); exact rfl; exact rfl; (repeat first | exact .hd | apply Sel.tl | apply In.tl); exact rfl; exact rfl; exact rfl; exact rfl)
        | ((with_reducible apply wl_gsplit) <;> first | exact rfl | (intro hb; (replace hb := Tidy.out hb; try (exfalso; omega))))
        | (with_reducible first | apply wl_nil | apply thn_n | apply w_seq | apply w_region | apply w_ret | apply w_skip | apply w_exit | apply w_block | apply thn_r | apply thn_e | apply blk_n | apply blk_r | apply blk_e)
        | ((with_reducible apply w_cond_true); exact rfl)
        | ((with_reducible apply w_cond_false); exact rfl)
        | ((with_reducible apply w_cond) <;> first | exact rfl | (intro hb; (replace hb := Tidy.out hb; try (exfalso; omega))))
        | ((with_reducible apply blk_x); exact rfl))
      ((with_reducible apply ret1); exact .inl rfl; exact rfl; exact rfl; exact MSub.nil _)
      rfl
    · have hto' := fun (tv' : Value) (w' : World) h => hto r tv' w' h
      simp only [if_pos hce] at hto' hus
      generalize checkE T = ce at *
      repeat' (first
        | ((with_reducible apply wl_call (xs := [.tmp 19])); exact rfl; exact rfl; (intro w' h; exact hfew w' _ h); (rintro v H' ⟨A1, cap1, rfl, rfl⟩))
        | ((with_reducible apply wl_callp (f := 44)); exact rfl; exact rfl; (intro w' h; exact hto' _ w' (Reads.of_own (A := A1) h (by (repeat first | exact .hd | apply Sel.tl | apply In.tl)))))
        | ((with_reducible apply wl_call (f := 40)); exact rfl; exact rfl; (intro w' h; exact hus _ w' (Reads.of_own (A := A1) h (by (repeat first | exact .hd | apply Sel.tl | apply In.tl)))); (rintro v H' ⟨A2, cap2, rfl, rfl⟩))
        | ((with_reducible apply wl_callp); exact rfl; exact rfl; (intro w hm; exact hrc w))
        | ((with_reducible apply wl_callp (f := 47)); exact rfl; exact rfl; (intro w' h; exact awake12_at w'))
        | ((with_reducible apply wl_v); exact rfl; (first | ((with_reducible apply vop_ok); exact rfl) | ((with_reducible apply v_fieldAddr); exact rfl) | ((with_reducible apply v_len); exact rfl) | ((with_reducible apply v_lens); exact rfl) | ((with_reducible apply v_load_box); exact rfl; (repeat first | exact .hd | apply Sel.tl | apply In.tl); exact rfl) | ((with_reducible apply v_eqlb); exact rfl; exact rfl) | ((with_reducible apply v_neqb); exact rfl; exact rfl) | ((with_reducible apply v_loadw_box); exact rfl; (repeat first | exact .hd | apply Sel.tl | apply In.tl); exact rfl) | ((with_reducible apply v_loadn_box); exact rfl; (repeat first | exact .hd | apply Sel.tl | apply In.tl); exact rfl; exact rfl) | ((with_reducible apply v_build); exact rfl; exact rfl; exact rfl)))
        | ((with_reducible apply wl_gyes); exact rfl; exact rfl)
        | ((with_reducible apply wl_gno_b); exact rfl; exact rfl; exact rfl; exact rfl)
        | ((with_reducible apply wl_gno_u); exact rfl; exact rfl; exact rfl)
        | ((with_reducible apply wl_boxs); exact rfl; exact rfl; intro _)
        | ((with_reducible apply wl_box1); exact rfl; exact rfl; exact rfl; intro _)
        | ((with_reducible apply wl_alloc); exact rfl; intro _)
        | ((with_reducible apply wl_storen_box); exact rfl; exact rfl; (repeat first | exact .hd | apply Sel.tl | apply In.tl); exact rfl; exact rfl; exact rfl)
        | ((with_reducible apply wl_putn_box); exact rfl; exact rfl; (repeat first | exact .hd | apply Sel.tl | apply In.tl); exact rfl; exact rfl; exact rfl; exact rfl)
        | ((with_reducible apply wl_gsplit) <;> first | exact rfl | (intro hb; (replace hb := Tidy.out hb; try (exfalso; omega))))
        | (with_reducible first | apply wl_nil | apply thn_n | apply w_seq | apply w_region | apply w_ret | apply w_skip | apply w_exit | apply w_block | apply thn_r | apply thn_e | apply blk_n | apply blk_r | apply blk_e)
        | ((with_reducible apply w_cond_true); exact rfl)
        | ((with_reducible apply w_cond_false); exact rfl)
        | ((with_reducible apply w_cond) <;> first | exact rfl | (intro hb; (replace hb := Tidy.out hb; try (exfalso; omega))))
        | ((with_reducible apply blk_x); exact rfl))
      all_goals
        ((with_reducible apply ret1); exact .inl rfl; exact rfl; exact rfl; exact MSub.nil _)
        rfl
  obtain ⟨hce, hrk⟩ := hgood
  have hre : rectE r = 0 := by unfold rectE; rw [hrk]; rfl
  have hk := (rectOk_iff r).1 hrk
  have hto' := fun (tv' : Value) (w' : World) h => hto r tv' w' h
  rw [hre] at hrc
  simp only [hce, hre] at hto'
  simp only [if_neg (show ¬ ((0 : Int) ≠ 0) by decide)] at hto'
  simp only [hce, if_neg (show ¬ ((0 : Int) ≠ 0) by decide)] at hus
  generalize hU : usesF T = U at *
  repeat' (first
    | ((with_reducible apply wl_call (xs := [.tmp 19])); exact rfl; exact rfl; (intro w' h; exact hfew w' _ h); (rintro v H' ⟨A1, cap1, rfl, rfl⟩))
    | ((with_reducible apply wl_callp (f := 44)); exact rfl; exact rfl; (intro w' h; exact hto' _ w' (Reads.of_own (A := A1) h (by (repeat first | exact .hd | apply Sel.tl | apply In.tl)))))
    | ((with_reducible apply wl_call (f := 40)); exact rfl; exact rfl; (intro w' h; exact hus _ w' (Reads.of_own (A := A1) h (by (repeat first | exact .hd | apply Sel.tl | apply In.tl)))); (rintro v H' ⟨A2, cap2, rfl, rfl⟩))
    | ((with_reducible apply wl_callp); exact rfl; exact rfl; (intro w hm; exact hrc w))
    | ((with_reducible apply wl_callp (f := 47)); exact rfl; exact rfl; (intro w' h; exact awake12_at w'))
    | ((with_reducible apply wl_v); exact rfl; (first | ((with_reducible apply vop_ok); exact rfl) | ((with_reducible apply v_fieldAddr); exact rfl) | ((with_reducible apply v_len); exact rfl) | ((with_reducible apply v_lens); exact rfl) | ((with_reducible apply v_load_box); exact rfl; (repeat first | exact .hd | apply Sel.tl | apply In.tl); exact rfl) | ((with_reducible apply v_eqlb); exact rfl; exact rfl) | ((with_reducible apply v_neqb); exact rfl; exact rfl) | ((with_reducible apply v_loadw_box); exact rfl; (repeat first | exact .hd | apply Sel.tl | apply In.tl); exact rfl) | ((with_reducible apply v_loadn_box); exact rfl; (repeat first | exact .hd | apply Sel.tl | apply In.tl); exact rfl; exact rfl) | ((with_reducible apply v_build); exact rfl; exact rfl; exact rfl)))
    | ((with_reducible apply wl_gyes); exact rfl; exact rfl)
    | ((with_reducible apply wl_gno_b); exact rfl; exact rfl; exact rfl; exact rfl)
    | ((with_reducible apply wl_gno_u); exact rfl; exact rfl; exact rfl)
    | ((with_reducible apply wl_boxs); exact rfl; exact rfl; intro _)
    | ((with_reducible apply wl_box1); exact rfl; exact rfl; exact rfl; intro _)
    | ((with_reducible apply wl_alloc); exact rfl; intro _)
    | ((with_reducible apply wl_storen_box); exact rfl; exact rfl; (repeat first | exact .hd | apply Sel.tl | apply In.tl); exact rfl; exact rfl; exact rfl)
    | ((with_reducible apply wl_putn_box); exact rfl; exact rfl; (repeat first | exact .hd | apply Sel.tl | apply In.tl); exact rfl; exact rfl; exact rfl; exact rfl)
    | ((with_reducible apply wl_gsplit) <;> first | exact rfl | (intro hb; (replace hb := Tidy.out hb; try (exfalso; omega))))
    | (with_reducible first | apply wl_nil | apply thn_n | apply w_seq | apply w_region | apply w_ret | apply w_skip | apply w_exit | apply w_block | apply thn_r | apply thn_e | apply blk_n | apply blk_r | apply blk_e)
    | ((with_reducible apply w_cond_true); exact rfl)
    | ((with_reducible apply w_cond_false); exact rfl)
    | ((with_reducible apply w_cond) <;> first | exact rfl | (intro hb; (replace hb := Tidy.out hb; try (exfalso; omega))))
    | ((with_reducible apply blk_x); exact rfl))
  rename_i g4
  refine w_loop (fun i : Nat => [(0, sl A1 T.length cap1), (2, .int .i64 row), (4, .pointer (some ⟨g4, 0, none⟩)), (7, .bool (U.any (touch r))), (8, .int .i64 0), (9, sl A2 U.length cap2), (11, .bool ((U.take i).any (touch r))), (12, .int .i64 (i : Int))])
    (fun _ => [.own A2 68 6 U.length cap2 (U.flatMap encU), .own A1 40 11 T.length cap1 (T.flatMap encN), .box g4 38 (encR r)]) (fun i => i ≤ U.length) (fun i => U.length - i) 0 (by omega) ?_ ?_ ?_
  · (repeat (first | exact Sub.nil _ | refine Sub.cons rfl ?_))
  · (repeat (first | exact MSub.nil _ | refine MSub.pick (by (repeat first | exact .hd | apply Sel.tl | apply In.tl)) ?_ | exact MSub.refl _ | refine MSub.drop .hd ?_))
  intro i hi
  by_cases hlt : i < U.length
  · refine w_some (A := A2) .hd (by omega) fun g2 hA2 => ?_
    subst hA2
    have hany : (U.take (i + 1)).any (touch r) = ((U.take i).any (touch r) || touch r U[i]) := by
      rw [List.take_succ_eq_append_getElem hlt, List.any_append]; simp
    have hrect : ((U.flatMap encU).drop (0 + i * 6 + 0)).take 4 = encR U[i].rect := by
      have he := congrArg (List.take 4) (flat_elem encU_len U i hlt)
      rw [List.take_take] at he
      rw [Nat.zero_add]
      exact he
    generalize U[i] = u at hany hrect
    have hme := fun w => Meet_at u.rect r w
    have hme2 : touch r u = (meetR u.rect r).2 := rfl
    generalize meetR u.rect r = mt at hme hme2
    obtain ⟨mr, mb⟩ := mt
    dsimp only at hme hme2
    rw [hme2] at hany
    repeat' (first
      | ((with_reducible apply wl_v); exact rfl; (first | ((with_reducible apply vop_ok); exact rfl) | ((with_reducible apply v_fieldAddr); exact rfl) | ((with_reducible apply v_len); exact rfl) | ((with_reducible apply v_lens); exact rfl) | ((with_reducible apply v_load_box); exact rfl; (repeat first | exact .hd | apply Sel.tl | apply In.tl); exact rfl) | ((with_reducible apply v_eqlb); exact rfl; exact rfl) | ((with_reducible apply v_neqb); exact rfl; exact rfl) | ((with_reducible apply v_loadw_box); exact rfl; (repeat first | exact .hd | apply Sel.tl | apply In.tl); exact rfl) | ((with_reducible apply v_loadn_box); exact rfl; (repeat first | exact .hd | apply Sel.tl | apply In.tl); exact rfl; exact rfl) | ((with_reducible apply v_build); exact rfl; exact rfl; exact rfl)))
      | ((with_reducible apply wl_gyes); exact rfl; exact rfl)
      | ((with_reducible apply wl_gno_b); exact rfl; exact rfl; exact rfl; exact rfl)
      | ((with_reducible apply wl_gno_u); exact rfl; exact rfl; exact rfl)
      | ((with_reducible apply wl_boxs); exact rfl; exact rfl; intro _)
      | ((with_reducible apply wl_box1); exact rfl; exact rfl; exact rfl; intro _)
      | ((with_reducible apply wl_alloc); exact rfl; intro _)
      | ((with_reducible apply wl_storen_box); exact rfl; exact rfl; (repeat first | exact .hd | apply Sel.tl | apply In.tl); exact rfl; exact rfl; exact rfl)
      | ((with_reducible apply wl_putn_box); exact rfl; exact rfl; (repeat first | exact .hd | apply Sel.tl | apply In.tl); exact rfl; exact rfl; exact rfl; exact rfl)
      | ((with_reducible apply wl_gsplit) <;> first | exact rfl | (intro hb; (replace hb := Tidy.out hb; try (exfalso; omega))))
      | (with_reducible first | apply wl_nil | apply thn_n | apply w_seq | apply w_region | apply w_ret | apply w_skip | apply w_exit | apply w_block | apply thn_r | apply thn_e | apply blk_n | apply blk_r | apply blk_e)
      | ((with_reducible apply w_cond_true); exact rfl)
      | ((with_reducible apply w_cond_false); exact rfl)
      | ((with_reducible apply w_cond) <;> first | exact rfl | (intro hb; (replace hb := Tidy.out hb; try (exfalso; omega))))
      | ((with_reducible apply blk_x); exact rfl))
    refine w_nilrow 0 0 ?_
    refine w_drawXg (id := 10) (fun | 10 => some fun g => .pointer (some ⟨g.2, 0, none⟩) | _ => none)
      (fun (D : Done) (q : Nat → Gh) => (bif D 10 then Blk.box (q 10).2 38 (bif D 11 then encR mr else [.int .i64 0, .int .i64 0, .int .i64 0, .int .i64 0]) else nilB) :: .own (some g2) 68 6 U.length cap2 (U.flatMap encU) :: .own A1 40 11 T.length cap1 (T.flatMap encN) :: .box g4 38 (encR r) :: []) ?_ ?_ ?_ ?_
    · kernel_rfl
    · kernel_rfl
    · intro γ
      (repeat (first | exact MSub.nil _ | refine MSub.pick (by (repeat first | exact .hd | apply Sel.tl | apply In.tl)) ?_ | exact MSub.refl _ | refine MSub.drop .hd ?_))
    intro γ
    repeat' (first
      | ((with_reducible apply wx_v); exact rfl; exact rfl; exact rfl; (intro D ht; (with_reducible apply v_indexAddr); exact rfl; exact rfl; exact hlt); exact fun _ => rfl)
      | ((with_reducible apply wx_v (d := 59)); exact rfl; exact rfl; exact rfl; (intro D ht; (with_reducible apply v_loads_own (ys := encR u.rect)); exact rfl; (repeat first | exact .hd | apply Sel.tl | apply In.tl); exact hrect; exact rfl); exact fun _ => rfl)
      | ((with_reducible apply wx_callp (f := 51)); exact rfl; exact rfl; exact rfl; (decide +kernel); exact rfl; (intro D ht w hm; exact hme w); exact fun _ => rfl)
      | ((with_reducible apply wl_v); exact rfl; (first | ((with_reducible apply vop_ok); exact rfl) | ((with_reducible apply v_fieldAddr); exact rfl) | ((with_reducible apply v_len); exact rfl) | ((with_reducible apply v_lens); exact rfl) | ((with_reducible apply v_load_box); exact rfl; (repeat first | exact .hd | apply Sel.tl | apply In.tl); exact rfl) | ((with_reducible apply v_eqlb); exact rfl; exact rfl) | ((with_reducible apply v_neqb); exact rfl; exact rfl) | ((with_reducible apply v_loadw_box); exact rfl; (repeat first | exact .hd | apply Sel.tl | apply In.tl); exact rfl) | ((with_reducible apply v_loadn_box); exact rfl; (repeat first | exact .hd | apply Sel.tl | apply In.tl); exact rfl; exact rfl) | ((with_reducible apply v_build); exact rfl; exact rfl; exact rfl)))
      | ((with_reducible apply wl_gyes); exact rfl; exact rfl)
      | ((with_reducible apply wl_gno_b); exact rfl; exact rfl; exact rfl; exact rfl)
      | ((with_reducible apply wl_gno_u); exact rfl; exact rfl; exact rfl)
      | ((with_reducible apply wl_boxs); exact rfl; exact rfl; intro _)
      | ((with_reducible apply wl_box1); exact rfl; exact rfl; exact rfl; intro _)
      | ((with_reducible apply wl_alloc); exact rfl; intro _)
      | ((with_reducible apply wl_storen_box); exact rfl; exact rfl; (repeat first | exact .hd | apply Sel.tl | apply In.tl); exact rfl; exact rfl; exact rfl)
      | ((with_reducible apply wl_putn_box); exact rfl; exact rfl; (repeat first | exact .hd | apply Sel.tl | apply In.tl); exact rfl; exact rfl; exact rfl; exact rfl)
      | ((with_reducible apply wl_gsplit) <;> first | exact rfl | (intro hb; (replace hb := Tidy.out hb; try (exfalso; omega))))
      | (with_reducible first | apply wl_nil | apply thn_n | apply w_seq | apply w_region | apply w_ret | apply w_skip | apply w_exit | apply w_block | apply thn_r | apply thn_e | apply blk_n | apply blk_r | apply blk_e | apply wx_nil)
      | ((with_reducible apply w_cond_true); exact rfl)
      | ((with_reducible apply w_cond_false); exact rfl)
      | ((with_reducible apply w_cond) <;> first | exact rfl | (intro hb; (replace hb := Tidy.out hb; try (exfalso; omega))))
      | ((with_reducible apply blk_x); exact rfl)
      | ((with_reducible apply wx_v); exact rfl; exact rfl; exact rfl; (intro D ht; (first | ((with_reducible apply vop_ok); exact rfl) | ((with_reducible apply v_fieldAddr); exact rfl) | ((with_reducible apply v_len); exact rfl) | ((with_reducible apply v_lens); exact rfl) | ((with_reducible apply v_load_box); exact rfl; (repeat first | exact .hd | apply Sel.tl | apply In.tl); exact rfl) | ((with_reducible apply v_eqlb); exact rfl; exact rfl) | ((with_reducible apply v_neqb); exact rfl; exact rfl) | ((with_reducible apply v_loadw_box); exact rfl; (repeat first | exact .hd | apply Sel.tl | apply In.tl); exact rfl) | ((with_reducible apply v_loadn_box); exact rfl; (repeat first | exact .hd | apply Sel.tl | apply In.tl); exact rfl; exact rfl) | ((with_reducible apply v_build); exact rfl; exact rfl; exact rfl))); exact fun _ => rfl)
      | ((with_reducible apply wx_gno); exact rfl; exact rfl; exact rfl; exact fun _ => rfl)
      | ((with_reducible apply wx_gsplit) <;> first | exact rfl | (intro hb; (replace hb := Tidy.out hb; try (exfalso; omega)))))
    refine wx_non rfl rfl rfl (fun D ht => ?_) ?_
    · have n10 : D 10 = false := ht.not
      have n11 : D 11 = false := ht.late (j := 11) (f := 60) (by decide +kernel)
      (simp only [gat, put, upd, Nat.reduceEqDiff, Nat.reduceAdd, reduceIte, n10, n11, cond_true, cond_false, List.nil_append, List.cons_append, Bool.and_true, Bool.and_false, Bool.true_and, Bool.false_and])
      (with_reducible apply wl_alloc); exact rfl; intro g
      refine wl_nil ⟨rfl, (none, g), rfl, ?_⟩
      (simp only [gat, put, upd, Nat.reduceEqDiff, Nat.reduceAdd, reduceIte, n10, n11, cond_true, cond_false, List.nil_append, List.cons_append, Bool.and_true, Bool.and_false, Bool.true_and, Bool.false_and])
      (repeat (first | exact MSub.nil _ | refine MSub.pick (by (repeat first | exact .hd | apply Sel.tl | apply In.tl)) ?_ | exact MSub.refl _ | refine MSub.drop .hd ?_))
    refine wx_put (T := 38) (vs := encR mr) rfl rfl rfl rfl rfl rfl rfl (fun D ht => ?_) ?_
    · have n11 : D 11 = false := ht.not
      have n10 : D 10 = true := ht.early (i := 10) (f := 60) (by decide +kernel)
      (simp only [gat, put, upd, Nat.reduceEqDiff, Nat.reduceAdd, reduceIte, n10, n11, cond_true, cond_false, List.nil_append, List.cons_append, Bool.and_true, Bool.and_false, Bool.true_and, Bool.false_and])
      refine ⟨_, _, .hd, ?_, ?_⟩
      · exact Nat.le_of_ble_eq_true rfl
      · (repeat (first | exact MSub.nil _ | refine MSub.pick (by (repeat first | exact .hd | apply Sel.tl | apply In.tl)) ?_ | exact MSub.refl _ | refine MSub.drop .hd ?_))
    repeat' (first
      | ((with_reducible apply wl_v); exact rfl; (first | ((with_reducible apply vop_ok); exact rfl) | ((with_reducible apply v_fieldAddr); exact rfl) | ((with_reducible apply v_len); exact rfl) | ((with_reducible apply v_lens); exact rfl) | ((with_reducible apply v_load_box); exact rfl; (repeat first | exact .hd | apply Sel.tl | apply In.tl); exact rfl) | ((with_reducible apply v_eqlb); exact rfl; exact rfl) | ((with_reducible apply v_neqb); exact rfl; exact rfl) | ((with_reducible apply v_loadw_box); exact rfl; (repeat first | exact .hd | apply Sel.tl | apply In.tl); exact rfl) | ((with_reducible apply v_loadn_box); exact rfl; (repeat first | exact .hd | apply Sel.tl | apply In.tl); exact rfl; exact rfl) | ((with_reducible apply v_build); exact rfl; exact rfl; exact rfl)))
      | ((with_reducible apply wl_gyes); exact rfl; exact rfl)
      | ((with_reducible apply wl_gno_b); exact rfl; exact rfl; exact rfl; exact rfl)
      | ((with_reducible apply wl_gno_u); exact rfl; exact rfl; exact rfl)
      | ((with_reducible apply wl_boxs); exact rfl; exact rfl; intro _)
      | ((with_reducible apply wl_box1); exact rfl; exact rfl; exact rfl; intro _)
      | ((with_reducible apply wl_alloc); exact rfl; intro _)
      | ((with_reducible apply wl_storen_box); exact rfl; exact rfl; (repeat first | exact .hd | apply Sel.tl | apply In.tl); exact rfl; exact rfl; exact rfl)
      | ((with_reducible apply wl_putn_box); exact rfl; exact rfl; (repeat first | exact .hd | apply Sel.tl | apply In.tl); exact rfl; exact rfl; exact rfl; exact rfl)
      | ((with_reducible apply wl_gsplit) <;> first | exact rfl | (intro hb; (replace hb := Tidy.out hb; try (exfalso; omega))))
      | (with_reducible first | apply wl_nil | apply thn_n | apply w_seq | apply w_region | apply w_ret | apply w_skip | apply w_exit | apply w_block | apply thn_r | apply thn_e | apply blk_n | apply blk_r | apply blk_e | apply wx_nil)
      | ((with_reducible apply w_cond_true); exact rfl)
      | ((with_reducible apply w_cond_false); exact rfl)
      | ((with_reducible apply w_cond) <;> first | exact rfl | (intro hb; (replace hb := Tidy.out hb; try (exfalso; omega))))
      | ((with_reducible apply blk_x); exact rfl)
      | ((with_reducible apply wx_v); exact rfl; exact rfl; exact rfl; (intro D ht; (first | ((with_reducible apply vop_ok); exact rfl) | ((with_reducible apply v_fieldAddr); exact rfl) | ((with_reducible apply v_len); exact rfl) | ((with_reducible apply v_lens); exact rfl) | ((with_reducible apply v_load_box); exact rfl; (repeat first | exact .hd | apply Sel.tl | apply In.tl); exact rfl) | ((with_reducible apply v_eqlb); exact rfl; exact rfl) | ((with_reducible apply v_neqb); exact rfl; exact rfl) | ((with_reducible apply v_loadw_box); exact rfl; (repeat first | exact .hd | apply Sel.tl | apply In.tl); exact rfl) | ((with_reducible apply v_loadn_box); exact rfl; (repeat first | exact .hd | apply Sel.tl | apply In.tl); exact rfl; exact rfl) | ((with_reducible apply v_build); exact rfl; exact rfl; exact rfl))); exact fun _ => rfl)
      | ((with_reducible apply wx_gno); exact rfl; exact rfl; exact rfl; exact fun _ => rfl)
      | ((with_reducible apply wx_gsplit) <;> first | exact rfl | (intro hb; (replace hb := Tidy.out hb; try (exfalso; omega)))))
    intro D hD
    have n10 := hD 10 (by decide)
    have n11 := hD 11 (by decide)
    (simp only [gat, put, upd, Nat.reduceEqDiff, Nat.reduceAdd, reduceIte, n10, n11, cond_true, cond_false, List.nil_append, List.cons_append, Bool.and_true, Bool.and_false, Bool.true_and, Bool.false_and])
    repeat' (first
      | ((with_reducible apply wl_v); exact rfl; (first | ((with_reducible apply vop_ok); exact rfl) | ((with_reducible apply v_fieldAddr); exact rfl) | ((with_reducible apply v_len); exact rfl) | ((with_reducible apply v_lens); exact rfl) | ((with_reducible apply v_load_box); exact rfl; (repeat first | exact .hd | apply Sel.tl | apply In.tl); exact rfl) | ((with_reducible apply v_eqlb); exact rfl; exact rfl) | ((with_reducible apply v_neqb); exact rfl; exact rfl) | ((with_reducible apply v_loadw_box); exact rfl; (repeat first | exact .hd | apply Sel.tl | apply In.tl); exact rfl) | ((with_reducible apply v_loadn_box); exact rfl; (repeat first | exact .hd | apply Sel.tl | apply In.tl); exact rfl; exact rfl) | ((with_reducible apply v_build); exact rfl; exact rfl; exact rfl)))
      | ((with_reducible apply wl_gyes); exact rfl; exact rfl)
      | ((with_reducible apply wl_gno_b); exact rfl; exact rfl; exact rfl; exact rfl)
      | ((with_reducible apply wl_gno_u); exact rfl; exact rfl; exact rfl)
      | ((with_reducible apply wl_boxs); exact rfl; exact rfl; intro _)
      | ((with_reducible apply wl_box1); exact rfl; exact rfl; exact rfl; intro _)
      | ((with_reducible apply wl_alloc); exact rfl; intro _)
      | ((with_reducible apply wl_storen_box); exact rfl; exact rfl; (repeat first | exact .hd | apply Sel.tl | apply In.tl); exact rfl; exact rfl; exact rfl)
      | ((with_reducible apply wl_putn_box); exact rfl; exact rfl; (repeat first | exact .hd | apply Sel.tl | apply In.tl); exact rfl; exact rfl; exact rfl; exact rfl)
      | ((with_reducible apply wl_gsplit) <;> first | exact rfl | (intro hb; (replace hb := Tidy.out hb; try (exfalso; omega))))
      | (with_reducible first | apply wl_nil | apply thn_n | apply w_seq | apply w_region | apply w_ret | apply w_skip | apply w_exit | apply w_block | apply thn_r | apply thn_e | apply blk_n | apply blk_r | apply blk_e)
      | ((with_reducible apply w_cond_true); exact rfl)
      | ((with_reducible apply w_cond_false); exact rfl)
      | ((with_reducible apply w_cond) <;> first | exact rfl | (intro hb; (replace hb := Tidy.out hb; try (exfalso; omega))))
      | ((with_reducible apply blk_x); exact rfl)
      | ((with_reducible apply wl_v); exact rfl; (with_reducible apply v_succN); exact rfl; exact rfl; (simp only [maxLen] at *; omega))
      | ((with_reducible apply wl_v); exact rfl; (with_reducible apply v_1addN); exact rfl; exact rfl; (simp only [maxLen] at *; omega))
      | ((with_reducible apply wl_v); exact rfl; (with_reducible apply v_addN); exact rfl; exact rfl; (simp only [maxLen] at *; omega)))
    all_goals
      refine ⟨i + 1, hlt, by omega, ?_, ?_⟩
      · rw [hany, hb]
        (repeat (first | exact Sub.nil _ | refine Sub.cons rfl ?_))
      · (repeat (first | exact MSub.nil _ | refine MSub.pick (by (repeat first | exact .hd | apply Sel.tl | apply In.tl)) ?_ | exact MSub.refl _ | refine MSub.drop .hd ?_))
  · have e : i = U.length := by omega
    subst e
    rw [List.take_length]
    have hsp : (r.r1 ≤ row ∧ row < r.r2) → (U.any (touch ⟨r.c1, r.r1, r.c2, row⟩) || U.any (touch ⟨r.c1, row + 1, r.c2, r.r2⟩)) = U.any (touch r) := by
      rintro ⟨h1, h2⟩
      rw [any_or]
      congr 1
      funext u
      exact touch_split r row h1 h2 hrk u
    by_cases hrow : r.r1 ≤ row ∧ row < r.r2
    · have hsp := hsp hrow
      have q1 := fun (tv' : Value) (w' : World) h => hto ⟨r.c1, r.r1, r.c2, row⟩ tv' w' h
      have q2 := fun (tv' : Value) (w' : World) h => hto ⟨r.c1, row + 1, r.c2, r.r2⟩ tv' w' h
      have e1 : rectE ⟨r.c1, r.r1, r.c2, row⟩ = 0 := by
        unfold rectE
        rw [(rectOk_iff ⟨r.c1, r.r1, r.c2, row⟩).2 (by dsimp only; omega)]; rfl
      have e2 : rectE ⟨r.c1, row + 1, r.c2, r.r2⟩ = 0 := by
        unfold rectE
        rw [(rectOk_iff ⟨r.c1, row + 1, r.c2, r.r2⟩).2 (by dsimp only; omega)]; rfl
      simp only [hce, e1] at q1
      simp only [hce, e2] at q2
      simp only [if_neg (show ¬ ((0 : Int) ≠ 0) by decide)] at q1 q2
      generalize U.any (touch ⟨r.c1, r.r1, r.c2, row⟩) = b1 at q1 hsp
      generalize U.any (touch ⟨r.c1, row + 1, r.c2, r.r2⟩) = b2 at q2 hsp
      generalize U.any (touch r) = b3 at *
      repeat' (first
        | ((with_reducible apply wl_callp (d := 96)); exact rfl; exact rfl; (intro w' h; exact q1 _ w' (Reads.of_own (A := A1) h (by (repeat first | exact .hd | apply Sel.tl | apply In.tl)))))
        | ((with_reducible apply wl_callp (d := 110)); exact rfl; exact rfl; (intro w' h; exact q2 _ w' (Reads.of_own (A := A1) h (by (repeat first | exact .hd | apply Sel.tl | apply In.tl)))))
        | ((with_reducible apply wl_callp (f := 47)); exact rfl; exact rfl; (intro w' h; exact awake12_at w'))
        | ((with_reducible apply wl_v (d := 104)); exact rfl; (with_reducible apply v_add); exact rfl; exact rfl; (unfold I64; omega))
        | ((with_reducible apply wl_v); exact rfl; (first | ((with_reducible apply vop_ok); exact rfl) | ((with_reducible apply v_fieldAddr); exact rfl) | ((with_reducible apply v_len); exact rfl) | ((with_reducible apply v_lens); exact rfl) | ((with_reducible apply v_load_box); exact rfl; (repeat first | exact .hd | apply Sel.tl | apply In.tl); exact rfl) | ((with_reducible apply v_eqlb); exact rfl; exact rfl) | ((with_reducible apply v_neqb); exact rfl; exact rfl) | ((with_reducible apply v_loadw_box); exact rfl; (repeat first | exact .hd | apply Sel.tl | apply In.tl); exact rfl) | ((with_reducible apply v_loadn_box); exact rfl; (repeat first | exact .hd | apply Sel.tl | apply In.tl); exact rfl; exact rfl) | ((with_reducible apply v_build); exact rfl; exact rfl; exact rfl)))
        | ((with_reducible apply wl_gyes); exact rfl; exact rfl)
        | ((with_reducible apply wl_gno_b); exact rfl; exact rfl; exact rfl; exact rfl)
        | ((with_reducible apply wl_gno_u); exact rfl; exact rfl; exact rfl)
        | ((with_reducible apply wl_boxs); exact rfl; exact rfl; intro _)
        | ((with_reducible apply wl_box1); exact rfl; exact rfl; exact rfl; intro _)
        | ((with_reducible apply wl_alloc); exact rfl; intro _)
        | ((with_reducible apply wl_storen_box); exact rfl; exact rfl; (repeat first | exact .hd | apply Sel.tl | apply In.tl); exact rfl; exact rfl; exact rfl)
        | ((with_reducible apply wl_putn_box); exact rfl; exact rfl; (repeat first | exact .hd | apply Sel.tl | apply In.tl); exact rfl; exact rfl; exact rfl; exact rfl)
        | ((with_reducible apply wl_gsplit) <;> first | exact rfl | (intro hb; (replace hb := Tidy.out hb; try (exfalso; omega))))
        | (with_reducible first | apply wl_nil | apply thn_n | apply w_seq | apply w_region | apply w_ret | apply w_skip | apply w_exit | apply w_block | apply thn_r | apply thn_e | apply blk_n | apply blk_r | apply blk_e)
        | ((with_reducible apply w_cond_true); exact rfl)
        | ((with_reducible apply w_cond_false); exact rfl)
        | ((with_reducible apply w_cond) <;> first | exact rfl | (intro hb; (replace hb := Tidy.out hb; try (exfalso; omega))))
        | ((with_reducible apply blk_x); exact rfl))
      all_goals
        cases b1 <;> cases b2 <;> cases b3 <;> first | (exfalso; simp_all; done) | (((with_reducible apply ret1); exact .inl rfl; exact rfl; exact rfl; exact MSub.nil _); rfl)
    · generalize U.any (touch r) = b3 at *
      repeat' (first
        | ((with_reducible apply wl_callp (f := 47)); exact rfl; exact rfl; (intro w' h; exact awake12_at w'))
        | ((with_reducible apply wl_v); exact rfl; (first | ((with_reducible apply vop_ok); exact rfl) | ((with_reducible apply v_fieldAddr); exact rfl) | ((with_reducible apply v_len); exact rfl) | ((with_reducible apply v_lens); exact rfl) | ((with_reducible apply v_load_box); exact rfl; (repeat first | exact .hd | apply Sel.tl | apply In.tl); exact rfl) | ((with_reducible apply v_eqlb); exact rfl; exact rfl) | ((with_reducible apply v_neqb); exact rfl; exact rfl) | ((with_reducible apply v_loadw_box); exact rfl; (repeat first | exact .hd | apply Sel.tl | apply In.tl); exact rfl) | ((with_reducible apply v_loadn_box); exact rfl; (repeat first | exact .hd | apply Sel.tl | apply In.tl); exact rfl; exact rfl) | ((with_reducible apply v_build); exact rfl; exact rfl; exact rfl)))
        | ((with_reducible apply wl_gyes); exact rfl; exact rfl)
        | ((with_reducible apply wl_gno_b); exact rfl; exact rfl; exact rfl; exact rfl)
        | ((with_reducible apply wl_gno_u); exact rfl; exact rfl; exact rfl)
        | ((with_reducible apply wl_boxs); exact rfl; exact rfl; intro _)
        | ((with_reducible apply wl_box1); exact rfl; exact rfl; exact rfl; intro _)
        | ((with_reducible apply wl_alloc); exact rfl; intro _)
        | ((with_reducible apply wl_storen_box); exact rfl; exact rfl; (repeat first | exact .hd | apply Sel.tl | apply In.tl); exact rfl; exact rfl; exact rfl)
        | ((with_reducible apply wl_putn_box); exact rfl; exact rfl; (repeat first | exact .hd | apply Sel.tl | apply In.tl); exact rfl; exact rfl; exact rfl; exact rfl)
        | ((with_reducible apply wl_gsplit) <;> first | exact rfl | (intro hb; (replace hb := Tidy.out hb; try (exfalso; omega))))
        | (with_reducible first | apply wl_nil | apply thn_n | apply w_seq | apply w_region | apply w_ret | apply w_skip | apply w_exit | apply w_block | apply thn_r | apply thn_e | apply blk_n | apply blk_r | apply blk_e)
        | ((with_reducible apply w_cond_true); exact rfl)
        | ((with_reducible apply w_cond_false); exact rfl)
        | ((with_reducible apply w_cond) <;> first | exact rfl | (intro hb; (replace hb := Tidy.out hb; try (exfalso; omega))))
        | ((with_reducible apply blk_x); exact rfl))
      all_goals
        cases b3 <;> first | (exfalso; simp_all; done) | (exfalso; omega) | (((with_reducible apply ret1); exact .inl rfl; exact rfl; exact rfl; exact MSub.nil _); rfl)
end Go.SL

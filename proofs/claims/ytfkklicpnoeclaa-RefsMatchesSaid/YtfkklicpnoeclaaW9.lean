/-
  The comparisons of slices, and the copy.
-/
import Derived.Test.YtfkklicpnoeclaaW8
namespace Go.SL
open Go Go.Proofs
attribute [local irreducible] W WL WQ WG WA VOp thn blk retP FnAt FnIn

instance : DecidableEq Nd := fun a b => decidable_of_iff (eqN a b = true) eqN_iff
theorem eqN_dec (a b : Nd) : eqN a b = decide (a = b) := by
  cases h : eqN a b
  · symm; rw [decide_eq_false_iff_not, ← eqN_iff, h]; simp
  · symm; rw [decide_eq_true_eq, ← eqN_iff, h]

theorem eq_drop {α : Type} [DecidableEq α] {L M : List α} {i : Nat} (h1 : i < L.length) (h2 : i < M.length) : decide (L.drop i = M.drop i) = (decide (L[i] = M[i]) && decide (L.drop (i + 1) = M.drop (i + 1))) := by
  rw [List.drop_eq_getElem_cons h1, List.drop_eq_getElem_cons h2]
  simp only [List.cons.injEq, Bool.decide_and]

set_option maxRecDepth 20000 in
theorem EqualTree_at (L M : List Nd) (lv mv : Value) (w : World) (hl : Reads w lv L.length (L.flatMap encN)) (hm : Reads w mv M.length (M.flatMap encN)) :
    Pure Try.prog 27 [lv, mv] w (.bool (decide (L = M))) := by
  obtain ⟨Al, cl, rfl, hl1, hl2, hl3⟩ := hl
  obtain ⟨Am, cm, rfl, hm1, hm2, hm3⟩ := hm
  refine fn_at Try.func27 rfl Try.ntmps27 rfl ?_
  by_cases hlen : L.length = M.length
  · repeat' (first
      | ((with_reducible apply wl_v); exact rfl; (first | ((with_reducible apply vop_ok); exact rfl) | ((with_reducible apply v_len); exact rfl) | ((with_reducible apply v_lens); exact rfl) | ((with_reducible apply v_load_box); exact rfl; (repeat first | exact .hd | apply Sel.tl | apply In.tl); exact rfl) | ((with_reducible apply v_eqlb); exact rfl; exact rfl) | ((with_reducible apply v_neqb); exact rfl; exact rfl) | ((with_reducible apply v_loadw_box); exact rfl; (repeat first | exact .hd | apply Sel.tl | apply In.tl); exact rfl) | ((with_reducible apply v_loadn_box); exact rfl; (repeat first | exact .hd | apply Sel.tl | apply In.tl); exact rfl; exact rfl)))
      | (with_reducible first | apply wl_nil | apply thn_n | apply w_seq | apply w_region | apply w_ret | apply w_skip | apply w_exit | apply w_block | apply thn_r | apply thn_e | apply blk_n | apply blk_r | apply blk_e)
      | ((with_reducible apply w_cond_true); exact rfl)
      | ((with_reducible apply w_cond_false); exact rfl)
      | ((with_reducible apply w_cond) <;> first | exact rfl | (intro hb; (replace hb := Tidy.out hb; try (exfalso; omega))))
      | ((with_reducible apply blk_x); exact rfl))
    refine w_loop (fun i : Nat => [(0, .slice Al L.length cl), (1, .slice Am M.length cm), (5, .int .i64 (i : Int))]) (fun _ => []) (fun i => i ≤ L.length ∧ decide (L = M) = decide (L.drop i = M.drop i)) (fun i => L.length - i) 0 ⟨by omega, rfl⟩ ?_ ?_ ?_
    · (repeat (first | exact Sub.nil _ | refine Sub.cons rfl ?_))
    · (repeat (first | exact MSub.nil _ | refine MSub.pick (by (repeat first | exact .hd | apply Sel.tl | apply In.tl)) ?_ | exact MSub.refl _ | refine MSub.drop .hd ?_))
    · rintro i ⟨hi, hrec⟩
      by_cases hlt : i < L.length
      · have hlt2 : i < M.length := by omega
        obtain ⟨gl, ol, rfl, hrl⟩ := hl3 (by omega)
        obtain ⟨gm, om, rfl, hrm⟩ := hm3 (by omega)
        have he1 := hrl.elem encN_len i hlt
        have he2 := hrm.elem encN_len i hlt2
        rw [eq_drop hlt hlt2, ← eqN_dec] at hrec
        repeat' (first
          | ((with_reducible apply wq_v); exact rfl; (with_reducible apply v_indexAddr); exact rfl; exact rfl; (first | exact hlt | exact hlt2))
          | ((with_reducible apply wq_v); exact rfl; (with_reducible apply v_loadw_ro); exact rfl; (first | exact he1 | exact he2); exact rfl)
          | ((with_reducible apply wq_v); exact rfl; (with_reducible apply v_neqN); exact rfl; exact rfl)
          | ((with_reducible apply wl_v); exact rfl; (with_reducible apply v_succN); exact rfl; exact rfl; (simp only [maxLen] at *; omega))
          | ((with_reducible first | apply wl_v | apply wq_v); exact rfl; (first | ((with_reducible apply vop_ok); exact rfl) | ((with_reducible apply v_len); exact rfl) | ((with_reducible apply v_lens); exact rfl) | ((with_reducible apply v_load_box); exact rfl; (repeat first | exact .hd | apply Sel.tl | apply In.tl); exact rfl) | ((with_reducible apply v_eqlb); exact rfl; exact rfl) | ((with_reducible apply v_neqb); exact rfl; exact rfl) | ((with_reducible apply v_loadw_box); exact rfl; (repeat first | exact .hd | apply Sel.tl | apply In.tl); exact rfl) | ((with_reducible apply v_loadn_box); exact rfl; (repeat first | exact .hd | apply Sel.tl | apply In.tl); exact rfl; exact rfl)))
          | (with_reducible first | apply wl_nil | apply thn_n | apply w_seq | apply w_region | apply w_ret | apply w_skip | apply w_exit | apply w_block | apply thn_r | apply thn_e | apply blk_n | apply blk_r | apply blk_e | apply wq_nil)
          | ((with_reducible apply w_cond_true); exact rfl)
          | ((with_reducible apply w_cond_false); exact rfl)
          | ((with_reducible apply w_cond) <;> first | exact rfl | (intro hb; (replace hb := Tidy.out hb; try (exfalso; omega))))
          | ((with_reducible apply blk_x); exact rfl)
          | ((with_reducible apply w_draw); kernel_rfl; kernel_rfl))
        · ((with_reducible apply ret1); exact .inl rfl; exact rfl; exact rfl; exact MSub.nil _)
          rw [hrec, hb]
          rfl
        · refine ⟨i + 1, ⟨by omega, ?_⟩, by omega, ?_, ?_⟩
          · rw [hrec, hb]
            rfl
          · (repeat (first | exact Sub.nil _ | refine Sub.cons rfl ?_))
          · (repeat (first | exact MSub.nil _ | refine MSub.pick (by (repeat first | exact .hd | apply Sel.tl | apply In.tl)) ?_ | exact MSub.refl _ | refine MSub.drop .hd ?_))
      · have e : i = L.length := by omega
        subst e
        repeat' (first
          | ((with_reducible apply wl_v); exact rfl; (first | ((with_reducible apply vop_ok); exact rfl) | ((with_reducible apply v_len); exact rfl) | ((with_reducible apply v_lens); exact rfl) | ((with_reducible apply v_load_box); exact rfl; (repeat first | exact .hd | apply Sel.tl | apply In.tl); exact rfl) | ((with_reducible apply v_eqlb); exact rfl; exact rfl) | ((with_reducible apply v_neqb); exact rfl; exact rfl) | ((with_reducible apply v_loadw_box); exact rfl; (repeat first | exact .hd | apply Sel.tl | apply In.tl); exact rfl) | ((with_reducible apply v_loadn_box); exact rfl; (repeat first | exact .hd | apply Sel.tl | apply In.tl); exact rfl; exact rfl)))
          | (with_reducible first | apply wl_nil | apply thn_n | apply w_seq | apply w_region | apply w_ret | apply w_skip | apply w_exit | apply w_block | apply thn_r | apply thn_e | apply blk_n | apply blk_r | apply blk_e)
          | ((with_reducible apply w_cond_true); exact rfl)
          | ((with_reducible apply w_cond_false); exact rfl)
          | ((with_reducible apply w_cond) <;> first | exact rfl | (intro hb; (replace hb := Tidy.out hb; try (exfalso; omega))))
          | ((with_reducible apply blk_x); exact rfl))
        ((with_reducible apply ret1); exact .inl rfl; exact rfl; exact rfl; exact MSub.nil _)
        rw [hrec, List.drop_length, hlen, List.drop_length]
        rfl
  · repeat' (first
      | ((with_reducible apply wl_v); exact rfl; (first | ((with_reducible apply vop_ok); exact rfl) | ((with_reducible apply v_len); exact rfl) | ((with_reducible apply v_lens); exact rfl) | ((with_reducible apply v_load_box); exact rfl; (repeat first | exact .hd | apply Sel.tl | apply In.tl); exact rfl) | ((with_reducible apply v_eqlb); exact rfl; exact rfl) | ((with_reducible apply v_neqb); exact rfl; exact rfl) | ((with_reducible apply v_loadw_box); exact rfl; (repeat first | exact .hd | apply Sel.tl | apply In.tl); exact rfl) | ((with_reducible apply v_loadn_box); exact rfl; (repeat first | exact .hd | apply Sel.tl | apply In.tl); exact rfl; exact rfl)))
      | (with_reducible first | apply wl_nil | apply thn_n | apply w_seq | apply w_region | apply w_ret | apply w_skip | apply w_exit | apply w_block | apply thn_r | apply thn_e | apply blk_n | apply blk_r | apply blk_e)
      | ((with_reducible apply w_cond_true); exact rfl)
      | ((with_reducible apply w_cond_false); exact rfl)
      | ((with_reducible apply w_cond) <;> first | exact rfl | (intro hb; (replace hb := Tidy.out hb; try (exfalso; omega))))
      | ((with_reducible apply blk_x); exact rfl))
    ((with_reducible apply ret1); exact .inl rfl; exact rfl; exact rfl; exact MSub.nil _)
    rw [decide_eq_false]
    intro e
    exact hlen (congrArg List.length e)
set_option maxRecDepth 20000 in
theorem Equal_at (L M : List Nd) (lv mv : Value) (w : World) (hl : Reads w lv L.length (L.flatMap encN)) (hm : Reads w mv M.length (M.flatMap encN)) :
    Pure Try.prog 29 [lv, mv] w (.bool (decide (L = M))) := by
  obtain ⟨Al, cl, rfl, hl1, hl2, hl3⟩ := hl
  obtain ⟨Am, cm, rfl, hm1, hm2, hm3⟩ := hm
  refine fn_at Try.func29 rfl Try.ntmps29 rfl ?_
  by_cases hlen : L.length = M.length
  · repeat' (first
      | ((with_reducible apply wl_v); exact rfl; (first | ((with_reducible apply vop_ok); exact rfl) | ((with_reducible apply v_len); exact rfl) | ((with_reducible apply v_lens); exact rfl) | ((with_reducible apply v_load_box); exact rfl; (repeat first | exact .hd | apply Sel.tl | apply In.tl); exact rfl) | ((with_reducible apply v_eqlb); exact rfl; exact rfl) | ((with_reducible apply v_neqb); exact rfl; exact rfl) | ((with_reducible apply v_loadw_box); exact rfl; (repeat first | exact .hd | apply Sel.tl | apply In.tl); exact rfl) | ((with_reducible apply v_loadn_box); exact rfl; (repeat first | exact .hd | apply Sel.tl | apply In.tl); exact rfl; exact rfl)))
      | (with_reducible first | apply wl_nil | apply thn_n | apply w_seq | apply w_region | apply w_ret | apply w_skip | apply w_exit | apply w_block | apply thn_r | apply thn_e | apply blk_n | apply blk_r | apply blk_e)
      | ((with_reducible apply w_cond_true); exact rfl)
      | ((with_reducible apply w_cond_false); exact rfl)
      | ((with_reducible apply w_cond) <;> first | exact rfl | (intro hb; (replace hb := Tidy.out hb; try (exfalso; omega))))
      | ((with_reducible apply blk_x); exact rfl))
    refine w_loop (fun i : Nat => [(0, .slice Al L.length cl), (1, .slice Am M.length cm), (12, .int .i64 (L.length : Int)), (13, .int .i64 (i : Int))]) (fun _ => []) (fun i => i ≤ L.length ∧ decide (L = M) = decide (L.drop i = M.drop i)) (fun i => L.length - i) 0 ⟨by omega, rfl⟩ ?_ ?_ ?_
    · (repeat (first | exact Sub.nil _ | refine Sub.cons rfl ?_))
    · (repeat (first | exact MSub.nil _ | refine MSub.pick (by (repeat first | exact .hd | apply Sel.tl | apply In.tl)) ?_ | exact MSub.refl _ | refine MSub.drop .hd ?_))
    · rintro i ⟨hi, hrec⟩
      by_cases hlt : i < L.length
      · have hlt2 : i < M.length := by omega
        obtain ⟨gl, ol, rfl, hrl⟩ := hl3 (by omega)
        obtain ⟨gm, om, rfl, hrm⟩ := hm3 (by omega)
        have he1 := hrl.elem encN_len i hlt
        have he2 := hrm.elem encN_len i hlt2
        rw [eq_drop hlt hlt2, ← eqN_dec] at hrec
        repeat' (first
          | ((with_reducible apply wq_v); exact rfl; (with_reducible apply v_indexAddr); exact rfl; exact rfl; (first | exact hlt | exact hlt2))
          | ((with_reducible apply wq_v); exact rfl; (with_reducible apply v_loadw_ro); exact rfl; (first | exact he1 | exact he2); exact rfl)
          | ((with_reducible apply wq_v); exact rfl; (with_reducible apply v_neqN); exact rfl; exact rfl)
          | ((with_reducible apply wl_v); exact rfl; (with_reducible apply v_succN); exact rfl; exact rfl; (simp only [maxLen] at *; omega))
          | ((with_reducible first | apply wl_v | apply wq_v); exact rfl; (first | ((with_reducible apply vop_ok); exact rfl) | ((with_reducible apply v_len); exact rfl) | ((with_reducible apply v_lens); exact rfl) | ((with_reducible apply v_load_box); exact rfl; (repeat first | exact .hd | apply Sel.tl | apply In.tl); exact rfl) | ((with_reducible apply v_eqlb); exact rfl; exact rfl) | ((with_reducible apply v_neqb); exact rfl; exact rfl) | ((with_reducible apply v_loadw_box); exact rfl; (repeat first | exact .hd | apply Sel.tl | apply In.tl); exact rfl) | ((with_reducible apply v_loadn_box); exact rfl; (repeat first | exact .hd | apply Sel.tl | apply In.tl); exact rfl; exact rfl)))
          | (with_reducible first | apply wl_nil | apply thn_n | apply w_seq | apply w_region | apply w_ret | apply w_skip | apply w_exit | apply w_block | apply thn_r | apply thn_e | apply blk_n | apply blk_r | apply blk_e | apply wq_nil)
          | ((with_reducible apply w_cond_true); exact rfl)
          | ((with_reducible apply w_cond_false); exact rfl)
          | ((with_reducible apply w_cond) <;> first | exact rfl | (intro hb; (replace hb := Tidy.out hb; try (exfalso; omega))))
          | ((with_reducible apply blk_x); exact rfl)
          | ((with_reducible apply w_draw); kernel_rfl; kernel_rfl))
        · ((with_reducible apply ret1); exact .inl rfl; exact rfl; exact rfl; exact MSub.nil _)
          rw [hrec, hb]
          rfl
        · refine ⟨i + 1, ⟨by omega, ?_⟩, by omega, ?_, ?_⟩
          · rw [hrec, hb]
            rfl
          · (repeat (first | exact Sub.nil _ | refine Sub.cons rfl ?_))
          · (repeat (first | exact MSub.nil _ | refine MSub.pick (by (repeat first | exact .hd | apply Sel.tl | apply In.tl)) ?_ | exact MSub.refl _ | refine MSub.drop .hd ?_))
      · have e : i = L.length := by omega
        subst e
        repeat' (first
          | ((with_reducible apply wl_v); exact rfl; (first | ((with_reducible apply vop_ok); exact rfl) | ((with_reducible apply v_len); exact rfl) | ((with_reducible apply v_lens); exact rfl) | ((with_reducible apply v_load_box); exact rfl; (repeat first | exact .hd | apply Sel.tl | apply In.tl); exact rfl) | ((with_reducible apply v_eqlb); exact rfl; exact rfl) | ((with_reducible apply v_neqb); exact rfl; exact rfl) | ((with_reducible apply v_loadw_box); exact rfl; (repeat first | exact .hd | apply Sel.tl | apply In.tl); exact rfl) | ((with_reducible apply v_loadn_box); exact rfl; (repeat first | exact .hd | apply Sel.tl | apply In.tl); exact rfl; exact rfl)))
          | (with_reducible first | apply wl_nil | apply thn_n | apply w_seq | apply w_region | apply w_ret | apply w_skip | apply w_exit | apply w_block | apply thn_r | apply thn_e | apply blk_n | apply blk_r | apply blk_e)
          | ((with_reducible apply w_cond_true); exact rfl)
          | ((with_reducible apply w_cond_false); exact rfl)
          | ((with_reducible apply w_cond) <;> first | exact rfl | (intro hb; (replace hb := Tidy.out hb; try (exfalso; omega))))
          | ((with_reducible apply blk_x); exact rfl))
        ((with_reducible apply ret1); exact .inl rfl; exact rfl; exact rfl; exact MSub.nil _)
        rw [hrec, List.drop_length, hlen, List.drop_length]
        rfl
  · repeat' (first
      | ((with_reducible apply wl_v); exact rfl; (first | ((with_reducible apply vop_ok); exact rfl) | ((with_reducible apply v_len); exact rfl) | ((with_reducible apply v_lens); exact rfl) | ((with_reducible apply v_load_box); exact rfl; (repeat first | exact .hd | apply Sel.tl | apply In.tl); exact rfl) | ((with_reducible apply v_eqlb); exact rfl; exact rfl) | ((with_reducible apply v_neqb); exact rfl; exact rfl) | ((with_reducible apply v_loadw_box); exact rfl; (repeat first | exact .hd | apply Sel.tl | apply In.tl); exact rfl) | ((with_reducible apply v_loadn_box); exact rfl; (repeat first | exact .hd | apply Sel.tl | apply In.tl); exact rfl; exact rfl)))
      | (with_reducible first | apply wl_nil | apply thn_n | apply w_seq | apply w_region | apply w_ret | apply w_skip | apply w_exit | apply w_block | apply thn_r | apply thn_e | apply blk_n | apply blk_r | apply blk_e)
      | ((with_reducible apply w_cond_true); exact rfl)
      | ((with_reducible apply w_cond_false); exact rfl)
      | ((with_reducible apply w_cond) <;> first | exact rfl | (intro hb; (replace hb := Tidy.out hb; try (exfalso; omega))))
      | ((with_reducible apply blk_x); exact rfl))
    ((with_reducible apply ret1); exact .inl rfl; exact rfl; exact rfl; exact MSub.nil _)
    rw [decide_eq_false]
    intro e
    exact hlen (congrArg List.length e)
theorem Ro.cell1 {w : World} {g o : Nat} {L : List Int} (h : Ro w g o (L.map (Value.int .i64))) (i : Nat) (hi : i < L.length) : Ro w g (o + i * 1) [Value.int .i64 L[i]] := by
  have h1 := (h.drop (k := i)).take (k := 1)
  rw [← List.map_drop, ← List.map_take, List.drop_eq_getElem_cons hi] at h1
  rw [Nat.mul_one]
  exact h1
set_option maxRecDepth 20000 in
theorem EqualInts_at (L M : List Int) (lv mv : Value) (w : World) (hl : Reads w lv L.length (L.map (Value.int .i64))) (hm : Reads w mv M.length (M.map (Value.int .i64))) :
    Pure Try.prog 26 [lv, mv] w (.bool (decide (L = M))) := by
  obtain ⟨Al, cl, rfl, hl1, hl2, hl3⟩ := hl
  obtain ⟨Am, cm, rfl, hm1, hm2, hm3⟩ := hm
  refine fn_at Try.func26 rfl Try.ntmps26 rfl ?_
  by_cases hlen : L.length = M.length
  · repeat' (first
      | ((with_reducible apply wl_v); exact rfl; (first | ((with_reducible apply vop_ok); exact rfl) | ((with_reducible apply v_len); exact rfl) | ((with_reducible apply v_lens); exact rfl) | ((with_reducible apply v_load_box); exact rfl; (repeat first | exact .hd | apply Sel.tl | apply In.tl); exact rfl) | ((with_reducible apply v_eqlb); exact rfl; exact rfl) | ((with_reducible apply v_neqb); exact rfl; exact rfl) | ((with_reducible apply v_loadw_box); exact rfl; (repeat first | exact .hd | apply Sel.tl | apply In.tl); exact rfl) | ((with_reducible apply v_loadn_box); exact rfl; (repeat first | exact .hd | apply Sel.tl | apply In.tl); exact rfl; exact rfl)))
      | (with_reducible first | apply wl_nil | apply thn_n | apply w_seq | apply w_region | apply w_ret | apply w_skip | apply w_exit | apply w_block | apply thn_r | apply thn_e | apply blk_n | apply blk_r | apply blk_e)
      | ((with_reducible apply w_cond_true); exact rfl)
      | ((with_reducible apply w_cond_false); exact rfl)
      | ((with_reducible apply w_cond) <;> first | exact rfl | (intro hb; (replace hb := Tidy.out hb; try (exfalso; omega))))
      | ((with_reducible apply blk_x); exact rfl))
    refine w_loop (fun i : Nat => [(0, .slice Al L.length cl), (1, .slice Am M.length cm), (5, .int .i64 (i : Int))]) (fun _ => []) (fun i => i ≤ L.length ∧ decide (L = M) = decide (L.drop i = M.drop i)) (fun i => L.length - i) 0 ⟨by omega, rfl⟩ ?_ ?_ ?_
    · (repeat (first | exact Sub.nil _ | refine Sub.cons rfl ?_))
    · (repeat (first | exact MSub.nil _ | refine MSub.pick (by (repeat first | exact .hd | apply Sel.tl | apply In.tl)) ?_ | exact MSub.refl _ | refine MSub.drop .hd ?_))
    · rintro i ⟨hi, hrec⟩
      by_cases hlt : i < L.length
      · have hlt2 : i < M.length := by omega
        obtain ⟨gl, ol, rfl, hrl⟩ := hl3 (by omega)
        obtain ⟨gm, om, rfl, hrm⟩ := hm3 (by omega)
        have he1 := hrl.cell1 i hlt
        have he2 := hrm.cell1 i hlt2
        rw [eq_drop hlt hlt2] at hrec
        repeat' (first
          | ((with_reducible apply wq_v); exact rfl; (with_reducible apply v_indexAddr); exact rfl; exact rfl; (first | exact hlt | exact hlt2))
          | ((with_reducible apply wq_v); exact rfl; (with_reducible apply v_load1_ro); exact rfl; (first | exact he1 | exact he2))
          | ((with_reducible apply wl_v); exact rfl; (with_reducible apply v_succN); exact rfl; exact rfl; (simp only [maxLen] at *; omega))
          | ((with_reducible first | apply wl_v | apply wq_v); exact rfl; (first | ((with_reducible apply vop_ok); exact rfl) | ((with_reducible apply v_len); exact rfl) | ((with_reducible apply v_lens); exact rfl) | ((with_reducible apply v_load_box); exact rfl; (repeat first | exact .hd | apply Sel.tl | apply In.tl); exact rfl) | ((with_reducible apply v_eqlb); exact rfl; exact rfl) | ((with_reducible apply v_neqb); exact rfl; exact rfl) | ((with_reducible apply v_loadw_box); exact rfl; (repeat first | exact .hd | apply Sel.tl | apply In.tl); exact rfl) | ((with_reducible apply v_loadn_box); exact rfl; (repeat first | exact .hd | apply Sel.tl | apply In.tl); exact rfl; exact rfl)))
          | (with_reducible first | apply wl_nil | apply thn_n | apply w_seq | apply w_region | apply w_ret | apply w_skip | apply w_exit | apply w_block | apply thn_r | apply thn_e | apply blk_n | apply blk_r | apply blk_e | apply wq_nil)
          | ((with_reducible apply w_cond_true); exact rfl)
          | ((with_reducible apply w_cond_false); exact rfl)
          | ((with_reducible apply w_cond) <;> first | exact rfl | (intro hb; (replace hb := Tidy.out hb; try (exfalso; omega))))
          | ((with_reducible apply blk_x); exact rfl)
          | ((with_reducible apply w_draw); kernel_rfl; kernel_rfl))
        · ((with_reducible apply ret1); exact .inl rfl; exact rfl; exact rfl; exact MSub.nil _)
          rw [hrec, decide_eq_false hb]
          rfl
        · refine ⟨i + 1, ⟨by omega, ?_⟩, by omega, ?_, ?_⟩
          · rw [hrec, decide_eq_true (Decidable.not_not.1 hb)]
            rfl
          · (repeat (first | exact Sub.nil _ | refine Sub.cons rfl ?_))
          · (repeat (first | exact MSub.nil _ | refine MSub.pick (by (repeat first | exact .hd | apply Sel.tl | apply In.tl)) ?_ | exact MSub.refl _ | refine MSub.drop .hd ?_))
      · have e : i = L.length := by omega
        subst e
        repeat' (first
          | ((with_reducible apply wl_v); exact rfl; (first | ((with_reducible apply vop_ok); exact rfl) | ((with_reducible apply v_len); exact rfl) | ((with_reducible apply v_lens); exact rfl) | ((with_reducible apply v_load_box); exact rfl; (repeat first | exact .hd | apply Sel.tl | apply In.tl); exact rfl) | ((with_reducible apply v_eqlb); exact rfl; exact rfl) | ((with_reducible apply v_neqb); exact rfl; exact rfl) | ((with_reducible apply v_loadw_box); exact rfl; (repeat first | exact .hd | apply Sel.tl | apply In.tl); exact rfl) | ((with_reducible apply v_loadn_box); exact rfl; (repeat first | exact .hd | apply Sel.tl | apply In.tl); exact rfl; exact rfl)))
          | (with_reducible first | apply wl_nil | apply thn_n | apply w_seq | apply w_region | apply w_ret | apply w_skip | apply w_exit | apply w_block | apply thn_r | apply thn_e | apply blk_n | apply blk_r | apply blk_e)
          | ((with_reducible apply w_cond_true); exact rfl)
          | ((with_reducible apply w_cond_false); exact rfl)
          | ((with_reducible apply w_cond) <;> first | exact rfl | (intro hb; (replace hb := Tidy.out hb; try (exfalso; omega))))
          | ((with_reducible apply blk_x); exact rfl))
        ((with_reducible apply ret1); exact .inl rfl; exact rfl; exact rfl; exact MSub.nil _)
        rw [hrec, List.drop_length, hlen, List.drop_length]
        rfl
  · repeat' (first
      | ((with_reducible apply wl_v); exact rfl; (first | ((with_reducible apply vop_ok); exact rfl) | ((with_reducible apply v_len); exact rfl) | ((with_reducible apply v_lens); exact rfl) | ((with_reducible apply v_load_box); exact rfl; (repeat first | exact .hd | apply Sel.tl | apply In.tl); exact rfl) | ((with_reducible apply v_eqlb); exact rfl; exact rfl) | ((with_reducible apply v_neqb); exact rfl; exact rfl) | ((with_reducible apply v_loadw_box); exact rfl; (repeat first | exact .hd | apply Sel.tl | apply In.tl); exact rfl) | ((with_reducible apply v_loadn_box); exact rfl; (repeat first | exact .hd | apply Sel.tl | apply In.tl); exact rfl; exact rfl)))
      | (with_reducible first | apply wl_nil | apply thn_n | apply w_seq | apply w_region | apply w_ret | apply w_skip | apply w_exit | apply w_block | apply thn_r | apply thn_e | apply blk_n | apply blk_r | apply blk_e)
      | ((with_reducible apply w_cond_true); exact rfl)
      | ((with_reducible apply w_cond_false); exact rfl)
      | ((with_reducible apply w_cond) <;> first | exact rfl | (intro hb; (replace hb := Tidy.out hb; try (exfalso; omega))))
      | ((with_reducible apply blk_x); exact rfl))
    ((with_reducible apply ret1); exact .inl rfl; exact rfl; exact rfl; exact MSub.nil _)
    rw [decide_eq_false]
    intro e
    exact hlen (congrArg List.length e)

/-! ### The copies -/

set_option maxRecDepth 20000 in
theorem CopyTree_at (L : List Nd) (tv : Value) (w : World) (ht : Reads w tv L.length (L.flatMap encN)) (hlen : L.length ≤ 1000000) :
    FnAt Try.prog 53 [tv] w fun v H => ∃ A cap, (0 < L.length → ∃ g, A = some g) ∧ v = sl A L.length cap ∧ H = [.own A 40 11 L.length cap (L.flatMap encN)] := by
  refine fn_at Try.func53 rfl Try.ntmps53 rfl ?_
  have hl : (L.flatMap encN).length = L.length * 11 := flat_length' encN_len L
  refine w_nilrow 40 11 ?_
  repeat' (first
    | ((with_reducible apply wl_appendR (n' := 0) (c := 0) (A := none) (m := L.length)); exact rfl; exact rfl; exact rfl; (repeat first | exact .hd | apply Sel.tl | apply In.tl); (intro w hm; exact ht.of_w0 hm); exact hl; exact encNs_one L; omega; (simp only [maxLen]; omega); intro A' cap' hA)
    | ((with_reducible apply wl_v); exact rfl; (first | ((with_reducible apply vop_ok); exact rfl)))
    | (with_reducible first | apply wl_nil | apply thn_n | apply w_seq | apply w_region | apply w_ret | apply w_skip | apply w_exit | apply w_block | apply thn_r | apply thn_e | apply blk_n | apply blk_r | apply blk_e)
    | ((with_reducible apply w_cond_true); exact rfl)
    | ((with_reducible apply w_cond_false); exact rfl)
    | ((with_reducible apply w_cond) <;> first | exact rfl | (intro hb; (replace hb := Tidy.out hb; try (exfalso; omega))))
    | ((with_reducible apply blk_x); exact rfl))
  exact ret1 (.inl rfl) Try.results53 rfl (H' := [.own A' 40 11 (0 + L.length) cap' ([] ++ L.flatMap encN)]) (by (repeat (first | exact MSub.nil _ | refine MSub.pick (by (repeat first | exact .hd | apply Sel.tl | apply In.tl)) ?_ | exact MSub.refl _ | refine MSub.drop .hd ?_))) ⟨A', cap', hA, by rw [Nat.zero_add], by rw [Nat.zero_add]; rfl⟩

def cut300 (b : ByteArray) : ByteArray := b.extract 0 (min b.size 300)
def fewN (n : Nd) : Nd := { n with v := { n.v with text := cut300 n.v.text } }
/-- Few: at most 300 nodes, with texts of at most 300 bytes. -/
def fewT (L : List Nd) : List Nd := (L.take 300).map fewN

set_option maxRecDepth 20000 in
theorem Few_at (L : List Nd) (tv : Value) (w : World) (ht : Reads w tv L.length (L.flatMap encN)) :
    FnAt Try.prog 17 [tv] w fun v H => ∃ A cap, v = sl A (fewT L).length cap ∧ H = [.own A 40 11 (fewT L).length cap ((fewT L).flatMap encN)] := by
  have ht' := ht
  obtain ⟨At, ct, rfl, ht1, ht2, ht3⟩ := ht
  refine fn_at Try.func17 rfl Try.ntmps17 rfl ?_
  have hcut := ht'.cut (lo := 0) (hi := min L.length 300) (sz := 11) (by omega) (by omega)
  generalize hm : min L.length 300 = m at hcut
  have hm2 : m ≤ 300 := by omega
  have hmL : m ≤ L.length := by omega
  have hl1 : (L.take m).length = m := by simp; omega
  have hl2 : ((L.flatMap encN).drop (0 * 11)).take ((m - 0) * 11) = (L.take m).flatMap encN := by
    rw [Nat.zero_mul, List.drop_zero, Nat.sub_zero, flat_take encN_len]
  rw [hl2, Nat.sub_zero] at hcut
  have hcl := fun (w' : World) (H : List Blk) (hm : Mem w w' H) => CopyTree_at (L.take m) _ w' (by rw [hl1]; exact hcut.of_w0 hm) (by rw [hl1]; omega)
  have hfew : fewT L = (L.take m).map fewN := by
    unfold fewT
    rcases Nat.lt_or_ge L.length 300 with h | h
    · rw [List.take_of_length_le (by omega), List.take_of_length_le (by omega)]
    · rw [show m = 300 by omega]
  rw [hfew]
  generalize L.take m = M at hl1 hcl
  rw [hl1] at hcl
  repeat' (first
    | ((with_reducible apply wl_v); exact rfl; (with_reducible apply v_minN (a := L.length) (b := 300)); exact rfl; exact rfl; exact hm)
    | ((with_reducible apply wl_v); exact rfl; (with_reducible apply v_slice (lo := 0) (hi := m)); exact rfl; exact rfl; exact ⟨_, rfl⟩; omega; omega)
    | ((with_reducible apply wl_call); exact rfl; exact rfl; (intro w' hm; exact hcl w' _ hm); (rintro v H' ⟨A, cap, hA, rfl, rfl⟩))
    | ((with_reducible apply wl_v); exact rfl; (first | ((with_reducible apply vop_ok); exact rfl) | ((with_reducible apply v_fieldAddr); exact rfl) | ((with_reducible apply v_len); exact rfl) | ((with_reducible apply v_lens); exact rfl) | ((with_reducible apply v_load_box); exact rfl; (repeat first | exact .hd | apply Sel.tl | apply In.tl); exact rfl) | ((with_reducible apply v_min); exact rfl; exact rfl) | ((with_reducible apply v_loadw_box); exact rfl; (repeat first | exact .hd | apply Sel.tl | apply In.tl); exact rfl) | ((with_reducible apply v_loadn_box); exact rfl; (repeat first | exact .hd | apply Sel.tl | apply In.tl); exact rfl; exact rfl)))
    | ((with_reducible apply wl_storen_box); exact rfl; exact rfl; (repeat first | exact .hd | apply Sel.tl | apply In.tl); exact rfl; exact rfl; exact rfl)
    | ((with_reducible apply wl_putn_box); exact rfl; exact rfl; (repeat first | exact .hd | apply Sel.tl | apply In.tl); exact rfl; exact rfl; exact rfl; exact rfl)
    | (with_reducible first | apply wl_nil | apply thn_n | apply w_seq | apply w_region | apply w_ret | apply w_skip | apply w_exit | apply w_block | apply thn_r | apply thn_e | apply blk_n | apply blk_r | apply blk_e)
    | ((with_reducible apply w_cond_true); exact rfl)
    | ((with_reducible apply w_cond_false); exact rfl)
    | ((with_reducible apply w_cond) <;> first | exact rfl | (intro hb; (replace hb := Tidy.out hb; try (exfalso; omega))))
    | ((with_reducible apply blk_x); exact rfl))
  refine w_loop (fun i : Nat => [(3, sl A m cap), (4, .int .i64 (i : Int))]) (fun i => [.own A 40 11 m cap (((M.take i).map fewN ++ M.drop i).flatMap encN)]) (fun i => i ≤ m) (fun i => m - i) 0 (by omega) ?_ ?_ ?_
  · (repeat (first | exact Sub.nil _ | refine Sub.cons rfl ?_))
  · (repeat (first | exact MSub.nil _ | refine MSub.pick (by (repeat first | exact .hd | apply Sel.tl | apply In.tl)) ?_ | exact MSub.refl _ | refine MSub.drop .hd ?_))
  · rintro i hi
    by_cases hlt : i < m
    · obtain ⟨g, rfl⟩ := hA (by omega)
      have hlt' : i < M.length := by omega
      have hls : ((M.take i).map fewN ++ M.drop i).length = m := by simp; omega
      have hel : ((M.take i).map fewN ++ M.drop i)[i]? = some M[i] := by
        rw [List.getElem?_append_right (by simp; omega)]
        simp [show min i M.length = i by omega, hlt']
      have hnext : ((M.take i).map fewN ++ M.drop i).set i (fewN M[i]) = (M.take (i + 1)).map fewN ++ M.drop (i + 1) := by
        apply List.ext_getElem?
        intro j
        rw [List.getElem?_set]
        by_cases e : i = j
        · subst e
          rw [if_pos rfl, if_pos (by omega), List.getElem?_append_left (by simp; omega)]
          simp [hlt']
        · rw [if_neg e]
          rcases Nat.lt_or_ge j i with h | h
          · rw [List.getElem?_append_left (by simp; omega), List.getElem?_append_left (by simp; omega)]
            simp [show j < i by omega, show j < i + 1 by omega]
          · rw [List.getElem?_append_right (by simp; omega), List.getElem?_append_right (by simp; omega)]
            simp only [List.length_map, List.length_take, List.getElem?_drop]
            congr 1
            omega
      generalize (M.take i).map fewN ++ M.drop i = T at hls hel hnext
      have hti : i < T.length := by omega
      have hc : (T.flatMap encN)[0 + i * 11 + 1 + 2]? = some (.string M[i].v.text) := by
        rw [show 0 + i * 11 + 1 + 2 = i * 11 + 3 by omega, flat_cell encN_len T i 3 hti (by omega)]
        have : T[i] = M[i] := by
          have := List.getElem?_eq_getElem hti
          rw [hel] at this
          injection this with this
          exact this.symm
        rw [this]
        rfl
      have hs : (T.flatMap encN).set (0 + i * 11 + 1 + 2) (.string (cut300 M[i].v.text)) = ((M.take (i + 1)).map fewN ++ M.drop (i + 1)).flatMap encN := by
        have hTi : T[i] = M[i] := by
          have := List.getElem?_eq_getElem hti
          rw [hel] at this
          injection this with this
          exact this.symm
        rw [← hnext, ← flat_set encN_len T i hti]
        have hfl : (T.flatMap encN).length = T.length * 11 := flat_length' encN_len T
        have hlen3 : 0 + i * 11 + 1 + 2 < (T.flatMap encN).length := by omega
        rw [List.set_eq_take_append_cons_drop, if_pos hlen3]
        have hsplit := List.take_append_drop (i * 11) (T.flatMap encN)
        have hel2 : ((T.flatMap encN).drop (i * 11)) = encN M[i] ++ (T.flatMap encN).drop (i * 11 + 11) := by
          have h1 := flat_elem encN_len T i hti
          rw [hTi] at h1
          rw [← h1, ← List.drop_drop, List.take_append_drop]
        have h3 : (T.flatMap encN).take (0 + i * 11 + 1 + 2) = (T.flatMap encN).take (i * 11) ++ (encN M[i]).take 3 := by
          rw [show 0 + i * 11 + 1 + 2 = i * 11 + 3 by omega, List.take_add, hel2, List.take_append_of_le_length (by rw [encN_len]; omega)]
        have h4 : (T.flatMap encN).drop (0 + i * 11 + 1 + 2 + 1) = (encN M[i]).drop 4 ++ (T.flatMap encN).drop (i * 11 + 11) := by
          rw [show 0 + i * 11 + 1 + 2 + 1 = i * 11 + 4 by omega, ← List.drop_drop, hel2, List.drop_append_of_le_length (by rw [encN_len]; omega)]
        rw [h3, h4]
        simp [encN, fewN]
      repeat' (first
        | ((with_reducible apply wl_v); exact rfl; (first | ((with_reducible apply vop_ok); exact rfl) | ((with_reducible apply v_fieldAddr); exact rfl) | ((with_reducible apply v_len); exact rfl) | ((with_reducible apply v_lens); exact rfl) | ((with_reducible apply v_load_box); exact rfl; (repeat first | exact .hd | apply Sel.tl | apply In.tl); exact rfl) | ((with_reducible apply v_min); exact rfl; exact rfl) | ((with_reducible apply v_loadw_box); exact rfl; (repeat first | exact .hd | apply Sel.tl | apply In.tl); exact rfl) | ((with_reducible apply v_loadn_box); exact rfl; (repeat first | exact .hd | apply Sel.tl | apply In.tl); exact rfl; exact rfl)))
        | ((with_reducible apply wl_storen_box); exact rfl; exact rfl; (repeat first | exact .hd | apply Sel.tl | apply In.tl); exact rfl; exact rfl; exact rfl)
        | ((with_reducible apply wl_putn_box); exact rfl; exact rfl; (repeat first | exact .hd | apply Sel.tl | apply In.tl); exact rfl; exact rfl; exact rfl; exact rfl)
        | (with_reducible first | apply wl_nil | apply thn_n | apply w_seq | apply w_region | apply w_ret | apply w_skip | apply w_exit | apply w_block | apply thn_r | apply thn_e | apply blk_n | apply blk_r | apply blk_e)
        | ((with_reducible apply w_cond_true); exact rfl)
        | ((with_reducible apply w_cond_false); exact rfl)
        | ((with_reducible apply w_cond) <;> first | exact rfl | (intro hb; (replace hb := Tidy.out hb; try (exfalso; omega))))
        | ((with_reducible apply blk_x); exact rfl))
      refine w_drawL 20 (.own (some g) 40 11 m cap (((M.take (i + 1)).map fewN ++ M.drop (i + 1)).flatMap encN) :: []) (by kernel_rfl) (by kernel_rfl) rfl ?_
      repeat' (first
        | ((with_reducible apply wg_l (f := 60)); exact rfl; decide +kernel; exact rfl; (with_reducible apply v_indexAddr (j := i)); exact rfl; exact rfl; exact hlt)
        | ((with_reducible apply wg_l (f := 60)); exact rfl; decide +kernel; exact rfl; (with_reducible apply v_load_own); exact rfl; (repeat first | exact .hd | apply Sel.tl | apply In.tl); exact hc)
        | ((with_reducible apply wg_l (f := 60)); exact rfl; decide +kernel; exact rfl; (with_reducible apply v_minN (a := M[i].v.text.size) (b := 300)); exact rfl; exact rfl; exact rfl)
        | ((with_reducible apply wg_l (f := 60)); exact rfl; decide +kernel; exact rfl; (with_reducible apply v_cut_str); exact rfl; exact rfl; omega)
        | ((with_reducible apply wg_lset_own); exact rfl; exact rfl; (repeat first | exact .hd | apply Sel.tl | apply In.tl); exact rfl; (rw [flat_length' encN_len]; omega); (exact hs ▸ .refl _))
        | ((with_reducible apply wl_v); exact rfl; (with_reducible apply v_succN); exact rfl; exact rfl; (simp only [maxLen]; omega))
        | ((with_reducible apply wl_v); exact rfl; (first | ((with_reducible apply vop_ok); exact rfl) | ((with_reducible apply v_fieldAddr); exact rfl) | ((with_reducible apply v_len); exact rfl) | ((with_reducible apply v_lens); exact rfl) | ((with_reducible apply v_load_box); exact rfl; (repeat first | exact .hd | apply Sel.tl | apply In.tl); exact rfl) | ((with_reducible apply v_min); exact rfl; exact rfl) | ((with_reducible apply v_loadw_box); exact rfl; (repeat first | exact .hd | apply Sel.tl | apply In.tl); exact rfl) | ((with_reducible apply v_loadn_box); exact rfl; (repeat first | exact .hd | apply Sel.tl | apply In.tl); exact rfl; exact rfl)))
        | ((with_reducible apply wl_storen_box); exact rfl; exact rfl; (repeat first | exact .hd | apply Sel.tl | apply In.tl); exact rfl; exact rfl; exact rfl)
        | ((with_reducible apply wl_putn_box); exact rfl; exact rfl; (repeat first | exact .hd | apply Sel.tl | apply In.tl); exact rfl; exact rfl; exact rfl; exact rfl)
        | (with_reducible first | apply wl_nil | apply thn_n | apply w_seq | apply w_region | apply w_ret | apply w_skip | apply w_exit | apply w_block | apply thn_r | apply thn_e | apply blk_n | apply blk_r | apply blk_e | apply wg_nil)
        | ((with_reducible apply w_cond_true); exact rfl)
        | ((with_reducible apply w_cond_false); exact rfl)
        | ((with_reducible apply w_cond) <;> first | exact rfl | (intro hb; (replace hb := Tidy.out hb; try (exfalso; omega))))
        | ((with_reducible apply blk_x); exact rfl)
        | ((with_reducible apply wg_v); exact rfl; (intro D ht; (first | ((with_reducible apply vop_ok); exact rfl) | ((with_reducible apply v_fieldAddr); exact rfl) | ((with_reducible apply v_len); exact rfl) | ((with_reducible apply v_lens); exact rfl) | ((with_reducible apply v_load_box); exact rfl; (repeat first | exact .hd | apply Sel.tl | apply In.tl); exact rfl) | ((with_reducible apply v_min); exact rfl; exact rfl) | ((with_reducible apply v_loadw_box); exact rfl; (repeat first | exact .hd | apply Sel.tl | apply In.tl); exact rfl) | ((with_reducible apply v_loadn_box); exact rfl; (repeat first | exact .hd | apply Sel.tl | apply In.tl); exact rfl; exact rfl))); exact fun _ => rfl)
        | (refine wg_put _ _ rfl rfl (fun D => .hd) rfl rfl rfl (fun _ => Nat.le_of_ble_eq_true rfl) (fun D ht => .refl _) ?_)
        | ((with_reducible apply wg_l (f := 60)); exact rfl; decide +kernel; exact rfl; (first | ((with_reducible apply vop_ok); exact rfl) | ((with_reducible apply v_fieldAddr); exact rfl) | ((with_reducible apply v_len); exact rfl) | ((with_reducible apply v_lens); exact rfl) | ((with_reducible apply v_load_box); exact rfl; (repeat first | exact .hd | apply Sel.tl | apply In.tl); exact rfl) | ((with_reducible apply v_min); exact rfl; exact rfl) | ((with_reducible apply v_loadw_box); exact rfl; (repeat first | exact .hd | apply Sel.tl | apply In.tl); exact rfl) | ((with_reducible apply v_loadn_box); exact rfl; (repeat first | exact .hd | apply Sel.tl | apply In.tl); exact rfl; exact rfl))))
      refine ⟨i + 1, hlt, by omega, ?_, ?_⟩
      · (repeat (first | exact Sub.nil _ | refine Sub.cons rfl ?_))
      · (repeat (first | exact MSub.nil _ | refine MSub.pick (by (repeat first | exact .hd | apply Sel.tl | apply In.tl)) ?_ | exact MSub.refl _ | refine MSub.drop .hd ?_))
    · have e : i = m := by omega
      subst e
      repeat' (first
        | ((with_reducible apply wl_v); exact rfl; (first | ((with_reducible apply vop_ok); exact rfl) | ((with_reducible apply v_fieldAddr); exact rfl) | ((with_reducible apply v_len); exact rfl) | ((with_reducible apply v_lens); exact rfl) | ((with_reducible apply v_load_box); exact rfl; (repeat first | exact .hd | apply Sel.tl | apply In.tl); exact rfl) | ((with_reducible apply v_min); exact rfl; exact rfl) | ((with_reducible apply v_loadw_box); exact rfl; (repeat first | exact .hd | apply Sel.tl | apply In.tl); exact rfl) | ((with_reducible apply v_loadn_box); exact rfl; (repeat first | exact .hd | apply Sel.tl | apply In.tl); exact rfl; exact rfl)))
        | ((with_reducible apply wl_storen_box); exact rfl; exact rfl; (repeat first | exact .hd | apply Sel.tl | apply In.tl); exact rfl; exact rfl; exact rfl)
        | ((with_reducible apply wl_putn_box); exact rfl; exact rfl; (repeat first | exact .hd | apply Sel.tl | apply In.tl); exact rfl; exact rfl; exact rfl; exact rfl)
        | (with_reducible first | apply wl_nil | apply thn_n | apply w_seq | apply w_region | apply w_ret | apply w_skip | apply w_exit | apply w_block | apply thn_r | apply thn_e | apply blk_n | apply blk_r | apply blk_e)
        | ((with_reducible apply w_cond_true); exact rfl)
        | ((with_reducible apply w_cond_false); exact rfl)
        | ((with_reducible apply w_cond) <;> first | exact rfl | (intro hb; (replace hb := Tidy.out hb; try (exfalso; omega))))
        | ((with_reducible apply blk_x); exact rfl))
      have he : (M.take i).map fewN ++ M.drop i = M.map fewN := by
        rw [List.take_of_length_le (by omega), List.drop_of_length_le (by omega), List.append_nil]
      have hl3 : (M.map fewN).length = i := by rw [List.length_map]; exact hl1
      rw [he]
      exact ret1 (.inl rfl) Try.results17 rfl (.refl _) ⟨A, cap, by rw [hl3], by rw [hl3]⟩
end Go.SL

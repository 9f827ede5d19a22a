/-
  TreeFunctions and TreeNames return true.
-/
import Derived.Test.YtfkklicpnoeclaaW12
namespace Go.SL
open Go Go.Proofs
attribute [local irreducible] W WL WQ WG WA VOp thn blk retP FnAt FnIn

theorem names_ok : ∀ j, j < 50 → namesL.getD j emptyB ≠ emptyB ∧ functionE (namesL.getD j emptyB) = ((j : Int) + 1, 0) := by decide +kernel

theorem arity_known {fn : Int} (h : knownF fn = true) : arity fn = ((refArityE fn).1, (refArityE fn).2, 0) := by
  unfold arity refArityE
  (repeat' split) <;> simp_all
theorem arity_unknown {fn : Int} (h : knownF fn = false) : arity fn = (0, 0, 10) := by
  simp only [knownF, Bool.and_eq_false_iff, decide_eq_false_iff_not] at h
  have hk : knownF fn = false := by simp only [knownF, Bool.and_eq_false_iff, decide_eq_false_iff_not]; exact h
  unfold arity
  (repeat' split) <;> first | (exfalso; omega) | (simp_all; done) | rfl
theorem refArity_bound (fn : Int) : 1 ≤ (refArityE fn).1 ∧ (refArityE fn).1 ≤ (refArityE fn).2 ∧ (refArityE fn).2 ≤ 16 := by
  unfold refArityE
  (repeat' split) <;> simp
theorem wide_known {fn : Int} (h : knownF fn = true) (i : Int) : wideF fn i = (refWideE fn i, if i < 0 ∨ (refArityE fn).2 ≤ i then 3 else 0) := by
  unfold wideF refWideE
  rw [arity_known h]
  simp only [ne_eq, not_true_eq_false, if_false]
  by_cases h1 : i < 0 ∨ (refArityE fn).2 ≤ i
  · simp only [if_pos h1]
  · simp only [if_neg h1]
    by_cases h2 : fn = 9 ∨ fn = 10 ∨ fn = 11 ∨ fn = 12 ∨ fn = 14 ∨ fn = 15 ∨ fn = 16 ∨ fn = 17
    · simp only [if_pos h2]
    · simp only [if_neg h2]
      by_cases h3 : fn = 44
      · subst h3
        simp
      · simp only [if_neg h3]
        by_cases h4 : fn = 18 ∨ fn = 19 ∨ fn = 45 ∨ fn = 43 ∨ fn = 13
        · rw [if_pos h4, if_pos (by omega)]
        · rw [if_neg h4, if_neg (by omega)]
          rfl
theorem wide_unknown {fn : Int} (h : knownF fn = false) (i : Int) : wideF fn i = (false, 10) := by
  unfold wideF
  rw [arity_unknown h]
  rfl

set_option maxRecDepth 20000 in
set_option maxHeartbeats 2000000 in
theorem TreeFunctions_at (fn i : Int) (b : ByteArray) (h0 : 0 ≤ fn) (h1 : fn ≤ 255) (w : World) : Pure Try.prog 8 [.int .u8 fn, .int .i64 i, .string b] w (.bool true) := by
  refine fn_at Try.func8 rfl Try.ntmps8 rfl ?_
  have hF := Function_at b
  have hG := refFunction_at b
  generalize functionE b = q at hF hG
  cases hk : knownF fn
  · have hk' := hk
    simp only [knownF, Bool.and_eq_false_iff, decide_eq_false_iff_not] at hk'
    have e1 : nameE fn = (emptyB, 10) := by rw [nameE, if_neg (by simp [hk])]
    have e2 : refNameE fn = emptyB := by
      rw [refNameE]
      split
      · rfl
      · rw [show fn.toNat = 0 by omega]
        rfl
    have c1 := e1 ▸ Name_at fn
    have c2 := arity_unknown hk ▸ arity_at fn
    have c3 := wide_unknown hk i ▸ wide_at fn i
    have c4 := e2 ▸ refName_at fn h0 h1
    repeat' (first
      | ((with_reducible apply wl_callp); exact rfl; exact rfl; (intro w hm; exact c1 w))
      | ((with_reducible apply wl_callp); exact rfl; exact rfl; (intro w hm; exact c2 w))
      | ((with_reducible apply wl_callp); exact rfl; exact rfl; (intro w hm; exact c3 w))
      | ((with_reducible apply wl_callp); exact rfl; exact rfl; (intro w hm; exact hF w))
      | ((with_reducible apply wl_callp); exact rfl; exact rfl; (intro w hm; exact hG w))
      | ((with_reducible apply wl_callp); exact rfl; exact rfl; (intro w hm; exact c4 w))
      | ((with_reducible apply wl_callp); exact rfl; exact rfl; (intro w hm; exact awake_at w))
      | ((with_reducible apply wl_v); exact rfl; (with_reducible apply v_eqls_t); exact rfl; exact rfl; exact rfl)
      | ((with_reducible apply wl_v); exact rfl; (first | ((with_reducible apply vop_ok); exact rfl) | ((with_reducible apply v_eqlb); exact rfl; exact rfl) | ((with_reducible apply v_neqb); exact rfl; exact rfl)))
      | ((with_reducible apply wl_gyes); exact rfl; exact rfl)
      | ((with_reducible apply wl_gno_b); exact rfl; exact rfl; exact rfl; exact rfl)
      | ((with_reducible apply wl_gno_u); exact rfl; exact rfl; exact rfl)
      | ((with_reducible apply wl_gsplit) <;> first | exact rfl | (intro hb; (replace hb := Tidy.out hb; try (exfalso; omega))))
      | (with_reducible first | apply wl_nil | apply thn_n | apply w_seq | apply w_region | apply w_ret | apply w_skip | apply w_exit | apply w_block | apply thn_r | apply thn_e | apply blk_n | apply blk_r | apply blk_e)
      | ((with_reducible apply w_cond_true); exact rfl)
      | ((with_reducible apply w_cond_false); exact rfl)
      | ((with_reducible apply w_cond) <;> first | exact rfl | (intro hb; (replace hb := Tidy.out hb; try (exfalso; omega))))
      | ((with_reducible apply blk_x); exact rfl))
    ((with_reducible apply ret1); exact .inl rfl; exact rfl; exact rfl; exact MSub.nil _)
    rfl
  · have hk' := hk
    simp only [knownF, Bool.and_eq_true, decide_eq_true_eq] at hk'
    obtain ⟨j, hj⟩ := Int.eq_ofNat_of_zero_le (by omega : 0 ≤ fn - 1)
    have hne := (names_ok j (by omega)).1
    have e1 : nameE fn = (namesL.getD j emptyB, 0) := by rw [nameE, if_pos hk, hj]; rfl
    have e2 : refNameE fn = namesL.getD j emptyB := by
      rw [refNameE, if_neg (by omega), show fn.toNat = j + 1 by omega]
      rfl
    have c1 := e1 ▸ Name_at fn
    have c2 := arity_known hk ▸ arity_at fn
    have c3 := wide_known hk i ▸ wide_at fn i
    have c4 := e2 ▸ refName_at fn h0 h1
    generalize namesL.getD j emptyB = nm at hne c1 c4
    have c5 := refArity_at fn
    have c6 := refWide_at fn i
    generalize refArityE fn = ar at c2 c3 c5
    generalize refWideE fn i = wd at c3 c6
    by_cases hw : i < 0 ∨ ar.2 ≤ i
    · rw [if_pos hw] at c3
      dsimp only at c1 c2 c3
      repeat' (first
        | ((with_reducible apply wl_callp); exact rfl; exact rfl; (intro w hm; exact c1 w))
        | ((with_reducible apply wl_callp); exact rfl; exact rfl; (intro w hm; exact c2 w))
        | ((with_reducible apply wl_callp); exact rfl; exact rfl; (intro w hm; exact c3 w))
        | ((with_reducible apply wl_callp); exact rfl; exact rfl; (intro w hm; exact hF w))
        | ((with_reducible apply wl_callp); exact rfl; exact rfl; (intro w hm; exact hG w))
        | ((with_reducible apply wl_callp); exact rfl; exact rfl; (intro w hm; exact c4 w))
        | ((with_reducible apply wl_callp); exact rfl; exact rfl; (intro w hm; exact c5 w))
        | ((with_reducible apply wl_callp); exact rfl; exact rfl; (intro w hm; exact c6 w))
        | ((with_reducible apply wl_callp); exact rfl; exact rfl; (intro w hm; exact awake_at w))
        | ((with_reducible apply wl_v); exact rfl; (with_reducible apply v_eqls_t); exact rfl; exact rfl; exact rfl)
        | ((with_reducible apply wl_v); exact rfl; (with_reducible apply v_eqls_f); exact rfl; exact rfl; exact hne)
        | ((with_reducible apply wl_v); exact rfl; (with_reducible apply v_eqlb_same); exact rfl; exact rfl)
        | ((with_reducible apply wl_v); exact rfl; (first | ((with_reducible apply vop_ok); exact rfl) | ((with_reducible apply v_eqlb); exact rfl; exact rfl) | ((with_reducible apply v_neqb); exact rfl; exact rfl)))
        | ((with_reducible apply wl_gyes); exact rfl; exact rfl)
        | ((with_reducible apply wl_gno_b); exact rfl; exact rfl; exact rfl; exact rfl)
        | ((with_reducible apply wl_gno_u); exact rfl; exact rfl; exact rfl)
        | ((with_reducible apply wl_gsplit) <;> first | exact rfl | (intro hb; (replace hb := Tidy.out hb; try (exfalso; omega))))
        | (with_reducible first | apply wl_nil | apply thn_n | apply w_seq | apply w_region | apply w_ret | apply w_skip | apply w_exit | apply w_block | apply thn_r | apply thn_e | apply blk_n | apply blk_r | apply blk_e)
        | ((with_reducible apply w_cond_true); exact rfl)
        | ((with_reducible apply w_cond_false); exact rfl)
        | ((with_reducible apply w_cond) <;> first | exact rfl | (intro hb; (replace hb := Tidy.out hb; try (exfalso; omega))))
        | ((with_reducible apply blk_x); exact rfl))
      all_goals (((with_reducible apply ret1); exact .inl rfl; exact rfl; exact rfl; exact MSub.nil _); rfl)
    · rw [if_neg hw] at c3
      dsimp only at c1 c2 c3
      repeat' (first
        | ((with_reducible apply wl_callp); exact rfl; exact rfl; (intro w hm; exact c1 w))
        | ((with_reducible apply wl_callp); exact rfl; exact rfl; (intro w hm; exact c2 w))
        | ((with_reducible apply wl_callp); exact rfl; exact rfl; (intro w hm; exact c3 w))
        | ((with_reducible apply wl_callp); exact rfl; exact rfl; (intro w hm; exact hF w))
        | ((with_reducible apply wl_callp); exact rfl; exact rfl; (intro w hm; exact hG w))
        | ((with_reducible apply wl_callp); exact rfl; exact rfl; (intro w hm; exact c4 w))
        | ((with_reducible apply wl_callp); exact rfl; exact rfl; (intro w hm; exact c5 w))
        | ((with_reducible apply wl_callp); exact rfl; exact rfl; (intro w hm; exact c6 w))
        | ((with_reducible apply wl_callp); exact rfl; exact rfl; (intro w hm; exact awake_at w))
        | ((with_reducible apply wl_v); exact rfl; (with_reducible apply v_eqls_t); exact rfl; exact rfl; exact rfl)
        | ((with_reducible apply wl_v); exact rfl; (with_reducible apply v_eqls_f); exact rfl; exact rfl; exact hne)
        | ((with_reducible apply wl_v); exact rfl; (with_reducible apply v_eqlb_same); exact rfl; exact rfl)
        | ((with_reducible apply wl_v); exact rfl; (first | ((with_reducible apply vop_ok); exact rfl) | ((with_reducible apply v_eqlb); exact rfl; exact rfl) | ((with_reducible apply v_neqb); exact rfl; exact rfl)))
        | ((with_reducible apply wl_gyes); exact rfl; exact rfl)
        | ((with_reducible apply wl_gno_b); exact rfl; exact rfl; exact rfl; exact rfl)
        | ((with_reducible apply wl_gno_u); exact rfl; exact rfl; exact rfl)
        | ((with_reducible apply wl_gsplit) <;> first | exact rfl | (intro hb; (replace hb := Tidy.out hb; try (exfalso; omega))))
        | (with_reducible first | apply wl_nil | apply thn_n | apply w_seq | apply w_region | apply w_ret | apply w_skip | apply w_exit | apply w_block | apply thn_r | apply thn_e | apply blk_n | apply blk_r | apply blk_e)
        | ((with_reducible apply w_cond_true); exact rfl)
        | ((with_reducible apply w_cond_false); exact rfl)
        | ((with_reducible apply w_cond) <;> first | exact rfl | (intro hb; (replace hb := Tidy.out hb; try (exfalso; omega))))
        | ((with_reducible apply blk_x); exact rfl))
      all_goals (((with_reducible apply ret1); exact .inl rfl; exact rfl; exact rfl; exact MSub.nil _); rfl)

set_option maxRecDepth 20000 in
set_option maxHeartbeats 2000000 in
theorem TreeNames_at (fn : Int) (h0 : 0 ≤ fn) (h1 : fn ≤ 255) (w : World) : Pure Try.prog 9 [.int .u8 fn] w (.bool true) := by
  refine fn_at Try.func9 rfl Try.ntmps9 rfl ?_
  cases hk : knownF fn
  · have hk' := hk
    simp only [knownF, Bool.and_eq_false_iff, decide_eq_false_iff_not] at hk'
    have e1 : nameE fn = (emptyB, 10) := by rw [nameE, if_neg (by simp [hk])]
    have c1 := e1 ▸ Name_at fn
    have c2 := arity_unknown hk ▸ arity_at fn
    repeat' (first
      | ((with_reducible apply wl_callp); exact rfl; exact rfl; (intro w hm; exact c1 w))
      | ((with_reducible apply wl_callp); exact rfl; exact rfl; (intro w hm; exact c2 w))
      | ((with_reducible apply wl_callp); exact rfl; exact rfl; (intro w hm; exact awake_at w))
      | ((with_reducible apply wl_v); exact rfl; (first | ((with_reducible apply vop_ok); exact rfl) | ((with_reducible apply v_eqlb); exact rfl; exact rfl) | ((with_reducible apply v_neqb); exact rfl; exact rfl)))
      | ((with_reducible apply wl_gyes); exact rfl; exact rfl)
      | ((with_reducible apply wl_gno_b); exact rfl; exact rfl; exact rfl; exact rfl)
      | ((with_reducible apply wl_gno_u); exact rfl; exact rfl; exact rfl)
      | ((with_reducible apply wl_gsplit) <;> first | exact rfl | (intro hb; (replace hb := Tidy.out hb; try (exfalso; omega))))
      | (with_reducible first | apply wl_nil | apply thn_n | apply w_seq | apply w_region | apply w_ret | apply w_skip | apply w_exit | apply w_block | apply thn_r | apply thn_e | apply blk_n | apply blk_r | apply blk_e)
      | ((with_reducible apply w_cond_true); exact rfl)
      | ((with_reducible apply w_cond_false); exact rfl)
      | ((with_reducible apply w_cond) <;> first | exact rfl | (intro hb; (replace hb := Tidy.out hb; try (exfalso; omega))))
      | ((with_reducible apply blk_x); exact rfl))
    all_goals (((with_reducible apply ret1); exact .inl rfl; exact rfl; exact rfl; exact MSub.nil _); rfl)
  · have hk' := hk
    simp only [knownF, Bool.and_eq_true, decide_eq_true_eq] at hk'
    obtain ⟨j, hj⟩ := Int.eq_ofNat_of_zero_le (by omega : 0 ≤ fn - 1)
    have hfn := (names_ok j (by omega)).2
    have e1 : nameE fn = (namesL.getD j emptyB, 0) := by rw [nameE, if_pos hk, hj]; rfl
    have c1 := e1 ▸ Name_at fn
    have c2 := arity_known hk ▸ arity_at fn
    have hF := hfn ▸ Function_at (namesL.getD j emptyB)
    generalize namesL.getD j emptyB = nm at hF c1
    have hw := wide_known hk
    have ha := refArity_bound fn
    have c3 := fun i => hw i ▸ wide_at fn i
    have h46 : 46 ≤ fn → refWideE fn 0 = true := by
      intro h
      unfold refWideE
      rw [if_neg (by omega), if_neg (by omega), if_neg (by omega), if_neg (by omega)]
      simp only [Bool.and_eq_true, decide_eq_true_eq]
      omega
    generalize refArityE fn = ar at c2 c3 ha
    obtain ⟨m, hm⟩ := Int.eq_ofNat_of_zero_le (by omega : 0 ≤ ar.2)
    dsimp only at c1 c2 c3 hF
    rw [hm] at c2 c3 ha
    repeat' (first
      | ((with_reducible apply wl_callp); exact rfl; exact rfl; (intro w hm; exact c1 w))
      | ((with_reducible apply wl_callp); exact rfl; exact rfl; (intro w hm; exact c2 w))
      | ((with_reducible apply wl_callp); exact rfl; exact rfl; (intro w hm; exact hF w))
      | ((with_reducible apply wl_v); exact rfl; (first | ((with_reducible apply vop_ok); exact rfl) | ((with_reducible apply v_eqlb); exact rfl; exact rfl) | ((with_reducible apply v_neqb); exact rfl; exact rfl)))
      | ((with_reducible apply wl_gyes); exact rfl; exact rfl)
      | ((with_reducible apply wl_gno_b); exact rfl; exact rfl; exact rfl; exact rfl)
      | ((with_reducible apply wl_gno_u); exact rfl; exact rfl; exact rfl)
      | ((with_reducible apply wl_gsplit) <;> first | exact rfl | (intro hb; (replace hb := Tidy.out hb; try (exfalso; omega))))
      | (with_reducible first | apply wl_nil | apply thn_n | apply w_seq | apply w_region | apply w_ret | apply w_skip | apply w_exit | apply w_block | apply thn_r | apply thn_e | apply blk_n | apply blk_r | apply blk_e)
      | ((with_reducible apply w_cond_true); exact rfl)
      | ((with_reducible apply w_cond_false); exact rfl)
      | ((with_reducible apply w_cond) <;> first | exact rfl | (intro hb; (replace hb := Tidy.out hb; try (exfalso; omega))))
      | ((with_reducible apply blk_x); exact rfl))
    have w0' := c3 0
    rw [if_neg (by omega)] at w0'
    have wm := c3 (m : Int)
    rw [if_pos (by omega)] at wm
    refine w_loop (fun i : Nat => [(0, .int .u8 fn), (6, .int .i64 (m : Int)), (10, .int .i64 (i : Int))]) (fun _ => []) (fun i => i ≤ m) (fun i => m - i) 0 (by omega) ?_ ?_ ?_
    · (repeat (first | exact Sub.nil _ | refine Sub.cons rfl ?_))
    · (repeat (first | exact MSub.nil _ | refine MSub.pick (by (repeat first | exact .hd | apply Sel.tl | apply In.tl)) ?_ | exact MSub.refl _ | refine MSub.drop .hd ?_))
    · rintro i hi
      by_cases hlt : i < m
      · have wi := c3 (i : Int)
        rw [if_neg (by omega)] at wi
        repeat' (first
          | ((with_reducible apply wl_callp); exact rfl; exact rfl; (intro w hm; exact wi w))
          | ((with_reducible apply wl_v); exact rfl; (with_reducible apply v_succN); exact rfl; exact rfl; (simp only [maxLen]; omega))
          | ((with_reducible apply wl_v); exact rfl; (first | ((with_reducible apply vop_ok); exact rfl) | ((with_reducible apply v_eqlb); exact rfl; exact rfl) | ((with_reducible apply v_neqb); exact rfl; exact rfl)))
          | ((with_reducible apply wl_gyes); exact rfl; exact rfl)
          | ((with_reducible apply wl_gno_b); exact rfl; exact rfl; exact rfl; exact rfl)
          | ((with_reducible apply wl_gno_u); exact rfl; exact rfl; exact rfl)
          | ((with_reducible apply wl_gsplit) <;> first | exact rfl | (intro hb; (replace hb := Tidy.out hb; try (exfalso; omega))))
          | (with_reducible first | apply wl_nil | apply thn_n | apply w_seq | apply w_region | apply w_ret | apply w_skip | apply w_exit | apply w_block | apply thn_r | apply thn_e | apply blk_n | apply blk_r | apply blk_e)
          | ((with_reducible apply w_cond_true); exact rfl)
          | ((with_reducible apply w_cond_false); exact rfl)
          | ((with_reducible apply w_cond) <;> first | exact rfl | (intro hb; (replace hb := Tidy.out hb; try (exfalso; omega))))
          | ((with_reducible apply blk_x); exact rfl))
        refine ⟨i + 1, by omega, by omega, ?_, ?_⟩
        · (repeat (first | exact Sub.nil _ | refine Sub.cons rfl ?_))
        · (repeat (first | exact MSub.nil _ | refine MSub.pick (by (repeat first | exact .hd | apply Sel.tl | apply In.tl)) ?_ | exact MSub.refl _ | refine MSub.drop .hd ?_))
      · have e : i = m := by omega
        subst e
        cases hb0 : refWideE fn 0
        · have hlt46 : fn < 46 := by
            rcases Int.lt_or_le fn 46 with h | h
            · exact h
            · rw [h46 h] at hb0
              cases hb0
          rw [hb0] at w0'
          repeat' (first
            | ((with_reducible apply wl_callp); exact rfl; exact rfl; (intro w hm; exact w0' w))
            | ((with_reducible apply wl_callp); exact rfl; exact rfl; (intro w hm; exact wm w))
            | ((with_reducible apply wl_callp); exact rfl; exact rfl; (intro w hm; exact awake_at w))
            | ((with_reducible apply wl_v); exact rfl; (first | ((with_reducible apply vop_ok); exact rfl) | ((with_reducible apply v_eqlb); exact rfl; exact rfl) | ((with_reducible apply v_neqb); exact rfl; exact rfl)))
            | ((with_reducible apply wl_gyes); exact rfl; exact rfl)
            | ((with_reducible apply wl_gno_b); exact rfl; exact rfl; exact rfl; exact rfl)
            | ((with_reducible apply wl_gno_u); exact rfl; exact rfl; exact rfl)
            | ((with_reducible apply wl_gsplit) <;> first | exact rfl | (intro hb; (replace hb := Tidy.out hb; try (exfalso; omega))))
            | (with_reducible first | apply wl_nil | apply thn_n | apply w_seq | apply w_region | apply w_ret | apply w_skip | apply w_exit | apply w_block | apply thn_r | apply thn_e | apply blk_n | apply blk_r | apply blk_e)
            | ((with_reducible apply w_cond_true); exact rfl)
            | ((with_reducible apply w_cond_false); exact rfl)
            | ((with_reducible apply w_cond) <;> first | exact rfl | (intro hb; (replace hb := Tidy.out hb; try (exfalso; omega))))
            | ((with_reducible apply blk_x); exact rfl))
          all_goals (((with_reducible apply ret1); exact .inl rfl; exact rfl; exact rfl; exact MSub.nil _); rfl)
        · rw [hb0] at w0'
          repeat' (first
            | ((with_reducible apply wl_callp); exact rfl; exact rfl; (intro w hm; exact w0' w))
            | ((with_reducible apply wl_callp); exact rfl; exact rfl; (intro w hm; exact wm w))
            | ((with_reducible apply wl_callp); exact rfl; exact rfl; (intro w hm; exact awake_at w))
            | ((with_reducible apply wl_v); exact rfl; (first | ((with_reducible apply vop_ok); exact rfl) | ((with_reducible apply v_eqlb); exact rfl; exact rfl) | ((with_reducible apply v_neqb); exact rfl; exact rfl)))
            | ((with_reducible apply wl_gyes); exact rfl; exact rfl)
            | ((with_reducible apply wl_gno_b); exact rfl; exact rfl; exact rfl; exact rfl)
            | ((with_reducible apply wl_gno_u); exact rfl; exact rfl; exact rfl)
            | ((with_reducible apply wl_gsplit) <;> first | exact rfl | (intro hb; (replace hb := Tidy.out hb; try (exfalso; omega))))
            | (with_reducible first | apply wl_nil | apply thn_n | apply w_seq | apply w_region | apply w_ret | apply w_skip | apply w_exit | apply w_block | apply thn_r | apply thn_e | apply blk_n | apply blk_r | apply blk_e)
            | ((with_reducible apply w_cond_true); exact rfl)
            | ((with_reducible apply w_cond_false); exact rfl)
            | ((with_reducible apply w_cond) <;> first | exact rfl | (intro hb; (replace hb := Tidy.out hb; try (exfalso; omega))))
            | ((with_reducible apply blk_x); exact rfl))
          all_goals (((with_reducible apply ret1); exact .inl rfl; exact rfl; exact rfl; exact MSub.nil _); rfl)
end Go.SL

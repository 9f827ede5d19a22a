/-
  What 'check' of package tree returns, and Check.
-/
import Derived.Test.YtfkklicpnoeclaaW5
namespace Go.SL
open Go Go.Proofs
attribute [local irreducible] W WL WQ WG WA VOp thn blk retP FnAt FnIn

/-- 'check': the error, and the visits made. -/
def checkT (L : List Nd) (wide : Bool) : Int × List Visit :=
  if 256 < L.length then (5, []) else if L.length = 0 then (4, [])
  else if (walkT L L 0 [] []).1 ≠ 0 then walkT L L 0 [] []
  else if wide = false ∧ kindAt L (L.length - 1) = 3 then (4, (walkT L L 0 [] []).2) else (0, (walkT L L 0 [] []).2)

set_option maxRecDepth 20000 in
set_option maxHeartbeats 2000000 in
theorem check_in (L : List Nd) (wide : Bool) (tv : Value) (w0 : World) (ht : Reads w0 tv L.length (L.flatMap encN)) (f : FuncId) [hf : Callable Try.prog f] (caps : List Value) (Inv : List Visit → List Blk → Prop) (hV : Visits L.length w0 f caps Inv)
    (H : List Blk) (hI : Inv [] H) : FnIn Try.prog 54 [tv, .bool wide, .func (.func f) #[] caps.toArray] w0 H fun v H' => v = .int .i64 (checkT L wide).1 ∧ Inv (checkT L wide).2 H' := by
  have ht' := ht
  obtain ⟨At, ct, rfl, ht1, ht2, ht3⟩ := ht
  refine fn_in Try.func54 rfl Try.ntmps54 rfl ?_
  by_cases h256 : 256 < L.length
  · repeat' (first
      | ((with_reducible apply wl_v); exact rfl; (first | ((with_reducible apply vop_ok); exact rfl) | ((with_reducible apply v_fieldAddr); exact rfl) | ((with_reducible apply v_len); exact rfl) | ((with_reducible apply v_lens); exact rfl) | ((with_reducible apply v_load_box); exact rfl; (repeat first | exact .hd | apply Sel.tl | apply In.tl); exact rfl) | ((with_reducible apply v_eqlb); exact rfl; exact rfl) | ((with_reducible apply v_neqb); exact rfl; exact rfl) | ((with_reducible apply v_loadw_box); exact rfl; (repeat first | exact .hd | apply Sel.tl | apply In.tl); exact rfl) | ((with_reducible apply v_loadn_box); exact rfl; (repeat first | exact .hd | apply Sel.tl | apply In.tl); exact rfl; exact rfl)))
      | ((with_reducible apply wl_gyes); exact rfl; exact rfl)
      | ((with_reducible apply wl_gno_b); exact rfl; exact rfl; exact rfl; exact rfl)
      | ((with_reducible apply wl_gno_u); exact rfl; exact rfl; exact rfl)
      | ((with_reducible apply wl_gsplit) <;> first | exact rfl | (intro hb; (replace hb := Tidy.out hb; try (exfalso; omega))))
      | (with_reducible first | apply wl_nil | apply thn_n | apply w_seq | apply w_region | apply w_ret | apply w_skip | apply w_exit | apply w_block | apply thn_r | apply thn_e | apply blk_n | apply blk_r | apply blk_e)
      | ((with_reducible apply w_cond_true); exact rfl)
      | ((with_reducible apply w_cond_false); exact rfl)
      | ((with_reducible apply w_cond) <;> first | exact rfl | (intro hb; (replace hb := Tidy.out hb; try (exfalso; omega))))
      | ((with_reducible apply blk_x); exact rfl))
    refine ret1 (.inl rfl) Try.results54 rfl (.refl _) ?_
    rw [checkT, if_pos h256]
    exact ⟨rfl, hI⟩
  by_cases h0 : L.length = 0
  · repeat' (first
      | ((with_reducible apply wl_v); exact rfl; (first | ((with_reducible apply vop_ok); exact rfl) | ((with_reducible apply v_fieldAddr); exact rfl) | ((with_reducible apply v_len); exact rfl) | ((with_reducible apply v_lens); exact rfl) | ((with_reducible apply v_load_box); exact rfl; (repeat first | exact .hd | apply Sel.tl | apply In.tl); exact rfl) | ((with_reducible apply v_eqlb); exact rfl; exact rfl) | ((with_reducible apply v_neqb); exact rfl; exact rfl) | ((with_reducible apply v_loadw_box); exact rfl; (repeat first | exact .hd | apply Sel.tl | apply In.tl); exact rfl) | ((with_reducible apply v_loadn_box); exact rfl; (repeat first | exact .hd | apply Sel.tl | apply In.tl); exact rfl; exact rfl)))
      | ((with_reducible apply wl_gyes); exact rfl; exact rfl)
      | ((with_reducible apply wl_gno_b); exact rfl; exact rfl; exact rfl; exact rfl)
      | ((with_reducible apply wl_gno_u); exact rfl; exact rfl; exact rfl)
      | ((with_reducible apply wl_gsplit) <;> first | exact rfl | (intro hb; (replace hb := Tidy.out hb; try (exfalso; omega))))
      | (with_reducible first | apply wl_nil | apply thn_n | apply w_seq | apply w_region | apply w_ret | apply w_skip | apply w_exit | apply w_block | apply thn_r | apply thn_e | apply blk_n | apply blk_r | apply blk_e)
      | ((with_reducible apply w_cond_true); exact rfl)
      | ((with_reducible apply w_cond_false); exact rfl)
      | ((with_reducible apply w_cond) <;> first | exact rfl | (intro hb; (replace hb := Tidy.out hb; try (exfalso; omega))))
      | ((with_reducible apply blk_x); exact rfl))
    refine ret1 (.inl rfl) Try.results54 rfl (.refl _) ?_
    rw [checkT, if_neg h256, if_pos h0]
    exact ⟨rfl, hI⟩
  obtain ⟨gt, ot, rfl, hrt⟩ := ht3 (by omega)
  have hw := walk_in L (by omega) (by omega) _ w0 ht' f caps Inv hV H hI
  have hrl := hrt.elem encN_len (L.length - 1) (by omega)
  have hk : kindAt L (L.length - 1) = (L[L.length - 1]'(by omega)).kind := kindAt_get _
  simp only [checkT, if_neg h256, if_neg h0, hk]
  generalize walkT L L 0 [] [] = r at hw
  generalize (L[L.length - 1]'(by omega)) = nl at hrl
  repeat' (first
    | ((with_reducible apply wl_callin); exact rfl; exact rfl; exact hw; (rintro v H' ⟨rfl, hI'⟩))
    | ((with_reducible apply wl_v); exact rfl; (with_reducible apply v_predN); exact rfl; exact rfl; omega; omega)
    | ((with_reducible apply wl_v); exact rfl; (with_reducible apply v_indexAddr); exact rfl; exact rfl; omega)
    | ((with_reducible apply wl_v); exact rfl; (with_reducible apply v_loadf_ro (off := 0)); exact rfl; exact hrl; exact rfl)
    | ((with_reducible apply wl_v); exact rfl; (first | ((with_reducible apply vop_ok); exact rfl) | ((with_reducible apply v_fieldAddr); exact rfl) | ((with_reducible apply v_len); exact rfl) | ((with_reducible apply v_lens); exact rfl) | ((with_reducible apply v_load_box); exact rfl; (repeat first | exact .hd | apply Sel.tl | apply In.tl); exact rfl) | ((with_reducible apply v_eqlb); exact rfl; exact rfl) | ((with_reducible apply v_neqb); exact rfl; exact rfl) | ((with_reducible apply v_loadw_box); exact rfl; (repeat first | exact .hd | apply Sel.tl | apply In.tl); exact rfl) | ((with_reducible apply v_loadn_box); exact rfl; (repeat first | exact .hd | apply Sel.tl | apply In.tl); exact rfl; exact rfl)))
    | ((with_reducible apply wl_gyes); exact rfl; exact rfl)
    | ((with_reducible apply wl_gno_b); exact rfl; exact rfl; exact rfl; exact rfl)
    | ((with_reducible apply wl_gno_u); exact rfl; exact rfl; exact rfl)
    | ((with_reducible apply wl_gsplit) <;> first | exact rfl | (intro hb; (replace hb := Tidy.out hb; try (exfalso; omega))))
    | (with_reducible first | apply wl_nil | apply thn_n | apply w_seq | apply w_region | apply w_ret | apply w_skip | apply w_exit | apply w_block | apply thn_r | apply thn_e | apply blk_n | apply blk_r | apply blk_e)
    | ((with_reducible apply w_cond_true); exact rfl)
    | ((with_reducible apply w_cond_false); exact rfl)
    | ((with_reducible apply w_cond) <;> first | exact rfl | (intro hb; (replace hb := Tidy.out hb; try (exfalso; omega))))
    | ((with_reducible apply blk_x); exact rfl))
  all_goals refine ret1 (.inl rfl) Try.results54 rfl (.refl _) ?_
  all_goals simp_all
end Go.SL

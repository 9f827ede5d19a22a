/-
  What 'fields' and 'fits' of package tree return.
-/
import Derived.Test.YtfkklicpnoeclaaW1
import Derived.Test.YtfkklicpnoeclaaW2
namespace Go.SL
open Go Go.Proofs
attribute [local irreducible] W WL WQ WG VOp thn blk retP FnAt FnIn

set_option maxRecDepth 20000 in
set_option maxHeartbeats 1000000 in
theorem fields_at (n : Nd) (w : World) : Pure Try.prog 85 [.agg (encN n).toArray] w (.int .i64 (fieldsE n)) := by
  refine fn_at Try.func85 rfl Try.ntmps85 rfl ?_
  repeat' (first
    | ((with_reducible apply wl_callp); exact rfl; exact rfl; (intro w hm; exact val_at n.v w))
    | ((with_reducible apply wl_callp); exact rfl; exact rfl; (intro w hm; exact rect_at n.rect w))
    | ((with_reducible apply wl_callp); exact rfl; exact rfl; (intro w hm; exact arity_at n.fn w))
    | ((with_reducible apply w_drawB (T := 40) (fun D => [.int .u8 n.kind, .int .u8 0, .int .i64 0, .string emptyB, .int .i64 0, .int .i64 0, .int .i64 0, .int .i64 0, .int .i64 0, .int .u8 (bif D 5 then n.fn else 0), .int .i64 (bif D 7 then n.n else 0)]) (xs' := [.int .u8 n.kind, .int .u8 0, .int .i64 0, .string emptyB, .int .i64 0, .int .i64 0, .int .i64 0, .int .i64 0, .int .i64 0, .int .u8 n.fn, .int .i64 n.n])); kernel_rfl; kernel_rfl; (first | exact .hd | exact .tl .hd); exact rfl; (intro D hD; simp only [hD 5 (by decide), hD 7 (by decide), cond_true]))
    | ((with_reducible apply wl_v); exact rfl; (first | ((with_reducible apply v_neqN (b := ⟨n.kind, n.v, zeroR, 0, 0, 0⟩)); exact rfl; exact rfl) | ((with_reducible apply v_neqN (b := ⟨n.kind, zeroV, n.rect, 0, 0, 0⟩)); exact rfl; exact rfl) | ((with_reducible apply v_neqN (b := ⟨n.kind, zeroV, zeroR, 0, 0, 0⟩)); exact rfl; exact rfl) | ((with_reducible apply v_neqN (b := ⟨n.kind, zeroV, zeroR, n.op, 0, 0⟩)); exact rfl; exact rfl) | ((with_reducible apply v_neqN (b := ⟨n.kind, zeroV, zeroR, 0, n.fn, n.n⟩)); exact rfl; exact rfl)))
    | ((with_reducible apply wl_v); exact rfl; (first | ((with_reducible apply vop_ok); exact rfl) | ((with_reducible apply v_fieldAddr); exact rfl) | ((with_reducible apply v_load_box); exact rfl; (repeat first | exact .hd | apply Sel.tl | apply In.tl); exact rfl) | ((with_reducible apply v_eqlb); exact rfl; exact rfl) | ((with_reducible apply v_neqb); exact rfl; exact rfl) | ((with_reducible apply v_loadw_box); exact rfl; (repeat first | exact .hd | apply Sel.tl | apply In.tl); exact rfl) | ((with_reducible apply v_loadn_box); exact rfl; (repeat first | exact .hd | apply Sel.tl | apply In.tl); exact rfl; exact rfl) | ((with_reducible apply v_build); exact rfl; exact rfl; exact rfl)))
    | ((with_reducible apply wl_gyes); exact rfl; exact rfl)
    | ((with_reducible apply wl_gno_b); exact rfl; exact rfl; exact rfl; exact rfl)
    | ((with_reducible apply wl_gno_u); exact rfl; exact rfl; exact rfl)
    | ((with_reducible apply wl_boxs); exact rfl; exact rfl; intro _)
    | ((with_reducible apply wl_box1); exact rfl; exact rfl; exact rfl; intro _)
    | ((with_reducible apply wl_alloc); exact rfl; intro _)
    | ((with_reducible apply wl_storen_box); exact rfl; exact rfl; (repeat first | exact .hd | apply Sel.tl | apply In.tl); exact rfl; exact rfl; exact rfl)
    | ((with_reducible apply wl_putn_box); exact rfl; exact rfl; (repeat first | exact .hd | apply Sel.tl | apply In.tl); exact rfl; exact rfl; exact rfl; exact rfl)
    | ((with_reducible apply wl_gsplit) <;> first | exact rfl | (intro hb; (replace hb := Tidy.out hb; try (exfalso; omega))))
    | (with_reducible first | apply wl_nil | apply thn_n | apply w_seq | apply w_region | apply w_ret | apply w_skip | apply w_exit | apply w_block | apply thn_r | apply thn_e | apply blk_n | apply blk_r | apply blk_e | apply wg_nil)
    | ((with_reducible apply w_cond_true); exact rfl)
    | ((with_reducible apply w_cond_false); exact rfl)
    | ((with_reducible apply w_cond) <;> first | exact rfl | (intro hb; (replace hb := Tidy.out hb; try (exfalso; omega))))
    | ((with_reducible apply blk_x); exact rfl)
    | ((with_reducible apply wg_v); exact rfl; (intro D ht; (first | ((with_reducible apply vop_ok); exact rfl) | ((with_reducible apply v_fieldAddr); exact rfl) | ((with_reducible apply v_load_box); exact rfl; (repeat first | exact .hd | apply Sel.tl | apply In.tl); exact rfl) | ((with_reducible apply v_eqlb); exact rfl; exact rfl) | ((with_reducible apply v_neqb); exact rfl; exact rfl) | ((with_reducible apply v_loadw_box); exact rfl; (repeat first | exact .hd | apply Sel.tl | apply In.tl); exact rfl) | ((with_reducible apply v_loadn_box); exact rfl; (repeat first | exact .hd | apply Sel.tl | apply In.tl); exact rfl; exact rfl) | ((with_reducible apply v_build); exact rfl; exact rfl; exact rfl))); exact fun _ => rfl)
    | (refine wg_put _ _ rfl rfl (fun D => .hd) rfl rfl rfl (fun _ => Nat.le_of_ble_eq_true rfl) (fun D ht => .refl _) ?_)
    | ((with_reducible apply wg_l (f := 60)); exact rfl; decide +kernel; exact rfl; (first | ((with_reducible apply vop_ok); exact rfl) | ((with_reducible apply v_fieldAddr); exact rfl) | ((with_reducible apply v_load_box); exact rfl; (repeat first | exact .hd | apply Sel.tl | apply In.tl); exact rfl) | ((with_reducible apply v_eqlb); exact rfl; exact rfl) | ((with_reducible apply v_neqb); exact rfl; exact rfl) | ((with_reducible apply v_loadw_box); exact rfl; (repeat first | exact .hd | apply Sel.tl | apply In.tl); exact rfl) | ((with_reducible apply v_loadn_box); exact rfl; (repeat first | exact .hd | apply Sel.tl | apply In.tl); exact rfl; exact rfl) | ((with_reducible apply v_build); exact rfl; exact rfl; exact rfl))))
  all_goals (((with_reducible apply ret1); exact .inl rfl; exact rfl; exact rfl; exact MSub.nil _); ((try simp only [← Int.not_lt] at *); simp_all [fieldsE, kindOk, want, litOk, oneR, -Int.not_lt, -Int.not_le, ← Int.not_lt]))
end Go.SL

/-
  The document's checks of a node.
-/
import Derived.Test.YtfkklicpnoeclaaW15
namespace Go.SL
open Go Go.Proofs
attribute [local irreducible] W WL WQ WG WA VOp thn blk retP FnAt FnIn

theorem valE_error {v : Vl} (h : valE v = 0) (hk : v.kind = 4) : 1 ≤ v.num ∧ v.num ≤ 6 := by
  simp only [valE, valOk, hk] at h
  cases h1 : (decide (v.text = emptyB) && decide (1 ≤ v.num) && decide (v.num ≤ 6))
  · simp [h1] at h
  · simp only [Bool.and_eq_true, decide_eq_true_eq] at h1
    exact ⟨h1.1.2, h1.2⟩

set_option maxRecDepth 10000 in
theorem Literal_at (v : Vl) (hn : -9223372036854775808 ≤ v.num) (w : World) : Pure Try.prog 79 [.agg (encV v).toArray] w (.bool (litOk v)) := by
  refine fn_at Try.func79 rfl Try.ntmps79 rfl ?_
  have hE := valE_error (v := v)
  repeat' (first
    | ((with_reducible apply wl_callp); exact rfl; exact rfl; (intro w hm; exact refVal_at v hn w))
    | ((with_reducible apply wl_v); exact rfl; (first | ((with_reducible apply vop_ok); exact rfl) | ((with_reducible apply v_fieldAddr); exact rfl) | ((with_reducible apply v_load_box); exact rfl; (repeat first | exact .hd | apply Sel.tl | apply In.tl); exact rfl) | ((with_reducible apply v_eqlb); exact rfl; exact rfl) | ((with_reducible apply v_neqb); exact rfl; exact rfl) | ((with_reducible apply v_loadw_box); exact rfl; (repeat first | exact .hd | apply Sel.tl | apply In.tl); exact rfl) | ((with_reducible apply v_loadn_box); exact rfl; (repeat first | exact .hd | apply Sel.tl | apply In.tl); exact rfl; exact rfl)))
    | ((with_reducible apply wl_gyes); exact rfl; exact rfl)
    | ((with_reducible apply wl_gno_b); exact rfl; exact rfl; exact rfl; exact rfl)
    | ((with_reducible apply wl_gno_u); exact rfl; exact rfl; exact rfl)
    | ((with_reducible apply wl_boxs); exact rfl; exact rfl; intro _)
    | ((with_reducible apply wl_box1); exact rfl; exact rfl; exact rfl; intro _)
    | ((with_reducible apply wl_gsplit) <;> first | exact rfl | (intro hb; (replace hb := Tidy.out hb; try (exfalso; omega))))
    | (with_reducible first | apply wl_nil | apply thn_n | apply w_seq | apply w_region | apply w_ret | apply w_skip | apply w_exit | apply w_block | apply thn_r | apply thn_e | apply blk_n | apply blk_r | apply blk_e)
    | ((with_reducible apply w_cond_true); exact rfl)
    | ((with_reducible apply w_cond_false); exact rfl)
    | ((with_reducible apply w_cond) <;> first | exact rfl | (intro hb; (replace hb := Tidy.out hb; try (exfalso; omega))))
    | ((with_reducible apply blk_x); exact rfl))
  all_goals (((with_reducible apply ret1); exact .inl rfl; exact rfl; exact rfl; exact MSub.nil _); unfold litOk; (try have hE' := hE (by assumption) (by assumption)); (repeat' split) <;> simp_all <;> first | omega | (by_cases h6 : v.num = 6 <;> simp [h6] <;> omega))

theorem eqN_comm (a b : Nd) : eqN a b = eqN b a := by
  rw [eqN_dec, eqN_dec]
  by_cases h : a = b
  · subst h; rfl
  · rw [decide_eq_false h, decide_eq_false fun e => h e.symm]
theorem v_eqlNs {w0 : World} {s : Slots} {H : List Blk} {ty t' : TypeId} {x y : Operand} {a b : Nd} (hx : ev s x = some (.agg (encN b).toArray)) (hy : ev s y = some (.agg (encN a).toArray)) : VOp Try.prog w0 s H (.binOp .eql 40 x y t') ty (.bool (eqN a b)) := by
  rw [eqN_comm]
  exact v_eqlN hx hy

def refFields (n : Nd) : Bool := kindOk n && eqN n (want n)

set_option maxRecDepth 20000 in
set_option maxHeartbeats 1000000 in
theorem refFields_at (n : Nd) (hn : -9223372036854775808 ≤ n.v.num) (w : World) : Pure Try.prog 63 [.agg (encN n).toArray] w (.bool (refFields n)) := by
  refine fn_at Try.func63 rfl Try.ntmps63 rfl ?_
  repeat' (first
    | ((with_reducible apply wl_callp); exact rfl; exact rfl; (intro w hm; exact Literal_at n.v hn w))
    | ((with_reducible apply wq_callp); exact rfl; exact rfl; (intro w hm; exact refRect_at n.rect w))
    | ((with_reducible apply wq_callp); exact rfl; exact rfl; (intro w hm; exact one_at n.rect w))
    | ((with_reducible apply w_drawB (T := 40) (fun D => [.int .u8 n.kind, .int .u8 0, .int .i64 0, .string emptyB, .int .i64 0, .int .i64 0, .int .i64 0, .int .i64 0, .int .i64 0, .int .u8 (bif D 5 then n.fn else 0), .int .i64 (bif D 7 then n.n else 0)]) (xs' := [.int .u8 n.kind, .int .u8 0, .int .i64 0, .string emptyB, .int .i64 0, .int .i64 0, .int .i64 0, .int .i64 0, .int .i64 0, .int .u8 n.fn, .int .i64 n.n])); decide +kernel; decide +kernel; (first | exact .hd | exact .tl .hd); exact rfl; (intro D hD; simp only [hD 5 (by decide), hD 7 (by decide), cond_true]))
    | ((with_reducible apply wl_v); exact rfl; (first | ((with_reducible apply v_eqlNs (b := ⟨n.kind, n.v, zeroR, 0, 0, 0⟩)); exact rfl; exact rfl) | ((with_reducible apply v_eqlNs (b := ⟨n.kind, zeroV, n.rect, 0, 0, 0⟩)); exact rfl; exact rfl) | ((with_reducible apply v_eqlNs (b := ⟨n.kind, zeroV, zeroR, 0, 0, 0⟩)); exact rfl; exact rfl) | ((with_reducible apply v_eqlNs (b := ⟨n.kind, zeroV, zeroR, n.op, 0, 0⟩)); exact rfl; exact rfl) | ((with_reducible apply v_eqlNs (b := ⟨n.kind, zeroV, zeroR, 0, n.fn, n.n⟩)); exact rfl; exact rfl)))
    | ((with_reducible apply wq_v); exact rfl; (first | ((with_reducible apply v_eqlNs (b := ⟨n.kind, n.v, zeroR, 0, 0, 0⟩)); exact rfl; exact rfl) | ((with_reducible apply v_eqlNs (b := ⟨n.kind, zeroV, n.rect, 0, 0, 0⟩)); exact rfl; exact rfl) | ((with_reducible apply v_eqlNs (b := ⟨n.kind, zeroV, zeroR, 0, 0, 0⟩)); exact rfl; exact rfl) | ((with_reducible apply v_eqlNs (b := ⟨n.kind, zeroV, zeroR, n.op, 0, 0⟩)); exact rfl; exact rfl) | ((with_reducible apply v_eqlNs (b := ⟨n.kind, zeroV, zeroR, 0, n.fn, n.n⟩)); exact rfl; exact rfl)))
    | ((with_reducible first | apply wl_v | apply wq_v); exact rfl; (first | ((with_reducible apply vop_ok); exact rfl) | ((with_reducible apply v_fieldAddr); exact rfl) | ((with_reducible apply v_load_box); exact rfl; (repeat first | exact .hd | apply Sel.tl | apply In.tl); exact rfl) | ((with_reducible apply v_eqlb); exact rfl; exact rfl) | ((with_reducible apply v_neqb); exact rfl; exact rfl) | ((with_reducible apply v_loadw_box); exact rfl; (repeat first | exact .hd | apply Sel.tl | apply In.tl); exact rfl) | ((with_reducible apply v_loadn_box); exact rfl; (repeat first | exact .hd | apply Sel.tl | apply In.tl); exact rfl; exact rfl) | ((with_reducible apply v_build); exact rfl; exact rfl; exact rfl)))
    | ((with_reducible first | apply wl_gyes | apply wq_gyes); exact rfl; exact rfl)
    | ((with_reducible first | apply wl_gno_b | apply wq_gno_b); exact rfl; exact rfl; exact rfl; exact rfl)
    | ((with_reducible first | apply wl_gno_u | apply wq_gno_u); exact rfl; exact rfl; exact rfl)
    | ((with_reducible apply wl_boxs); exact rfl; exact rfl; intro _)
    | ((with_reducible apply wl_box1); exact rfl; exact rfl; exact rfl; intro _)
    | ((with_reducible apply wl_alloc); exact rfl; intro _)
    | ((with_reducible apply wl_storen_box); exact rfl; exact rfl; (repeat first | exact .hd | apply Sel.tl | apply In.tl); exact rfl; exact rfl; exact rfl)
    | ((with_reducible apply wl_putn_box); exact rfl; exact rfl; (repeat first | exact .hd | apply Sel.tl | apply In.tl); exact rfl; exact rfl; exact rfl; exact rfl)
    | ((with_reducible first | apply wl_gsplit | apply wq_gsplit) <;> first | exact rfl | (intro hb; (replace hb := Tidy.out hb; try (exfalso; omega))))
    | (with_reducible first | apply wl_nil | apply thn_n | apply w_seq | apply w_region | apply w_ret | apply w_skip | apply w_exit | apply w_block | apply thn_r | apply thn_e | apply blk_n | apply blk_r | apply blk_e | apply wq_nil | apply wg_nil)
    | ((with_reducible apply w_cond_true); exact rfl)
    | ((with_reducible apply w_cond_false); exact rfl)
    | ((with_reducible apply w_cond) <;> first | exact rfl | (intro hb; (replace hb := Tidy.out hb; try (exfalso; omega))))
    | ((with_reducible apply blk_x); exact rfl)
    | ((with_reducible apply w_draw); kernel_rfl; kernel_rfl)
    | ((with_reducible apply wg_v); exact rfl; (intro D ht; (first | ((with_reducible apply vop_ok); exact rfl) | ((with_reducible apply v_fieldAddr); exact rfl) | ((with_reducible apply v_load_box); exact rfl; (repeat first | exact .hd | apply Sel.tl | apply In.tl); exact rfl) | ((with_reducible apply v_eqlb); exact rfl; exact rfl) | ((with_reducible apply v_neqb); exact rfl; exact rfl) | ((with_reducible apply v_loadw_box); exact rfl; (repeat first | exact .hd | apply Sel.tl | apply In.tl); exact rfl) | ((with_reducible apply v_loadn_box); exact rfl; (repeat first | exact .hd | apply Sel.tl | apply In.tl); exact rfl; exact rfl) | ((with_reducible apply v_build); exact rfl; exact rfl; exact rfl))); exact fun _ => rfl)
    | (refine wg_put _ _ rfl rfl (fun D => .hd) rfl rfl rfl (fun _ => Nat.le_of_ble_eq_true rfl) (fun D ht => .refl _) ?_)
    | ((with_reducible apply wg_l (f := 60)); exact rfl; decide +kernel; exact rfl; (first | ((with_reducible apply vop_ok); exact rfl) | ((with_reducible apply v_fieldAddr); exact rfl) | ((with_reducible apply v_load_box); exact rfl; (repeat first | exact .hd | apply Sel.tl | apply In.tl); exact rfl) | ((with_reducible apply v_eqlb); exact rfl; exact rfl) | ((with_reducible apply v_neqb); exact rfl; exact rfl) | ((with_reducible apply v_loadw_box); exact rfl; (repeat first | exact .hd | apply Sel.tl | apply In.tl); exact rfl) | ((with_reducible apply v_loadn_box); exact rfl; (repeat first | exact .hd | apply Sel.tl | apply In.tl); exact rfl; exact rfl) | ((with_reducible apply v_build); exact rfl; exact rfl; exact rfl))))
  all_goals (((with_reducible apply ret1); exact .inl rfl; exact rfl; exact rfl; exact MSub.nil _); ((try simp only [← Int.not_lt] at *); simp_all [refFields, kindOk, want, oneR, -Int.not_lt, -Int.not_le, ← Int.not_lt]))
end Go.SL

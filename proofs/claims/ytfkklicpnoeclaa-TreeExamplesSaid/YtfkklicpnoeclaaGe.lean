/-
  Lemmas and walks, packed: W15 W16 W17 W18 W19 W20 W21 W22 W23 Tr3 Tr4.
-/
import Derived.Test.YtfkklicpnoeclaaGd
import Derived.Test.YtfkklicpnoeclaaGb
set_option linter.unusedSimpArgs false
set_option linter.unusedVariables false
/-
  The document's functions on ranges, strings and values.
-/
namespace Go.SL
open Go Go.Proofs
attribute [local irreducible] W WL WQ WG WA VOp thn blk retP FnAt FnIn

set_option maxRecDepth 10000 in
theorem refValid_at (c r : Int) (w : World) : Pure Try.prog 82 [.agg #[.int .i64 c, .int .i64 r]] w (.bool (valid c r)) := by
  refine fn_at Try.func82 rfl Try.ntmps82 rfl ?_
  repeat' (first
    | ((with_reducible apply wl_v); exact rfl; (first | ((with_reducible apply vop_ok); exact rfl) | ((with_reducible apply v_fieldAddr); exact rfl) | ((with_reducible apply v_load_box); exact rfl; (repeat first | exact .hd | apply Sel.tl | apply In.tl); exact rfl) | ((with_reducible apply v_loadw_box); exact rfl; (repeat first | exact .hd | apply Sel.tl | apply In.tl); exact rfl) | ((with_reducible apply v_loadn_box); exact rfl; (repeat first | exact .hd | apply Sel.tl | apply In.tl); exact rfl; exact rfl)))
    | ((with_reducible apply wl_gyes); exact rfl; exact rfl)
    | ((with_reducible apply wl_gno_b); exact rfl; exact rfl; exact rfl; exact rfl)
    | ((with_reducible apply wl_gno_u); exact rfl; exact rfl; exact rfl)
    | ((with_reducible apply wl_boxs); exact rfl; exact rfl; intro _)
    | ((with_reducible apply wl_box1); exact rfl; exact rfl; exact rfl; intro _)
    | ((with_reducible apply wl_gsplit) <;> first | exact rfl | (intro hb; (replace hb := Tidy.out hb; try (exfalso; omega))))
    | (with_reducible first | apply wl_nil | apply thn_n | apply w_seq | apply w_region | apply w_ret | apply w_skip | apply w_exit | apply w_block | apply thn_r | apply thn_e | apply blk_n | apply blk_r | apply blk_e)
    | ((with_reducible apply w_cond_true); exact rfl)
    | ((with_reducible apply w_cond_false); exact rfl)
    | ((with_reducible apply w_cond) <;> first | exact rfl | (intro hb; (replace hb := Tidy.out hb; try (exfalso; omega))))
    | ((with_reducible apply blk_x); exact rfl))
  all_goals (((with_reducible apply ret1); exact .inl rfl; exact rfl; exact rfl; exact MSub.nil _); ((try simp only [← Int.not_lt] at *); simp_all [valid, -Int.not_lt, -Int.not_le, ← Int.not_lt]))

set_option maxRecDepth 10000 in
theorem refFrom_at (r : Rct) (w : World) : Pure Try.prog 83 [.agg (encR r).toArray] w (.agg #[.int .i64 r.c1, .int .i64 r.r1]) := by
  refine fn_at Try.func83 rfl Try.ntmps83 rfl ?_
  repeat' (first
    | ((with_reducible apply wl_v); exact rfl; (first | ((with_reducible apply vop_ok); exact rfl) | ((with_reducible apply v_fieldAddr); exact rfl) | ((with_reducible apply v_load_box); exact rfl; (repeat first | exact .hd | apply Sel.tl | apply In.tl); exact rfl) | ((with_reducible apply v_loadw_box); exact rfl; (repeat first | exact .hd | apply Sel.tl | apply In.tl); exact rfl) | ((with_reducible apply v_loadn_box); exact rfl; (repeat first | exact .hd | apply Sel.tl | apply In.tl); exact rfl; exact rfl) | ((with_reducible apply v_build); exact rfl; exact rfl; exact rfl)))
    | ((with_reducible apply wl_boxs); exact rfl; exact rfl; intro _)
    | ((with_reducible apply wl_box1); exact rfl; exact rfl; exact rfl; intro _)
    | ((with_reducible apply wl_alloc); exact rfl; intro _)
    | ((with_reducible apply wl_storen_box); exact rfl; exact rfl; (repeat first | exact .hd | apply Sel.tl | apply In.tl); exact rfl; exact rfl; exact rfl)
    | ((with_reducible apply wl_putn_box); exact rfl; exact rfl; (repeat first | exact .hd | apply Sel.tl | apply In.tl); exact rfl; exact rfl; exact rfl; exact rfl)
    | (with_reducible first | apply wl_nil | apply thn_n | apply w_seq | apply w_region | apply w_ret | apply w_skip | apply w_exit | apply w_block | apply thn_r | apply thn_e | apply blk_n | apply blk_r | apply blk_e)
    | ((with_reducible apply w_cond_true); exact rfl)
    | ((with_reducible apply w_cond_false); exact rfl)
    | ((with_reducible apply w_cond) <;> first | exact rfl | (intro hb; (replace hb := Tidy.out hb; try (exfalso; omega))))
    | ((with_reducible apply blk_x); exact rfl))
  exact retc (.inl rfl) Try.results83 rfl (by (repeat first | exact .hd | apply Sel.tl | apply In.tl)) rfl (MSub.nil _) rfl

set_option maxRecDepth 10000 in
theorem refTo_at (r : Rct) (w : World) : Pure Try.prog 84 [.agg (encR r).toArray] w (.agg #[.int .i64 r.c2, .int .i64 r.r2]) := by
  refine fn_at Try.func84 rfl Try.ntmps84 rfl ?_
  repeat' (first
    | ((with_reducible apply wl_v); exact rfl; (first | ((with_reducible apply vop_ok); exact rfl) | ((with_reducible apply v_fieldAddr); exact rfl) | ((with_reducible apply v_load_box); exact rfl; (repeat first | exact .hd | apply Sel.tl | apply In.tl); exact rfl) | ((with_reducible apply v_loadw_box); exact rfl; (repeat first | exact .hd | apply Sel.tl | apply In.tl); exact rfl) | ((with_reducible apply v_loadn_box); exact rfl; (repeat first | exact .hd | apply Sel.tl | apply In.tl); exact rfl; exact rfl) | ((with_reducible apply v_build); exact rfl; exact rfl; exact rfl)))
    | ((with_reducible apply wl_boxs); exact rfl; exact rfl; intro _)
    | ((with_reducible apply wl_box1); exact rfl; exact rfl; exact rfl; intro _)
    | ((with_reducible apply wl_alloc); exact rfl; intro _)
    | ((with_reducible apply wl_storen_box); exact rfl; exact rfl; (repeat first | exact .hd | apply Sel.tl | apply In.tl); exact rfl; exact rfl; exact rfl)
    | ((with_reducible apply wl_putn_box); exact rfl; exact rfl; (repeat first | exact .hd | apply Sel.tl | apply In.tl); exact rfl; exact rfl; exact rfl; exact rfl)
    | (with_reducible first | apply wl_nil | apply thn_n | apply w_seq | apply w_region | apply w_ret | apply w_skip | apply w_exit | apply w_block | apply thn_r | apply thn_e | apply blk_n | apply blk_r | apply blk_e)
    | ((with_reducible apply w_cond_true); exact rfl)
    | ((with_reducible apply w_cond_false); exact rfl)
    | ((with_reducible apply w_cond) <;> first | exact rfl | (intro hb; (replace hb := Tidy.out hb; try (exfalso; omega))))
    | ((with_reducible apply blk_x); exact rfl))
  exact retc (.inl rfl) Try.results84 rfl (by (repeat first | exact .hd | apply Sel.tl | apply In.tl)) rfl (MSub.nil _) rfl

set_option maxRecDepth 10000 in
theorem refRect_at (r : Rct) (w : World) : Pure Try.prog 69 [.agg (encR r).toArray] w (.int .i64 (rectE r)) := by
  refine fn_at Try.func69 rfl Try.ntmps69 rfl ?_
  repeat' (first
    | ((with_reducible apply wl_callp); exact rfl; exact rfl; (intro w hm; exact refFrom_at r w))
    | ((with_reducible apply wl_callp); exact rfl; exact rfl; (intro w hm; exact refTo_at r w))
    | ((with_reducible apply wl_callp); exact rfl; exact rfl; (intro w hm; exact refValid_at r.c1 r.r1 w))
    | ((with_reducible apply wl_callp); exact rfl; exact rfl; (intro w hm; exact refValid_at r.c2 r.r2 w))
    | ((with_reducible apply wl_v); exact rfl; (first | ((with_reducible apply vop_ok); exact rfl) | ((with_reducible apply v_fieldAddr); exact rfl) | ((with_reducible apply v_load_box); exact rfl; (repeat first | exact .hd | apply Sel.tl | apply In.tl); exact rfl) | ((with_reducible apply v_loadw_box); exact rfl; (repeat first | exact .hd | apply Sel.tl | apply In.tl); exact rfl) | ((with_reducible apply v_loadn_box); exact rfl; (repeat first | exact .hd | apply Sel.tl | apply In.tl); exact rfl; exact rfl)))
    | ((with_reducible apply wl_gyes); exact rfl; exact rfl)
    | ((with_reducible apply wl_gno_b); exact rfl; exact rfl; exact rfl; exact rfl)
    | ((with_reducible apply wl_gno_u); exact rfl; exact rfl; exact rfl)
    | ((with_reducible apply wl_boxs); exact rfl; exact rfl; intro _)
    | ((with_reducible apply wl_box1); exact rfl; exact rfl; exact rfl; intro _)
    | ((with_reducible apply wl_gsplit) <;> first | exact rfl | (intro hb; (replace hb := Tidy.out hb; try (exfalso; omega))))
    | (with_reducible first | apply wl_nil | apply thn_n | apply w_seq | apply w_region | apply w_ret | apply w_skip | apply w_exit | apply w_block | apply thn_r | apply thn_e | apply blk_n | apply blk_r | apply blk_e)
    | ((with_reducible apply w_cond_true); exact rfl)
    | ((with_reducible apply w_cond_false); exact rfl)
    | ((with_reducible apply w_cond) <;> first | exact rfl | (intro hb; (replace hb := Tidy.out hb; try (exfalso; omega))))
    | ((with_reducible apply blk_x); exact rfl))
  all_goals (((with_reducible apply ret1); exact .inl rfl; exact rfl; exact rfl; exact MSub.nil _); ((try simp only [← Int.not_lt] at *); simp_all [rectE, rectOk, -Int.not_lt, -Int.not_le, ← Int.not_lt]))

set_option maxRecDepth 10000 in
theorem one_at (r : Rct) (w : World) : Pure Try.prog 80 [.agg (encR r).toArray] w (.bool (oneR r)) := by
  refine fn_at Try.func80 rfl Try.ntmps80 rfl ?_
  repeat' (first
    | ((with_reducible apply wl_v); exact rfl; (first | ((with_reducible apply vop_ok); exact rfl) | ((with_reducible apply v_fieldAddr); exact rfl) | ((with_reducible apply v_load_box); exact rfl; (repeat first | exact .hd | apply Sel.tl | apply In.tl); exact rfl) | ((with_reducible apply v_eqlb); exact rfl; exact rfl) | ((with_reducible apply v_neqb); exact rfl; exact rfl) | ((with_reducible apply v_loadw_box); exact rfl; (repeat first | exact .hd | apply Sel.tl | apply In.tl); exact rfl) | ((with_reducible apply v_loadn_box); exact rfl; (repeat first | exact .hd | apply Sel.tl | apply In.tl); exact rfl; exact rfl)))
    | ((with_reducible apply wl_gyes); exact rfl; exact rfl)
    | ((with_reducible apply wl_gno_b); exact rfl; exact rfl; exact rfl; exact rfl)
    | ((with_reducible apply wl_gno_u); exact rfl; exact rfl; exact rfl)
    | ((with_reducible apply wl_boxs); exact rfl; exact rfl; intro _)
    | ((with_reducible apply wl_box1); exact rfl; exact rfl; exact rfl; intro _)
    | ((with_reducible apply wl_gsplit) <;> first | exact rfl | (intro hb; (replace hb := Tidy.out hb; try (exfalso; omega))))
    | (with_reducible first | apply wl_nil | apply thn_n | apply w_seq | apply w_region | apply w_ret | apply w_skip | apply w_exit | apply w_block | apply thn_r | apply thn_e | apply blk_n | apply blk_r | apply blk_e)
    | ((with_reducible apply w_cond_true); exact rfl)
    | ((with_reducible apply w_cond_false); exact rfl)
    | ((with_reducible apply w_cond) <;> first | exact rfl | (intro hb; (replace hb := Tidy.out hb; try (exfalso; omega))))
    | ((with_reducible apply blk_x); exact rfl))
  all_goals (((with_reducible apply ret1); exact .inl rfl; exact rfl; exact rfl; exact MSub.nil _); ((try simp only [← Int.not_lt] at *); simp_all [oneR, -Int.not_lt, -Int.not_le, ← Int.not_lt]))

set_option maxRecDepth 10000 in
theorem refBelow_at (n : Nd) (w : World) : Pure Try.prog 78 [.agg (encN n).toArray] w (.int .i64 (below n)) := by
  refine fn_at Try.func78 rfl Try.ntmps78 rfl ?_
  repeat' (first
    | ((with_reducible apply wl_v); exact rfl; (first | ((with_reducible apply vop_ok); exact rfl) | ((with_reducible apply v_fieldAddr); exact rfl) | ((with_reducible apply v_load_box); exact rfl; (repeat first | exact .hd | apply Sel.tl | apply In.tl); exact rfl) | ((with_reducible apply v_eqlb); exact rfl; exact rfl) | ((with_reducible apply v_neqb); exact rfl; exact rfl) | ((with_reducible apply v_loadw_box); exact rfl; (repeat first | exact .hd | apply Sel.tl | apply In.tl); exact rfl) | ((with_reducible apply v_loadn_box); exact rfl; (repeat first | exact .hd | apply Sel.tl | apply In.tl); exact rfl; exact rfl)))
    | ((with_reducible apply wl_boxs); exact rfl; exact rfl; intro _)
    | ((with_reducible apply wl_box1); exact rfl; exact rfl; exact rfl; intro _)
    | (with_reducible first | apply wl_nil | apply thn_n | apply w_seq | apply w_region | apply w_ret | apply w_skip | apply w_exit | apply w_block | apply thn_r | apply thn_e | apply blk_n | apply blk_r | apply blk_e)
    | ((with_reducible apply w_cond_true); exact rfl)
    | ((with_reducible apply w_cond_false); exact rfl)
    | ((with_reducible apply w_cond) <;> first | exact rfl | (intro hb; (replace hb := Tidy.out hb; try (exfalso; omega))))
    | ((with_reducible apply blk_x); exact rfl))
  all_goals (((with_reducible apply ret1); exact .inl rfl; exact rfl; exact rfl; exact MSub.nil _); simp_all [below])

set_option maxRecDepth 10000 in
theorem refPlain_at (b : ByteArray) (hs : b.size ≤ 256) (w : World) : Pure Try.prog 93 [.string b] w (.bool (plainB b)) := by
  refine fn_at Try.func93 rfl Try.ntmps93 rfl ?_
  have hsz : b.data.toList.length = b.size := by simp
  repeat' (first
    | ((with_reducible apply wl_v); exact rfl; (first | ((with_reducible apply vop_ok); exact rfl) | ((with_reducible apply v_len); exact rfl) | ((with_reducible apply v_lens); exact rfl)))
    | ((with_reducible apply wl_gyes); exact rfl; exact rfl)
    | ((with_reducible apply wl_gno_b); exact rfl; exact rfl; exact rfl; exact rfl)
    | ((with_reducible apply wl_gno_u); exact rfl; exact rfl; exact rfl)
    | ((with_reducible apply wl_gsplit) <;> first | exact rfl | (intro hb; (replace hb := Tidy.out hb; try (exfalso; omega))))
    | (with_reducible first | apply wl_nil | apply thn_n | apply w_seq | apply w_region | apply w_ret | apply w_skip | apply w_exit | apply w_block | apply thn_r | apply thn_e | apply blk_n | apply blk_r | apply blk_e)
    | ((with_reducible apply w_cond_true); exact rfl)
    | ((with_reducible apply w_cond_false); exact rfl)
    | ((with_reducible apply w_cond) <;> first | exact rfl | (intro hb; (replace hb := Tidy.out hb; try (exfalso; omega))))
    | ((with_reducible apply blk_x); exact rfl))
  refine w_loop (fun i : Nat => [(0, .string b), (3, .int .i64 (i : Int))]) (fun _ => []) (fun i => i ≤ b.size ∧ plainB b = (b.data.toList.drop i).all fun c => decide (32 ≤ c.toNat) && decide (c.toNat ≤ 126)) (fun i => b.size - i) 0 ⟨by omega, rfl⟩ ?_ ?_ ?_
  · (repeat (first | exact Sub.nil _ | refine Sub.cons rfl ?_))
  · (repeat (first | exact MSub.nil _ | refine MSub.pick (by (repeat first | exact .hd | apply Sel.tl | apply In.tl)) ?_ | exact MSub.refl _ | refine MSub.drop .hd ?_))
  · rintro i ⟨hi, hrec⟩
    by_cases hlt : i < b.size
    · rw [List.drop_eq_getElem_cons (by omega), List.all_cons] at hrec
      have hbi : b.data.toList[i]'(by omega) = b[i]'hlt := by simp [ByteArray.getElem_eq_getElem_data]
      rw [hbi] at hrec
      repeat' (first
        | ((with_reducible apply wl_v); exact rfl; (with_reducible apply v_index_str); exact rfl; exact rfl; exact hlt)
        | ((with_reducible apply wl_v); exact rfl; (with_reducible apply v_succN); exact rfl; exact rfl; (simp only [maxLen]; omega))
        | ((with_reducible apply wl_v); exact rfl; (first | ((with_reducible apply vop_ok); exact rfl) | ((with_reducible apply v_len); exact rfl) | ((with_reducible apply v_lens); exact rfl)))
        | ((with_reducible apply wl_gyes); exact rfl; exact rfl)
        | ((with_reducible apply wl_gno_b); exact rfl; exact rfl; exact rfl; exact rfl)
        | ((with_reducible apply wl_gno_u); exact rfl; exact rfl; exact rfl)
        | ((with_reducible apply wl_gsplit) <;> first | exact rfl | (intro hb; (replace hb := Tidy.out hb; try (exfalso; omega))))
        | (with_reducible first | apply wl_nil | apply thn_n | apply w_seq | apply w_region | apply w_ret | apply w_skip | apply w_exit | apply w_block | apply thn_r | apply thn_e | apply blk_n | apply blk_r | apply blk_e)
        | ((with_reducible apply w_cond_true); exact rfl)
        | ((with_reducible apply w_cond_false); exact rfl)
        | ((with_reducible apply w_cond) <;> first | exact rfl | (intro hb; (replace hb := Tidy.out hb; try (exfalso; omega))))
        | ((with_reducible apply blk_x); exact rfl))
      · ((with_reducible apply ret1); exact .inl rfl; exact rfl; exact rfl; exact MSub.nil _)
        rw [hrec, decide_eq_false (by omega)]
        rfl
      · ((with_reducible apply ret1); exact .inl rfl; exact rfl; exact rfl; exact MSub.nil _)
        rw [hrec, decide_eq_false (p := b[i].toNat ≤ 126) (by omega), Bool.and_false]
        rfl
      · refine ⟨i + 1, ⟨by omega, ?_⟩, by omega, ?_, ?_⟩
        · rw [hrec, decide_eq_true (by omega), decide_eq_true (by omega)]
          rfl
        · (repeat (first | exact Sub.nil _ | refine Sub.cons rfl ?_))
        · (repeat (first | exact MSub.nil _ | refine MSub.pick (by (repeat first | exact .hd | apply Sel.tl | apply In.tl)) ?_ | exact MSub.refl _ | refine MSub.drop .hd ?_))
    · have e : i = b.size := by omega
      subst e
      repeat' (first
        | ((with_reducible apply wl_v); exact rfl; (first | ((with_reducible apply vop_ok); exact rfl) | ((with_reducible apply v_len); exact rfl) | ((with_reducible apply v_lens); exact rfl)))
        | ((with_reducible apply wl_gyes); exact rfl; exact rfl)
        | ((with_reducible apply wl_gno_b); exact rfl; exact rfl; exact rfl; exact rfl)
        | ((with_reducible apply wl_gno_u); exact rfl; exact rfl; exact rfl)
        | ((with_reducible apply wl_gsplit) <;> first | exact rfl | (intro hb; (replace hb := Tidy.out hb; try (exfalso; omega))))
        | (with_reducible first | apply wl_nil | apply thn_n | apply w_seq | apply w_region | apply w_ret | apply w_skip | apply w_exit | apply w_block | apply thn_r | apply thn_e | apply blk_n | apply blk_r | apply blk_e)
        | ((with_reducible apply w_cond_true); exact rfl)
        | ((with_reducible apply w_cond_false); exact rfl)
        | ((with_reducible apply w_cond) <;> first | exact rfl | (intro hb; (replace hb := Tidy.out hb; try (exfalso; omega))))
        | ((with_reducible apply blk_x); exact rfl))
      ((with_reducible apply ret1); exact .inl rfl; exact rfl; exact rfl; exact MSub.nil _)
      rw [hrec, List.drop_of_length_le (by omega)]
      rfl

set_option maxRecDepth 10000 in
theorem refGlyph_at (b : ByteArray) (w : World) : Pure Try.prog 91 [.string b] w (.int .i64 (glyphE b)) := by
  refine fn_at Try.func91 rfl Try.ntmps91 rfl ?_
  repeat' (first
    | ((with_reducible apply wl_callp); exact rfl; exact rfl; (intro w hm; exact refPlain_at b (by omega) w))
    | ((with_reducible apply wl_v); exact rfl; (first | ((with_reducible apply vop_ok); exact rfl) | ((with_reducible apply v_len); exact rfl) | ((with_reducible apply v_lens); exact rfl)))
    | (with_reducible first | apply wl_nil | apply thn_n | apply w_seq | apply w_region | apply w_ret | apply w_skip | apply w_exit | apply w_block | apply thn_r | apply thn_e | apply blk_n | apply blk_r | apply blk_e)
    | ((with_reducible apply w_cond_true); exact rfl)
    | ((with_reducible apply w_cond_false); exact rfl)
    | ((with_reducible apply w_cond) <;> first | exact rfl | (intro hb; (replace hb := Tidy.out hb; try (exfalso; omega))))
    | ((with_reducible apply blk_x); exact rfl))
  all_goals (((with_reducible apply ret1); exact .inl rfl; exact rfl; exact rfl; exact MSub.nil _); (first | rw [glyphE, decide_eq_true (by omega : 256 < b.size)] | rw [glyphE, decide_eq_false (by omega : ¬ 256 < b.size)]); simp_all)

set_option maxRecDepth 10000 in
theorem refVal_at (v : Vl) (hn : -9223372036854775808 ≤ v.num) (w : World) : Pure Try.prog 89 [.agg (encV v).toArray] w (.int .i64 (valE v)) := by
  refine fn_at Try.func89 rfl Try.ntmps89 rfl ?_
  have h1 : (v.num ≠ -9223372036854775808) ↔ -9223372036854775807 ≤ v.num := by omega
  have h2 : v.num / 2 = 0 ↔ (v.num = 0 ∨ v.num = 1) := by omega
  repeat' (first
    | ((with_reducible apply wl_callp); exact rfl; exact rfl; (intro w hm; exact refGlyph_at v.text w))
    | ((with_reducible apply wl_v); exact rfl; (first | ((with_reducible apply vop_ok); exact rfl) | ((with_reducible apply v_fieldAddr); exact rfl) | ((with_reducible apply v_load_box); exact rfl; (repeat first | exact .hd | apply Sel.tl | apply In.tl); exact rfl) | ((with_reducible apply v_eqlb); exact rfl; exact rfl) | ((with_reducible apply v_neqb); exact rfl; exact rfl) | ((with_reducible apply v_loadw_box); exact rfl; (repeat first | exact .hd | apply Sel.tl | apply In.tl); exact rfl) | ((with_reducible apply v_loadn_box); exact rfl; (repeat first | exact .hd | apply Sel.tl | apply In.tl); exact rfl; exact rfl)))
    | ((with_reducible apply wl_gyes); exact rfl; exact rfl)
    | ((with_reducible apply wl_gno_b); exact rfl; exact rfl; exact rfl; exact rfl)
    | ((with_reducible apply wl_gno_u); exact rfl; exact rfl; exact rfl)
    | ((with_reducible apply wl_boxs); exact rfl; exact rfl; intro _)
    | ((with_reducible apply wl_box1); exact rfl; exact rfl; exact rfl; intro _)
    | ((with_reducible apply wl_gsplit) <;> first | exact rfl | (intro hb; (replace hb := Tidy.out hb; try (exfalso; omega))))
    | (with_reducible first | apply wl_nil | apply thn_n | apply w_seq | apply w_region | apply w_ret | apply w_skip | apply w_exit | apply w_block | apply thn_r | apply thn_e | apply blk_n | apply blk_r | apply blk_e)
    | ((with_reducible apply w_cond_true); exact rfl)
    | ((with_reducible apply w_cond_false); exact rfl)
    | ((with_reducible apply w_cond) <;> first | exact rfl | (intro hb; (replace hb := Tidy.out hb; try (exfalso; omega))))
    | ((with_reducible apply blk_x); exact rfl))
  all_goals (((with_reducible apply ret1); exact .inl rfl; exact rfl; exact rfl; exact MSub.nil _); simp only [valE, valOk, h1, h2, emptyB]; (try simp only [← Int.not_lt] at *); simp_all [-Int.not_lt, -Int.not_le, ← Int.not_lt])
end Go.SL

/-
  The document's checks of a node.
-/
namespace Go.SL
open Go Go.Proofs
attribute [local irreducible] W WL WQ WG WA VOp thn blk retP FnAt FnIn

theorem valE_error {v : Vl} (h : valE v = 0) (hk : v.kind = 4) : 1 ≤ v.num ∧ v.num ≤ 6 := by
  simp only [valE, valOk, hk] at h
  cases h1 : (decide (v.text = emptyB) && decide (1 ≤ v.num) && decide (v.num ≤ 6))
  · simp [h1] at h
  · simp only [Bool.and_eq_true, decide_eq_true_eq] at h1
    exact ⟨h1.1.2, h1.2⟩

set_option maxRecDepth 10000 in
theorem Literal_at (v : Vl) (hn : -9223372036854775808 ≤ v.num) (w : World) : Pure Try.prog 79 [.agg (encV v).toArray] w (.bool (litOk v)) := by
  refine fn_at Try.func79 rfl Try.ntmps79 rfl ?_
  have hE := valE_error (v := v)
  repeat' (first
    | ((with_reducible apply wl_callp); exact rfl; exact rfl; (intro w hm; exact refVal_at v hn w))
    | ((with_reducible apply wl_v); exact rfl; (first | ((with_reducible apply vop_ok); exact rfl) | ((with_reducible apply v_fieldAddr); exact rfl) | ((with_reducible apply v_load_box); exact rfl; (repeat first | exact .hd | apply Sel.tl | apply In.tl); exact rfl) | ((with_reducible apply v_eqlb); exact rfl; exact rfl) | ((with_reducible apply v_neqb); exact rfl; exact rfl) | ((with_reducible apply v_loadw_box); exact rfl; (repeat first | exact .hd | apply Sel.tl | apply In.tl); exact rfl) | ((with_reducible apply v_loadn_box); exact rfl; (repeat first | exact .hd | apply Sel.tl | apply In.tl); exact rfl; exact rfl)))
    | ((with_reducible apply wl_gyes); exact rfl; exact rfl)
    | ((with_reducible apply wl_gno_b); exact rfl; exact rfl; exact rfl; exact rfl)
    | ((with_reducible apply wl_gno_u); exact rfl; exact rfl; exact rfl)
    | ((with_reducible apply wl_boxs); exact rfl; exact rfl; intro _)
    | ((with_reducible apply wl_box1); exact rfl; exact rfl; exact rfl; intro _)
    | ((with_reducible apply wl_gsplit) <;> first | exact rfl | (intro hb; (replace hb := Tidy.out hb; try (exfalso; omega))))
    | (with_reducible first | apply wl_nil | apply thn_n | apply w_seq | apply w_region | apply w_ret | apply w_skip | apply w_exit | apply w_block | apply thn_r | apply thn_e | apply blk_n | apply blk_r | apply blk_e)
    | ((with_reducible apply w_cond_true); exact rfl)
    | ((with_reducible apply w_cond_false); exact rfl)
    | ((with_reducible apply w_cond) <;> first | exact rfl | (intro hb; (replace hb := Tidy.out hb; try (exfalso; omega))))
    | ((with_reducible apply blk_x); exact rfl))
  all_goals (((with_reducible apply ret1); exact .inl rfl; exact rfl; exact rfl; exact MSub.nil _); unfold litOk; (try have hE' := hE (by assumption) (by assumption)); (repeat' split) <;> simp_all <;> first | omega | (by_cases h6 : v.num = 6 <;> simp [h6] <;> omega))

theorem eqN_comm (a b : Nd) : eqN a b = eqN b a := by
  rw [eqN_dec, eqN_dec]
  by_cases h : a = b
  · subst h; rfl
  · rw [decide_eq_false h, decide_eq_false fun e => h e.symm]
theorem v_eqlNs {w0 : World} {s : Slots} {H : List Blk} {ty t' : TypeId} {x y : Operand} {a b : Nd} (hx : ev s x = some (.agg (encN b).toArray)) (hy : ev s y = some (.agg (encN a).toArray)) : VOp Try.prog w0 s H (.binOp .eql 40 x y t') ty (.bool (eqN a b)) := by
  rw [eqN_comm]
  exact v_eqlN hx hy

def refFields (n : Nd) : Bool := kindOk n && eqN n (want n)

set_option maxRecDepth 20000 in
set_option maxHeartbeats 1000000 in
theorem refFields_at (n : Nd) (hn : -9223372036854775808 ≤ n.v.num) (w : World) : Pure Try.prog 63 [.agg (encN n).toArray] w (.bool (refFields n)) := by
  refine fn_at Try.func63 rfl Try.ntmps63 rfl ?_
  repeat' (first
    | ((with_reducible apply wl_callp); exact rfl; exact rfl; (intro w hm; exact Literal_at n.v hn w))
    | ((with_reducible apply wq_callp); exact rfl; exact rfl; (intro w hm; exact refRect_at n.rect w))
    | ((with_reducible apply wq_callp); exact rfl; exact rfl; (intro w hm; exact one_at n.rect w))
    | ((with_reducible apply w_drawB (T := 40) (fun D => [.int .u8 n.kind, .int .u8 0, .int .i64 0, .string emptyB, .int .i64 0, .int .i64 0, .int .i64 0, .int .i64 0, .int .i64 0, .int .u8 (bif D 5 then n.fn else 0), .int .i64 (bif D 7 then n.n else 0)]) (xs' := [.int .u8 n.kind, .int .u8 0, .int .i64 0, .string emptyB, .int .i64 0, .int .i64 0, .int .i64 0, .int .i64 0, .int .i64 0, .int .u8 n.fn, .int .i64 n.n])); decide +kernel; decide +kernel; (first | exact .hd | exact .tl .hd); exact rfl; (intro D hD; simp only [hD 5 (by decide), hD 7 (by decide), cond_true]))
    | ((with_reducible apply wl_v); exact rfl; (first | ((with_reducible apply v_eqlNs (b := ⟨n.kind, n.v, zeroR, 0, 0, 0⟩)); exact rfl; exact rfl) | ((with_reducible apply v_eqlNs (b := ⟨n.kind, zeroV, n.rect, 0, 0, 0⟩)); exact rfl; exact rfl) | ((with_reducible apply v_eqlNs (b := ⟨n.kind, zeroV, zeroR, 0, 0, 0⟩)); exact rfl; exact rfl) | ((with_reducible apply v_eqlNs (b := ⟨n.kind, zeroV, zeroR, n.op, 0, 0⟩)); exact rfl; exact rfl) | ((with_reducible apply v_eqlNs (b := ⟨n.kind, zeroV, zeroR, 0, n.fn, n.n⟩)); exact rfl; exact rfl)))
    | ((with_reducible apply wq_v); exact rfl; (first | ((with_reducible apply v_eqlNs (b := ⟨n.kind, n.v, zeroR, 0, 0, 0⟩)); exact rfl; exact rfl) | ((with_reducible apply v_eqlNs (b := ⟨n.kind, zeroV, n.rect, 0, 0, 0⟩)); exact rfl; exact rfl) | ((with_reducible apply v_eqlNs (b := ⟨n.kind, zeroV, zeroR, 0, 0, 0⟩)); exact rfl; exact rfl) | ((with_reducible apply v_eqlNs (b := ⟨n.kind, zeroV, zeroR, n.op, 0, 0⟩)); exact rfl; exact rfl) | ((with_reducible apply v_eqlNs (b := ⟨n.kind, zeroV, zeroR, 0, n.fn, n.n⟩)); exact rfl; exact rfl)))
    | ((with_reducible first | apply wl_v | apply wq_v); exact rfl; (first | ((with_reducible apply vop_ok); exact rfl) | ((with_reducible apply v_fieldAddr); exact rfl) | ((with_reducible apply v_load_box); exact rfl; (repeat first | exact .hd | apply Sel.tl | apply In.tl); exact rfl) | ((with_reducible apply v_eqlb); exact rfl; exact rfl) | ((with_reducible apply v_neqb); exact rfl; exact rfl) | ((with_reducible apply v_loadw_box); exact rfl; (repeat first | exact .hd | apply Sel.tl | apply In.tl); exact rfl) | ((with_reducible apply v_loadn_box); exact rfl; (repeat first | exact .hd | apply Sel.tl | apply In.tl); exact rfl; exact rfl) | ((with_reducible apply v_build); exact rfl; exact rfl; exact rfl)))
    | ((with_reducible first | apply wl_gyes | apply wq_gyes); exact rfl; exact rfl)
    | ((with_reducible first | apply wl_gno_b | apply wq_gno_b); exact rfl; exact rfl; exact rfl; exact rfl)
    | ((with_reducible first | apply wl_gno_u | apply wq_gno_u); exact rfl; exact rfl; exact rfl)
    | ((with_reducible apply wl_boxs); exact rfl; exact rfl; intro _)
    | ((with_reducible apply wl_box1); exact rfl; exact rfl; exact rfl; intro _)
    | ((with_reducible apply wl_alloc); exact rfl; intro _)
    | ((with_reducible apply wl_storen_box); exact rfl; exact rfl; (repeat first | exact .hd | apply Sel.tl | apply In.tl); exact rfl; exact rfl; exact rfl)
    | ((with_reducible apply wl_putn_box); exact rfl; exact rfl; (repeat first | exact .hd | apply Sel.tl | apply In.tl); exact rfl; exact rfl; exact rfl; exact rfl)
    | ((with_reducible first | apply wl_gsplit | apply wq_gsplit) <;> first | exact rfl | (intro hb; (replace hb := Tidy.out hb; try (exfalso; omega))))
    | (with_reducible first | apply wl_nil | apply thn_n | apply w_seq | apply w_region | apply w_ret | apply w_skip | apply w_exit | apply w_block | apply thn_r | apply thn_e | apply blk_n | apply blk_r | apply blk_e | apply wq_nil | apply wg_nil)
    | ((with_reducible apply w_cond_true); exact rfl)
    | ((with_reducible apply w_cond_false); exact rfl)
    | ((with_reducible apply w_cond) <;> first | exact rfl | (intro hb; (replace hb := Tidy.out hb; try (exfalso; omega))))
    | ((with_reducible apply blk_x); exact rfl)
    | ((with_reducible apply w_draw); kernel_rfl; kernel_rfl)
    | ((with_reducible apply wg_v); exact rfl; (intro D ht; (first | ((with_reducible apply vop_ok); exact rfl) | ((with_reducible apply v_fieldAddr); exact rfl) | ((with_reducible apply v_load_box); exact rfl; (repeat first | exact .hd | apply Sel.tl | apply In.tl); exact rfl) | ((with_reducible apply v_eqlb); exact rfl; exact rfl) | ((with_reducible apply v_neqb); exact rfl; exact rfl) | ((with_reducible apply v_loadw_box); exact rfl; (repeat first | exact .hd | apply Sel.tl | apply In.tl); exact rfl) | ((with_reducible apply v_loadn_box); exact rfl; (repeat first | exact .hd | apply Sel.tl | apply In.tl); exact rfl; exact rfl) | ((with_reducible apply v_build); exact rfl; exact rfl; exact rfl))); exact fun _ => rfl)
    | (refine wg_put _ _ rfl rfl (fun D => .hd) rfl rfl rfl (fun _ => Nat.le_of_ble_eq_true rfl) (fun D ht => .refl _) ?_)
    | ((with_reducible apply wg_l (f := 60)); exact rfl; decide +kernel; exact rfl; (first | ((with_reducible apply vop_ok); exact rfl) | ((with_reducible apply v_fieldAddr); exact rfl) | ((with_reducible apply v_load_box); exact rfl; (repeat first | exact .hd | apply Sel.tl | apply In.tl); exact rfl) | ((with_reducible apply v_eqlb); exact rfl; exact rfl) | ((with_reducible apply v_neqb); exact rfl; exact rfl) | ((with_reducible apply v_loadw_box); exact rfl; (repeat first | exact .hd | apply Sel.tl | apply In.tl); exact rfl) | ((with_reducible apply v_loadn_box); exact rfl; (repeat first | exact .hd | apply Sel.tl | apply In.tl); exact rfl; exact rfl) | ((with_reducible apply v_build); exact rfl; exact rfl; exact rfl))))
  all_goals (((with_reducible apply ret1); exact .inl rfl; exact rfl; exact rfl; exact MSub.nil _); ((try simp only [← Int.not_lt] at *); simp_all [refFields, kindOk, want, oneR, -Int.not_lt, -Int.not_le, ← Int.not_lt]))
end Go.SL

/-
  The document's 'fits' and 'node'.
-/
namespace Go.SL
open Go Go.Proofs
attribute [local irreducible] W WL WQ WG WA VOp thn blk retP FnAt FnIn

def refFitsE (n : Nd) (i : Int) (m : Nd) : Bool :=
  if n.kind ≠ 7 then decide (m.kind ≠ 3) else if 46 ≤ n.fn then decide (m.kind = 3) || decide (m.kind = 2) else decide (m.kind ≠ 3) || refWideE n.fn i

set_option maxRecDepth 10000 in
theorem refFits_at (n : Nd) (i : Int) (m : Nd) (w : World) : Pure Try.prog 88 [.agg (encN n).toArray, .int .i64 i, .agg (encN m).toArray] w (.bool (refFitsE n i m)) := by
  refine fn_at Try.func88 rfl Try.ntmps88 rfl ?_
  repeat' (first
    | ((with_reducible apply wl_callp); exact rfl; exact rfl; (intro w hm; exact refWide_at n.fn i w))
    | ((with_reducible apply wl_v); exact rfl; (first | ((with_reducible apply vop_ok); exact rfl) | ((with_reducible apply v_fieldAddr); exact rfl) | ((with_reducible apply v_load_box); exact rfl; (repeat first | exact .hd | apply Sel.tl | apply In.tl); exact rfl) | ((with_reducible apply v_eqlb); exact rfl; exact rfl) | ((with_reducible apply v_neqb); exact rfl; exact rfl) | ((with_reducible apply v_loadw_box); exact rfl; (repeat first | exact .hd | apply Sel.tl | apply In.tl); exact rfl) | ((with_reducible apply v_loadn_box); exact rfl; (repeat first | exact .hd | apply Sel.tl | apply In.tl); exact rfl; exact rfl)))
    | ((with_reducible apply wl_gyes); exact rfl; exact rfl)
    | ((with_reducible apply wl_gno_b); exact rfl; exact rfl; exact rfl; exact rfl)
    | ((with_reducible apply wl_gno_u); exact rfl; exact rfl; exact rfl)
    | ((with_reducible apply wl_boxs); exact rfl; exact rfl; intro _)
    | ((with_reducible apply wl_box1); exact rfl; exact rfl; exact rfl; intro _)
    | ((with_reducible apply wl_gsplit) <;> first | exact rfl | (intro hb; (replace hb := Tidy.out hb; try (exfalso; omega))))
    | (with_reducible first | apply wl_nil | apply thn_n | apply w_seq | apply w_region | apply w_ret | apply w_skip | apply w_exit | apply w_block | apply thn_r | apply thn_e | apply blk_n | apply blk_r | apply blk_e | apply cut_r | apply cut_e)
    | ((with_reducible apply w_cond_true); exact rfl)
    | ((with_reducible apply w_cond_false); exact rfl)
    | ((with_reducible apply w_cond) <;> first | exact rfl | (intro hb; (replace hb := Tidy.out hb; try (exfalso; omega))))
    | ((with_reducible apply blk_x); exact rfl)
    | ((with_reducible apply cut_n (i := ())) <;> first | exact trivial | ((repeat (first | exact Sub.nil _ | refine Sub.cons rfl ?_)); done) | ((repeat (first | exact MSub.nil _ | refine MSub.pick (by (repeat first | exact .hd | apply Sel.tl | apply In.tl)) ?_ | exact MSub.refl _ | refine MSub.drop .hd ?_)); done)))
  all_goals (((with_reducible apply ret1); exact .inl rfl; exact rfl; exact rfl; exact MSub.nil _); ((try simp only [← Int.not_lt] at *); simp_all [refFitsE, -Int.not_lt, -Int.not_le, ← Int.not_lt]))

theorem fieldsE_ok {n : Nd} (h : fieldsE n = 0) : refFields n = true ∧ (n.kind = 7 → knownF n.fn = true ∧ (refArityE n.fn).1 ≤ n.n ∧ n.n ≤ (refArityE n.fn).2) := by
  unfold fieldsE at h
  split at h
  · cases h
  · rename_i h1
    have hf : refFields n = true := by
      unfold refFields
      cases ha : kindOk n <;> cases hb : eqN n (want n) <;> simp_all
    refine ⟨hf, fun h7 => ?_⟩
    rw [if_neg (by simp [h7])] at h
    cases hk : knownF n.fn
    · rw [arity_unknown hk] at h
      simp at h
    · rw [arity_known hk] at h
      refine ⟨rfl, ?_⟩
      dsimp only at h
      rw [if_neg (by simp)] at h
      split at h
      · cases h
      · omega

theorem released_known {fn : Int} (h : knownF fn = true) : releasedF fn = decide (46 ≤ fn) := by
  simp only [knownF, Bool.and_eq_true, decide_eq_true_eq] at h
  unfold releasedF
  rw [decide_eq_true (by omega : fn ≤ 50), Bool.and_true]

theorem wide_released {fn i : Int} (h : 46 ≤ fn) (hk : knownF fn = true) (h0 : 0 ≤ i) (h1 : i < (refArityE fn).2) : refWideE fn i = true := by
  simp only [knownF, Bool.and_eq_true, decide_eq_true_eq] at hk
  unfold refWideE
  rw [if_neg (by omega), if_neg (by omega), if_neg (by omega), if_neg (by omega), decide_eq_true h, decide_eq_true hk.2]
  rfl

theorem fitOne_ref {L : List Nd} {n : Nd} {p : Pt} (h : fieldsE n = 0) (hr : p.root < L.length) (hp : p.wide = decide (L[p.root].kind = 3)) {i : Int} (h0 : 0 ≤ i) (h1 : i < below n) : fitOne L n i p = refFitsE n i L[p.root] := by
  obtain ⟨_, h7⟩ := fieldsE_ok h
  unfold fitOne refFitsE mayAt
  rw [kindAt_get hr, hp]
  generalize L[p.root].kind = k
  by_cases hk7 : n.kind = 7
  · obtain ⟨hk, ha, hb⟩ := h7 hk7
    have hb7 : below n = n.n := by simp [below, hk7]
    rw [if_pos hk7, if_neg (by simp [hk7]), released_known hk, wide_known hk]
    by_cases h46 : 46 ≤ n.fn
    · rw [if_pos h46, wide_released h46 hk h0 (by omega)]
      by_cases e3 : k = 3
      · simp [e3, hk7, h46]
      · by_cases e2 : k = 2 <;> simp [e3, e2, hk7, h46]
    · rw [if_neg h46]
      by_cases e3 : k = 3 <;> simp [e3, h46]
  · rw [if_neg hk7, if_pos hk7]
    by_cases e3 : k = 3 <;> simp [e3, hk7]

theorem refName_known {fn : Int} (hk : knownF fn = true) : refNameE fn ≠ emptyB := by
  simp only [knownF, Bool.and_eq_true, decide_eq_true_eq] at hk
  obtain ⟨j, hj⟩ := Int.eq_ofNat_of_zero_le (by omega : 0 ≤ fn - 1)
  have e2 : refNameE fn = namesL.getD j emptyB := by
    rw [refNameE, if_neg (by omega), show fn.toNat = j + 1 by omega]
    rfl
  rw [e2]
  exact (names_ok j (by omega)).1
theorem refName_unknown {fn : Int} (hk : knownF fn = false) (h0 : 0 ≤ fn) : refNameE fn = emptyB := by
  simp only [knownF, Bool.and_eq_false_iff, decide_eq_false_iff_not] at hk
  rw [refNameE]
  split
  · rfl
  · rw [show fn.toNat = 0 by omega]
    rfl

theorem fieldsE_bad {n : Nd} (h : fieldsE n ≠ 0) : (refFields n = false ∧ fieldsE n = 2) ∨ (refFields n = true ∧ n.kind = 7 ∧ knownF n.fn = false ∧ fieldsE n = 10) ∨
    (refFields n = true ∧ n.kind = 7 ∧ knownF n.fn = true ∧ (n.n < (refArityE n.fn).1 ∨ (refArityE n.fn).2 < n.n) ∧ fieldsE n = 11) := by
  unfold fieldsE at h ⊢
  by_cases h1 : kindOk n = false ∨ eqN n (want n) = false
  · left
    refine ⟨?_, if_pos h1⟩
    unfold refFields
    rcases h1 with h1 | h1 <;> simp [h1]
  · right
    rw [if_neg h1] at h ⊢
    have hf : refFields n = true := by
      unfold refFields
      cases ha : kindOk n <;> cases hb : eqN n (want n) <;> simp_all
    by_cases h7 : n.kind = 7
    · rw [if_neg (by simp [h7])] at h ⊢
      cases hk : knownF n.fn
      · left
        rw [arity_unknown hk] at h ⊢
        exact ⟨hf, h7, rfl, by simp⟩
      · right
        rw [arity_known hk] at h ⊢
        dsimp only at h ⊢
        rw [if_neg (by simp)] at h ⊢
        by_cases hc : n.n < (refArityE n.fn).1 ∨ (refArityE n.fn).2 < n.n
        · exact ⟨hf, h7, rfl, hc, if_pos hc⟩
        · rw [if_neg hc] at h
          exact absurd rfl h
    · rw [if_pos (by simpa using h7)] at h
      exact absurd rfl h

def encT (p : Pt) : List Value := [.int .i64 (p.root : Int), .int .i64 (p.depth : Int)]
theorem encT_len (p : Pt) : (encT p).length = 2 := rfl
def wfN (n : Nd) : Prop := -9223372036854775808 ≤ n.v.num ∧ 0 ≤ n.fn ∧ n.fn ≤ 255

/-- What 'node' of the document returns. -/
def nodeR (L : List Nd) (n : Nd) (i : Nat) (st : List Pt) : List Pt × Int :=
  match stepT L n i st with
  | .inl e => ([], e)
  | .inr r => (r.1, 0)

theorem v_1addN {P : Program} {w0 : World} {s : Slots} {H : List Blk} {ty : TypeId} {x y : Operand} {b : Nat} {t t' : TypeId} (hx : ev s x = some (.int .i64 1)) (hy : ev s y = some (.int .i64 (b : Nat))) (hb : b + 1 ≤ maxLen) : VOp P w0 s H (.binOp .add t x y t') ty (.int .i64 ((b + 1 : Nat) : Int)) := by
  have h := v_addN (P := P) (w0 := w0) (H := H) (ty := ty) (t := t) (t' := t') (a := 1) hx hy (by omega)
  rwa [Nat.add_comm 1 b] at h

theorem encTs_one (L : List Pt) : ∀ u ∈ L.flatMap encT, u.oneCell' = true := by
  intro u hu
  obtain ⟨n, _, h⟩ := List.mem_flatMap.1 hu
  simp only [encT, List.mem_cons, List.not_mem_nil, or_false] at h
  rcases h with rfl | rfl <;> rfl

structure TopsOk (L : List Nd) (i : Nat) (st : List Pt) : Prop where
  ok : ∀ p ∈ st, p.root < i ∧ p.depth ≤ 32 ∧ p.wide = decide (kindAt L p.root = 3)
  small : st.length ≤ i

set_option maxRecDepth 20000 in
set_option maxHeartbeats 2000000 in
theorem refNode_at (L : List Nd) (i : Nat) (hi : i < L.length) (hlen : L.length ≤ 256) (hwf : wfN L[i]) (st : List Pt) (hst : TopsOk L i st) (tv lv : Value) (w : World) (ht : Reads w tv L.length (L.flatMap encN)) (hp : Reads w lv st.length (st.flatMap encT)) :
    FnAt Try.prog 77 [tv, .int .i64 (i : Int), lv] w fun v H => ∃ A cap, v = .tuple #[sl A (nodeR L L[i] i st).1.length cap, .int .i64 (nodeR L L[i] i st).2] ∧ H = [.own A 88 2 (nodeR L L[i] i st).1.length cap ((nodeR L L[i] i st).1.flatMap encT)] := by
  have hp' := hp
  obtain ⟨At, ct, rfl, ht1, ht2, ht3⟩ := ht
  obtain ⟨Al, cl, rfl, hl1, hl2, hl3⟩ := hp
  obtain ⟨gt, ot, rfl, hrt⟩ := ht3 (by omega)
  have hrn := hrt.elem encN_len i hi
  obtain ⟨hok, hsmall⟩ := hst
  refine fn_at Try.func77 rfl Try.ntmps77 rfl ?_
  refine w_nilrow 88 2 ?_
  generalize hn : L[i] = n at hrn hwf
  generalize hR : nodeR L n i st = R
  unfold nodeR stepT at hR
  by_cases hfe : fieldsE n = 0
  · obtain ⟨hb0, hb16⟩ := fields_ok hfe
    obtain ⟨k, hk⟩ := Int.eq_ofNat_of_zero_le hb0
    obtain ⟨hf1, hf7⟩ := fieldsE_ok hfe
    have c1 := fun w => hf1 ▸ refFields_at n hwf.1 w
    have c2 := fun w => refName_at n.fn hwf.2.1 hwf.2.2 w
    have c3 := fun w => refArity_at n.fn w
    have hne := fun h7 => refName_known (hf7 h7).1
    have har := fun h7 => (hf7 h7).2
    have c4 : ∀ w, Pure Try.prog 78 [.agg (encN n).toArray] w (.int .i64 (k : Int)) := fun w => hk ▸ refBelow_at n w
    rw [if_neg (by simp [hfe]), hk, Int.toNat_natCast] at hR
    generalize refArityE n.fn = ar at har c3
    repeat' (first
      | ((with_reducible apply wl_callp); exact rfl; exact rfl; (intro w hm; exact c1 w))
      | ((with_reducible apply wl_callp); exact rfl; exact rfl; (intro w hm; exact c2 w))
      | ((with_reducible apply wl_callp); exact rfl; exact rfl; (intro w hm; exact c3 w))
      | ((with_reducible apply wl_callp); exact rfl; exact rfl; (intro w hm; exact c4 w))
      | ((with_reducible apply wl_v); exact rfl; (with_reducible apply v_eqls_f); exact rfl; exact rfl; exact hne (by assumption))
      | ((with_reducible apply w_keep (c := .tmp 24) [0, 1, 2, 8]); exact rfl)
      | ((with_reducible apply wl_v); exact rfl; (with_reducible apply v_subN); exact rfl; exact rfl; omega; (simp only [maxLen]; omega))
      | ((with_reducible apply wl_v); exact rfl; (first | ((with_reducible apply vop_ok); exact rfl) | ((with_reducible apply v_fieldAddr); exact rfl) | ((with_reducible apply v_len); exact rfl) | ((with_reducible apply v_lens); exact rfl) | ((with_reducible apply v_load_box); exact rfl; (repeat first | exact .hd | apply Sel.tl | apply In.tl); exact rfl) | ((with_reducible apply v_eqlb); exact rfl; exact rfl) | ((with_reducible apply v_neqb); exact rfl; exact rfl) | ((with_reducible apply v_max); exact rfl; exact rfl) | ((with_reducible apply v_loadw_box); exact rfl; (repeat first | exact .hd | apply Sel.tl | apply In.tl); exact rfl) | ((with_reducible apply v_loadn_box); exact rfl; (repeat first | exact .hd | apply Sel.tl | apply In.tl); exact rfl; exact rfl) | ((with_reducible apply v_build); exact rfl; exact rfl; exact rfl)))
      | ((with_reducible apply wl_gyes); exact rfl; exact rfl)
      | ((with_reducible apply wl_gno_b); exact rfl; exact rfl; exact rfl; exact rfl)
      | ((with_reducible apply wl_gno_u); exact rfl; exact rfl; exact rfl)
      | ((with_reducible apply wl_alloc); exact rfl; intro _)
      | ((with_reducible apply wl_storen_box); exact rfl; exact rfl; (repeat first | exact .hd | apply Sel.tl | apply In.tl); exact rfl; exact rfl; exact rfl)
      | ((with_reducible apply wl_putn_box); exact rfl; exact rfl; (repeat first | exact .hd | apply Sel.tl | apply In.tl); exact rfl; exact rfl; exact rfl; exact rfl)
      | ((with_reducible apply wl_buildSlice); exact rfl; exact rfl; exact rfl; exact rfl; exact rfl; exact rfl; exact rfl; intro _)
      | ((with_reducible apply wl_gsplit) <;> first | exact rfl | (intro hb; (replace hb := Tidy.out hb; try (exfalso; omega))))
      | (with_reducible first | apply wl_nil | apply thn_n | apply w_seq | apply w_region | apply w_ret | apply w_skip | apply w_exit | apply w_block | apply thn_r | apply thn_e | apply blk_n | apply blk_r | apply blk_e | apply cut_r | apply cut_e)
      | ((with_reducible apply w_cond_true); exact rfl)
      | ((with_reducible apply w_cond_false); exact rfl)
      | ((with_reducible apply w_cond) <;> first | exact rfl | (intro hb; (replace hb := Tidy.out hb; try (exfalso; omega))))
      | ((with_reducible apply blk_x); exact rfl)
      | ((with_reducible apply cut_n (i := ())) <;> first | exact trivial | ((repeat (first | exact Sub.nil _ | refine Sub.cons rfl ?_)); done) | ((repeat (first | exact MSub.nil _ | refine MSub.pick (by (repeat first | exact .hd | apply Sel.tl | apply In.tl)) ?_ | exact MSub.refl _ | refine MSub.drop .hd ?_)); done))
      | ((with_reducible apply wl_v); exact rfl; (with_reducible apply v_indexAddr); exact rfl; exact rfl; (first | assumption | omega))
      | ((with_reducible apply wl_v); exact rfl; (with_reducible apply v_loadw_ro); exact rfl; assumption; exact rfl)
      | ((with_reducible apply wl_v); exact rfl; (with_reducible apply v_load1_ro); exact rfl; assumption)
      | ((with_reducible apply wl_v); exact rfl; (with_reducible apply v_loadf_ro); exact rfl; assumption; exact rfl))
    · rw [if_pos (Or.inl (by omega))] at hR
      subst hR
      exact ret2 (.inl rfl) Try.results77 rfl rfl (H' := [.own none 88 2 0 0 []]) (by (repeat (first | exact MSub.nil _ | refine MSub.pick (by (repeat first | exact .hd | apply Sel.tl | apply In.tl)) ?_ | exact MSub.refl _ | refine MSub.drop .hd ?_))) ⟨none, 0, rfl, rfl⟩
    · rename_i g
      have htl := topOf_length st k (by omega)
      have hlt : ¬ ((st.length : Int) < (k : Int)) := by omega
      refine w_loopK [0, 1, 2, 8, 11, 12] rfl (fun j : Nat => [(13, .int .i64 (depthOf ((topOf st k).take j) : Int)), (14, .int .i64 (j : Int))]) (fun _ => [.box g 40 (encN n), .own none 88 2 0 0 []]) (fun j => j ≤ k ∧ fitsFrom L n 0 (topOf st k) = fitsFrom L n (j : Int) ((topOf st k).drop j)) (fun j => k - j) 0 ⟨by omega, rfl⟩ (by (repeat (first | exact Sub.nil _ | refine Sub.cons rfl ?_))) (by (repeat (first | exact MSub.nil _ | refine MSub.pick (by (repeat first | exact .hd | apply Sel.tl | apply In.tl)) ?_ | exact MSub.refl _ | refine MSub.drop .hd ?_))) ?_
      rintro j ⟨hj, hfit⟩
      by_cases hjk : j < k
      · obtain ⟨gl, ol, rfl, hrl⟩ := hl3 (by omega)
        have hjt : j < (topOf st k).length := by omega
        have hpe : (topOf st k)[j] = st[st.length - k + j]'(by omega) := by simp [topOf]
        have hrp := hrl.elem encT_len (st.length - k + j) (by omega)
        have hds := depthOf_succ (topOf st k) j hjt
        rw [List.drop_eq_getElem_cons hjt, fitsFrom] at hfit
        rw [← hpe] at hrp
        have hpm := topOf_mem (List.getElem_mem hjt)
        generalize (topOf st k)[j] = p at hpm hrp hds hfit
        obtain ⟨hp1, hp2, hp3⟩ := hok p hpm
        have hrr := hrt.elem encN_len p.root (by omega)
        have hf := fitOne_ref hfe (L := L) (p := p) (by omega) (by rw [hp3, kindAt_get]) (i := (j : Int)) (by omega) (by omega)
        have hcall := fun w => refFits_at n (j : Int) (L[p.root]'(by omega)) w
        rw [← hf] at hcall
        generalize L[p.root]'(by omega) = m at hrr hcall
        generalize hfo : fitOne L n (j : Int) p = fo at hcall hfit
        have hd33 := depthOf_bound ((topOf st k).take j) fun q hq => (hok q (topOf_mem (List.mem_of_mem_take hq))).2.1
        repeat' (first
          | ((with_reducible apply wq_callp); exact rfl; exact rfl; (intro w hm; exact hcall w))
          | ((with_reducible apply wl_v); exact rfl; (with_reducible apply v_addN); exact rfl; exact rfl; (simp only [maxLen]; omega))
          | ((with_reducible apply wq_v); exact rfl; (with_reducible apply v_addN); exact rfl; exact rfl; (simp only [maxLen]; omega))
          | ((with_reducible apply wl_v); exact rfl; (with_reducible apply v_1addN); exact rfl; exact rfl; (simp only [maxLen]; omega))
          | ((with_reducible apply wl_v); exact rfl; (with_reducible apply v_succN); exact rfl; exact rfl; (simp only [maxLen]; omega))
          | ((with_reducible apply wl_v); exact rfl; (with_reducible apply v_maxN); exact rfl; exact rfl)
          | ((with_reducible first | apply wl_v | apply wq_v); exact rfl; (first | ((with_reducible apply vop_ok); exact rfl) | ((with_reducible apply v_fieldAddr); exact rfl) | ((with_reducible apply v_len); exact rfl) | ((with_reducible apply v_lens); exact rfl) | ((with_reducible apply v_load_box); exact rfl; (repeat first | exact .hd | apply Sel.tl | apply In.tl); exact rfl) | ((with_reducible apply v_eqlb); exact rfl; exact rfl) | ((with_reducible apply v_neqb); exact rfl; exact rfl) | ((with_reducible apply v_max); exact rfl; exact rfl) | ((with_reducible apply v_loadw_box); exact rfl; (repeat first | exact .hd | apply Sel.tl | apply In.tl); exact rfl) | ((with_reducible apply v_loadn_box); exact rfl; (repeat first | exact .hd | apply Sel.tl | apply In.tl); exact rfl; exact rfl) | ((with_reducible apply v_build); exact rfl; exact rfl; exact rfl)))
          | ((with_reducible first | apply wl_gyes | apply wq_gyes); exact rfl; exact rfl)
          | ((with_reducible first | apply wl_gno_b | apply wq_gno_b); exact rfl; exact rfl; exact rfl; exact rfl)
          | ((with_reducible first | apply wl_gno_u | apply wq_gno_u); exact rfl; exact rfl; exact rfl)
          | ((with_reducible apply wl_alloc); exact rfl; intro _)
          | ((with_reducible apply wl_storen_box); exact rfl; exact rfl; (repeat first | exact .hd | apply Sel.tl | apply In.tl); exact rfl; exact rfl; exact rfl)
          | ((with_reducible apply wl_putn_box); exact rfl; exact rfl; (repeat first | exact .hd | apply Sel.tl | apply In.tl); exact rfl; exact rfl; exact rfl; exact rfl)
          | ((with_reducible apply wl_buildSlice); exact rfl; exact rfl; exact rfl; exact rfl; exact rfl; exact rfl; exact rfl; intro _)
          | ((with_reducible first | apply wl_gsplit | apply wq_gsplit) <;> first | exact rfl | (intro hb; (replace hb := Tidy.out hb; try (exfalso; omega))))
          | (with_reducible first | apply wl_nil | apply thn_n | apply w_seq | apply w_region | apply w_ret | apply w_skip | apply w_exit | apply w_block | apply thn_r | apply thn_e | apply blk_n | apply blk_r | apply blk_e | apply wq_nil | apply cut_r | apply cut_e)
          | ((with_reducible apply w_cond_true); exact rfl)
          | ((with_reducible apply w_cond_false); exact rfl)
          | ((with_reducible apply w_cond) <;> first | exact rfl | (intro hb; (replace hb := Tidy.out hb; try (exfalso; omega))))
          | ((with_reducible apply blk_x); exact rfl)
          | ((with_reducible apply cut_n (i := ())) <;> first | exact trivial | ((repeat (first | exact Sub.nil _ | refine Sub.cons rfl ?_)); done) | ((repeat (first | exact MSub.nil _ | refine MSub.pick (by (repeat first | exact .hd | apply Sel.tl | apply In.tl)) ?_ | exact MSub.refl _ | refine MSub.drop .hd ?_)); done))
          | ((with_reducible first | apply wl_v | apply wq_v); exact rfl; (with_reducible apply v_indexAddr); exact rfl; exact rfl; (first | assumption | omega))
          | ((with_reducible first | apply wl_v | apply wq_v); exact rfl; (with_reducible apply v_loadw_ro); exact rfl; assumption; exact rfl)
          | ((with_reducible first | apply wl_v | apply wq_v); exact rfl; (with_reducible apply v_load1_ro); exact rfl; assumption)
          | ((with_reducible first | apply wl_v | apply wq_v); exact rfl; (with_reducible apply v_loadf_ro); exact rfl; assumption; exact rfl)
          | ((with_reducible apply w_draw); kernel_rfl; kernel_rfl))
        · rw [if_pos (Or.inr (by rw [hfit]; simp_all))] at hR
          subst hR
          exact ret2 (.inl rfl) Try.results77 rfl rfl (H' := [.own none 88 2 0 0 []]) (by (repeat (first | exact MSub.nil _ | refine MSub.pick (by (repeat first | exact .hd | apply Sel.tl | apply In.tl)) ?_ | exact MSub.refl _ | refine MSub.drop .hd ?_))) ⟨none, 0, rfl, rfl⟩
        · rw [Nat.add_comm 1, ← hds]
          refine ⟨j + 1, ?_, (by first | omega | (dsimp only; omega)), (by (repeat (first | exact Sub.nil _ | refine Sub.cons rfl ?_))), (by (repeat (first | exact Sub.nil _ | refine Sub.cons rfl ?_))), (by (repeat (first | exact MSub.nil _ | refine MSub.pick (by (repeat first | exact .hd | apply Sel.tl | apply In.tl)) ?_ | exact MSub.refl _ | refine MSub.drop .hd ?_)))⟩
          refine ⟨by omega, ?_⟩
          rw [hfit, hb, Bool.true_and]
          rfl
      · have e : j = k := by omega
        subst e
        have htk : (topOf st j).take j = topOf st j := List.take_of_length_le (by omega)
        rw [htk]
        have hd33 := depthOf_bound (topOf st j) fun q hq => (hok q (topOf_mem hq)).2.1
        rw [List.drop_of_length_le (by omega), fitsFrom] at hfit
        rw [if_neg (by rw [hfit]; simp; omega)] at hR
        have hcut := hp'.cut (lo := 0) (hi := st.length - j) (sz := 2) (by omega) (by omega)
        have hcl : (((st.flatMap encT).drop (0 * 2)).take ((st.length - j - 0) * 2)) = (st.take (st.length - j)).flatMap encT := by
          rw [Nat.zero_mul, List.drop_zero, Nat.sub_zero, flat_take encT_len]
        rw [hcl] at hcut
        have hll : ((st.take (st.length - j)).flatMap encT).length = (st.length - j - 0) * 2 := by rw [flat_length' encT_len, List.length_take]; omega
        repeat' (first
          | ((with_reducible apply wl_buildSlice0); exact rfl; intro gb)
          | ((with_reducible apply wl_v); exact rfl; (with_reducible apply v_slice (lo := 0) (hi := st.length - j)); exact rfl; exact rfl; exact ⟨_, rfl⟩; omega; omega)
          | ((with_reducible apply wl_appendR (n' := 0) (c := 0) (A := some _) (m := st.length - j - 0)); exact rfl; exact rfl; exact rfl; (repeat first | exact .hd | apply Sel.tl | apply In.tl); (intro w hm; exact hcut.of_w0 hm); exact hll; exact encTs_one _; omega; (simp only [maxLen]; omega); intro A' cap' hA)
          | ((with_reducible apply wl_append); exact rfl; exact rfl; exact rfl; (repeat first | exact .hd | apply Sel.tl | apply In.tl); (intro w hm; exact hm.cells_own (by (repeat first | exact .hd | apply Sel.tl | apply In.tl))); exact rfl; (simp [Value.oneCell', sl]); omega; (simp only [maxLen]; omega); (intro A' cap' hA'))
          | ((with_reducible apply wl_v); exact rfl; (first | ((with_reducible apply vop_ok); exact rfl) | ((with_reducible apply v_fieldAddr); exact rfl) | ((with_reducible apply v_len); exact rfl) | ((with_reducible apply v_lens); exact rfl) | ((with_reducible apply v_load_box); exact rfl; (repeat first | exact .hd | apply Sel.tl | apply In.tl); exact rfl) | ((with_reducible apply v_eqlb); exact rfl; exact rfl) | ((with_reducible apply v_neqb); exact rfl; exact rfl) | ((with_reducible apply v_max); exact rfl; exact rfl) | ((with_reducible apply v_loadw_box); exact rfl; (repeat first | exact .hd | apply Sel.tl | apply In.tl); exact rfl) | ((with_reducible apply v_loadn_box); exact rfl; (repeat first | exact .hd | apply Sel.tl | apply In.tl); exact rfl; exact rfl) | ((with_reducible apply v_build); exact rfl; exact rfl; exact rfl)))
          | ((with_reducible apply wl_gyes); exact rfl; exact rfl)
          | ((with_reducible apply wl_gno_b); exact rfl; exact rfl; exact rfl; exact rfl)
          | ((with_reducible apply wl_gno_u); exact rfl; exact rfl; exact rfl)
          | ((with_reducible apply wl_alloc); exact rfl; intro _)
          | ((with_reducible apply wl_storen_box); exact rfl; exact rfl; (repeat first | exact .hd | apply Sel.tl | apply In.tl); exact rfl; exact rfl; exact rfl)
          | ((with_reducible apply wl_putn_box); exact rfl; exact rfl; (repeat first | exact .hd | apply Sel.tl | apply In.tl); exact rfl; exact rfl; exact rfl; exact rfl)
          | ((with_reducible apply wl_buildSlice); exact rfl; exact rfl; exact rfl; exact rfl; exact rfl; exact rfl; exact rfl; intro _)
          | ((with_reducible apply wl_gsplit) <;> first | exact rfl | (intro hb; (replace hb := Tidy.out hb; try (exfalso; omega))))
          | (with_reducible first | apply wl_nil | apply thn_n | apply w_seq | apply w_region | apply w_ret | apply w_skip | apply w_exit | apply w_block | apply thn_r | apply thn_e | apply blk_n | apply blk_r | apply blk_e | apply cut_r | apply cut_e)
          | ((with_reducible apply w_cond_true); exact rfl)
          | ((with_reducible apply w_cond_false); exact rfl)
          | ((with_reducible apply w_cond) <;> first | exact rfl | (intro hb; (replace hb := Tidy.out hb; try (exfalso; omega))))
          | ((with_reducible apply blk_x); exact rfl)
          | ((with_reducible apply cut_n (i := ())) <;> first | exact trivial | ((repeat (first | exact Sub.nil _ | refine Sub.cons rfl ?_)); done) | ((repeat (first | exact MSub.nil _ | refine MSub.pick (by (repeat first | exact .hd | apply Sel.tl | apply In.tl)) ?_ | exact MSub.refl _ | refine MSub.drop .hd ?_)); done)))
        · rw [if_pos (by omega)] at hR
          subst hR
          exact ret2 (.inl rfl) Try.results77 rfl rfl (H' := [.own none 88 2 0 0 []]) (by (repeat (first | exact MSub.nil _ | refine MSub.pick (by (repeat first | exact .hd | apply Sel.tl | apply In.tl)) ?_ | exact MSub.refl _ | refine MSub.drop .hd ?_))) ⟨none, 0, rfl, rfl⟩
        · rw [if_neg (by omega)] at hR
          subst hR
          have e1 : (st.take (st.length - j) ++ [(⟨i, depthOf (topOf st j), decide (n.kind = 3)⟩ : Pt)]).length = 0 + (st.length - j - 0) + 1 := by simp
          have e2 : (st.take (st.length - j) ++ [(⟨i, depthOf (topOf st j), decide (n.kind = 3)⟩ : Pt)]).flatMap encT = [] ++ (st.take (st.length - j)).flatMap encT ++ [.int .i64 (i : Int), .int .i64 (depthOf (topOf st j) : Int)] := by
            rw [List.flatMap_append]; rfl
          refine ret2 (.inl rfl) Try.results77 rfl rfl (H' := [.own A' 88 2 (0 + (st.length - j - 0) + 1) cap' ([] ++ (st.take (st.length - j)).flatMap encT ++ [.int .i64 (i : Int), .int .i64 (depthOf (topOf st j) : Int)])]) (by (repeat (first | exact MSub.nil _ | refine MSub.pick (by (repeat first | exact .hd | apply Sel.tl | apply In.tl)) ?_ | exact MSub.refl _ | refine MSub.drop .hd ?_))) ⟨A', cap', ?_⟩
          dsimp only
          rw [e1, e2]
          exact ⟨rfl, rfl⟩
  · rw [if_pos hfe] at hR
    rcases fieldsE_bad hfe with ⟨h1, h2⟩ | ⟨h1, h7, h2, h3⟩ | ⟨h1, h7, h2, h3, h4⟩
    · have c1 := fun w => h1 ▸ refFields_at n hwf.1 w
      rw [h2] at hR
      subst hR
      repeat' (first
        | ((with_reducible apply wl_v); exact rfl; (with_reducible apply v_indexAddr); exact rfl; exact rfl; exact hi)
        | ((with_reducible apply wl_v); exact rfl; (with_reducible apply v_loadw_ro); exact rfl; exact hrn; exact rfl)
        | ((with_reducible apply wl_callp); exact rfl; exact rfl; (intro w hm; exact c1 w))
        | ((with_reducible apply wl_v); exact rfl; (first | ((with_reducible apply vop_ok); exact rfl) | ((with_reducible apply v_fieldAddr); exact rfl) | ((with_reducible apply v_len); exact rfl) | ((with_reducible apply v_lens); exact rfl) | ((with_reducible apply v_load_box); exact rfl; (repeat first | exact .hd | apply Sel.tl | apply In.tl); exact rfl) | ((with_reducible apply v_eqlb); exact rfl; exact rfl) | ((with_reducible apply v_neqb); exact rfl; exact rfl) | ((with_reducible apply v_max); exact rfl; exact rfl) | ((with_reducible apply v_loadw_box); exact rfl; (repeat first | exact .hd | apply Sel.tl | apply In.tl); exact rfl) | ((with_reducible apply v_loadn_box); exact rfl; (repeat first | exact .hd | apply Sel.tl | apply In.tl); exact rfl; exact rfl) | ((with_reducible apply v_build); exact rfl; exact rfl; exact rfl)))
        | ((with_reducible apply wl_gyes); exact rfl; exact rfl)
        | ((with_reducible apply wl_gno_b); exact rfl; exact rfl; exact rfl; exact rfl)
        | ((with_reducible apply wl_gno_u); exact rfl; exact rfl; exact rfl)
        | ((with_reducible apply wl_alloc); exact rfl; intro _)
        | ((with_reducible apply wl_storen_box); exact rfl; exact rfl; (repeat first | exact .hd | apply Sel.tl | apply In.tl); exact rfl; exact rfl; exact rfl)
        | ((with_reducible apply wl_putn_box); exact rfl; exact rfl; (repeat first | exact .hd | apply Sel.tl | apply In.tl); exact rfl; exact rfl; exact rfl; exact rfl)
        | ((with_reducible apply wl_buildSlice); exact rfl; exact rfl; exact rfl; exact rfl; exact rfl; exact rfl; exact rfl; intro _)
        | ((with_reducible apply wl_gsplit) <;> first | exact rfl | (intro hb; (replace hb := Tidy.out hb; try (exfalso; omega))))
        | (with_reducible first | apply wl_nil | apply thn_n | apply w_seq | apply w_region | apply w_ret | apply w_skip | apply w_exit | apply w_block | apply thn_r | apply thn_e | apply blk_n | apply blk_r | apply blk_e | apply cut_r | apply cut_e)
        | ((with_reducible apply w_cond_true); exact rfl)
        | ((with_reducible apply w_cond_false); exact rfl)
        | ((with_reducible apply w_cond) <;> first | exact rfl | (intro hb; (replace hb := Tidy.out hb; try (exfalso; omega))))
        | ((with_reducible apply blk_x); exact rfl)
        | ((with_reducible apply cut_n (i := ())) <;> first | exact trivial | ((repeat (first | exact Sub.nil _ | refine Sub.cons rfl ?_)); done) | ((repeat (first | exact MSub.nil _ | refine MSub.pick (by (repeat first | exact .hd | apply Sel.tl | apply In.tl)) ?_ | exact MSub.refl _ | refine MSub.drop .hd ?_)); done)))
      exact ret2 (.inl rfl) Try.results77 rfl rfl (H' := [.own none 88 2 0 0 []]) (by (repeat (first | exact MSub.nil _ | refine MSub.pick (by (repeat first | exact .hd | apply Sel.tl | apply In.tl)) ?_ | exact MSub.refl _ | refine MSub.drop .hd ?_))) ⟨none, 0, rfl, rfl⟩
    · have c1 := fun w => h1 ▸ refFields_at n hwf.1 w
      have c2 := fun w => refName_unknown h2 hwf.2.1 ▸ refName_at n.fn hwf.2.1 hwf.2.2 w
      rw [h3] at hR
      subst hR
      repeat' (first
        | ((with_reducible apply wl_v); exact rfl; (with_reducible apply v_indexAddr); exact rfl; exact rfl; exact hi)
        | ((with_reducible apply wl_v); exact rfl; (with_reducible apply v_loadw_ro); exact rfl; exact hrn; exact rfl)
        | ((with_reducible apply wl_callp); exact rfl; exact rfl; (intro w hm; exact c1 w))
        | ((with_reducible apply wl_callp); exact rfl; exact rfl; (intro w hm; exact c2 w))
        | ((with_reducible apply wl_v); exact rfl; (with_reducible apply v_eqls_t); exact rfl; exact rfl; exact rfl)
        | ((with_reducible apply wl_v); exact rfl; (first | ((with_reducible apply vop_ok); exact rfl) | ((with_reducible apply v_fieldAddr); exact rfl) | ((with_reducible apply v_len); exact rfl) | ((with_reducible apply v_lens); exact rfl) | ((with_reducible apply v_load_box); exact rfl; (repeat first | exact .hd | apply Sel.tl | apply In.tl); exact rfl) | ((with_reducible apply v_eqlb); exact rfl; exact rfl) | ((with_reducible apply v_neqb); exact rfl; exact rfl) | ((with_reducible apply v_max); exact rfl; exact rfl) | ((with_reducible apply v_loadw_box); exact rfl; (repeat first | exact .hd | apply Sel.tl | apply In.tl); exact rfl) | ((with_reducible apply v_loadn_box); exact rfl; (repeat first | exact .hd | apply Sel.tl | apply In.tl); exact rfl; exact rfl) | ((with_reducible apply v_build); exact rfl; exact rfl; exact rfl)))
        | ((with_reducible apply wl_gyes); exact rfl; exact rfl)
        | ((with_reducible apply wl_gno_b); exact rfl; exact rfl; exact rfl; exact rfl)
        | ((with_reducible apply wl_gno_u); exact rfl; exact rfl; exact rfl)
        | ((with_reducible apply wl_alloc); exact rfl; intro _)
        | ((with_reducible apply wl_storen_box); exact rfl; exact rfl; (repeat first | exact .hd | apply Sel.tl | apply In.tl); exact rfl; exact rfl; exact rfl)
        | ((with_reducible apply wl_putn_box); exact rfl; exact rfl; (repeat first | exact .hd | apply Sel.tl | apply In.tl); exact rfl; exact rfl; exact rfl; exact rfl)
        | ((with_reducible apply wl_buildSlice); exact rfl; exact rfl; exact rfl; exact rfl; exact rfl; exact rfl; exact rfl; intro _)
        | ((with_reducible apply wl_gsplit) <;> first | exact rfl | (intro hb; (replace hb := Tidy.out hb; try (exfalso; omega))))
        | (with_reducible first | apply wl_nil | apply thn_n | apply w_seq | apply w_region | apply w_ret | apply w_skip | apply w_exit | apply w_block | apply thn_r | apply thn_e | apply blk_n | apply blk_r | apply blk_e | apply cut_r | apply cut_e)
        | ((with_reducible apply w_cond_true); exact rfl)
        | ((with_reducible apply w_cond_false); exact rfl)
        | ((with_reducible apply w_cond) <;> first | exact rfl | (intro hb; (replace hb := Tidy.out hb; try (exfalso; omega))))
        | ((with_reducible apply blk_x); exact rfl)
        | ((with_reducible apply cut_n (i := ())) <;> first | exact trivial | ((repeat (first | exact Sub.nil _ | refine Sub.cons rfl ?_)); done) | ((repeat (first | exact MSub.nil _ | refine MSub.pick (by (repeat first | exact .hd | apply Sel.tl | apply In.tl)) ?_ | exact MSub.refl _ | refine MSub.drop .hd ?_)); done)))
      exact ret2 (.inl rfl) Try.results77 rfl rfl (H' := [.own none 88 2 0 0 []]) (by (repeat (first | exact MSub.nil _ | refine MSub.pick (by (repeat first | exact .hd | apply Sel.tl | apply In.tl)) ?_ | exact MSub.refl _ | refine MSub.drop .hd ?_))) ⟨none, 0, rfl, rfl⟩
    · have c1 := fun w => h1 ▸ refFields_at n hwf.1 w
      have c2 := fun w => refName_at n.fn hwf.2.1 hwf.2.2 w
      have c3 := fun w => refArity_at n.fn w
      have hne := refName_known h2
      rw [h4] at hR
      subst hR
      generalize refArityE n.fn = ar at h3 c3
      repeat' (first
        | ((with_reducible apply wl_v); exact rfl; (with_reducible apply v_indexAddr); exact rfl; exact rfl; exact hi)
        | ((with_reducible apply wl_v); exact rfl; (with_reducible apply v_loadw_ro); exact rfl; exact hrn; exact rfl)
        | ((with_reducible apply wl_callp); exact rfl; exact rfl; (intro w hm; exact c1 w))
        | ((with_reducible apply wl_callp); exact rfl; exact rfl; (intro w hm; exact c2 w))
        | ((with_reducible apply wl_callp); exact rfl; exact rfl; (intro w hm; exact c3 w))
        | ((with_reducible apply wl_v); exact rfl; (with_reducible apply v_eqls_f); exact rfl; exact rfl; exact hne)
        | ((with_reducible apply wl_v); exact rfl; (first | ((with_reducible apply vop_ok); exact rfl) | ((with_reducible apply v_fieldAddr); exact rfl) | ((with_reducible apply v_len); exact rfl) | ((with_reducible apply v_lens); exact rfl) | ((with_reducible apply v_load_box); exact rfl; (repeat first | exact .hd | apply Sel.tl | apply In.tl); exact rfl) | ((with_reducible apply v_eqlb); exact rfl; exact rfl) | ((with_reducible apply v_neqb); exact rfl; exact rfl) | ((with_reducible apply v_max); exact rfl; exact rfl) | ((with_reducible apply v_loadw_box); exact rfl; (repeat first | exact .hd | apply Sel.tl | apply In.tl); exact rfl) | ((with_reducible apply v_loadn_box); exact rfl; (repeat first | exact .hd | apply Sel.tl | apply In.tl); exact rfl; exact rfl) | ((with_reducible apply v_build); exact rfl; exact rfl; exact rfl)))
        | ((with_reducible apply wl_gyes); exact rfl; exact rfl)
        | ((with_reducible apply wl_gno_b); exact rfl; exact rfl; exact rfl; exact rfl)
        | ((with_reducible apply wl_gno_u); exact rfl; exact rfl; exact rfl)
        | ((with_reducible apply wl_alloc); exact rfl; intro _)
        | ((with_reducible apply wl_storen_box); exact rfl; exact rfl; (repeat first | exact .hd | apply Sel.tl | apply In.tl); exact rfl; exact rfl; exact rfl)
        | ((with_reducible apply wl_putn_box); exact rfl; exact rfl; (repeat first | exact .hd | apply Sel.tl | apply In.tl); exact rfl; exact rfl; exact rfl; exact rfl)
        | ((with_reducible apply wl_buildSlice); exact rfl; exact rfl; exact rfl; exact rfl; exact rfl; exact rfl; exact rfl; intro _)
        | ((with_reducible apply wl_gsplit) <;> first | exact rfl | (intro hb; (replace hb := Tidy.out hb; try (exfalso; omega))))
        | (with_reducible first | apply wl_nil | apply thn_n | apply w_seq | apply w_region | apply w_ret | apply w_skip | apply w_exit | apply w_block | apply thn_r | apply thn_e | apply blk_n | apply blk_r | apply blk_e | apply cut_r | apply cut_e)
        | ((with_reducible apply w_cond_true); exact rfl)
        | ((with_reducible apply w_cond_false); exact rfl)
        | ((with_reducible apply w_cond) <;> first | exact rfl | (intro hb; (replace hb := Tidy.out hb; try (exfalso; omega))))
        | ((with_reducible apply blk_x); exact rfl)
        | ((with_reducible apply cut_n (i := ())) <;> first | exact trivial | ((repeat (first | exact Sub.nil _ | refine Sub.cons rfl ?_)); done) | ((repeat (first | exact MSub.nil _ | refine MSub.pick (by (repeat first | exact .hd | apply Sel.tl | apply In.tl)) ?_ | exact MSub.refl _ | refine MSub.drop .hd ?_)); done)))
      all_goals exact ret2 (.inl rfl) Try.results77 rfl rfl (H' := [.own none 88 2 0 0 []]) (by (repeat (first | exact MSub.nil _ | refine MSub.pick (by (repeat first | exact .hd | apply Sel.tl | apply In.tl)) ?_ | exact MSub.refl _ | refine MSub.drop .hd ?_))) ⟨none, 0, rfl, rfl⟩
end Go.SL

/-
  What the document's Depth and Check return.
-/
namespace Go.SL
open Go Go.Proofs
attribute [local irreducible] W WL WQ WG WA VOp thn blk cutP retP FnAt FnIn

theorem stepT_err {L : List Nd} {n : Nd} {i : Nat} {st : List Pt} {e : Int} (h : stepT L n i st = .inl e) : e ≠ 0 := by
  unfold stepT at h
  split at h
  · injection h with h; subst h; assumption
  · split at h
    · injection h with h; omega
    · split at h
      · injection h with h; omega
      · cases h

theorem stepT_shape {L : List Nd} {n : Nd} {i : Nat} {st st' : List Pt} {ks : List Nat} {d : Nat} (h : stepT L n i st = .inr (st', ks, d)) : ∃ a, (∀ p ∈ a, p ∈ st) ∧ a.length ≤ st.length ∧ st' = a ++ [⟨i, d, decide (n.kind = 3)⟩] ∧ d ≤ 32 := by
  unfold stepT at h
  split at h
  · cases h
  · split at h
    · cases h
    · split at h
      · cases h
      · simp only [Sum.inr.injEq, Prod.mk.injEq] at h
        obtain ⟨rfl, rfl, rfl⟩ := h
        exact ⟨_, fun p hp => List.mem_of_mem_take hp, by simp, rfl, by omega⟩

theorem topsOk_step {L : List Nd} {i : Nat} (hi : i < L.length) {st st' : List Pt} {ks : List Nat} {d : Nat} (ho : TopsOk L i st) (h : stepT L L[i] i st = .inr (st', ks, d)) : TopsOk L (i + 1) st' := by
  obtain ⟨a, h1, h2, rfl, h3⟩ := stepT_shape h
  refine ⟨fun p hp => ?_, by have := ho.small; simp; omega⟩
  rcases List.mem_append.1 hp with hp | hp
  · obtain ⟨q1, q2, q3⟩ := ho.ok p (h1 p hp)
    exact ⟨by omega, q2, q3⟩
  · rw [List.mem_singleton.1 hp]
    exact ⟨Nat.lt_succ_self i, h3, by rw [kindAt_get hi]⟩

def judgeT (L : List Nd) : List Nd → Nat → List Pt → List Pt × Int
  | [], _, st => (st, 0)
  | n :: r, i, st => match stepT L n i st with
    | .inl e => ([], e)
    | .inr x => judgeT L r (i + 1) x.1

def lastP (st : List Pt) : Nat := (st.getLast?.map Pt.depth).getD 0

theorem judge_walk (L : List Nd) : ∀ (r : List Nd) (i : Nat) (st : List Pt) (vs : List Visit), lastD vs = lastP st →
    (walkT L r i st vs).1 = (if (judgeT L r i st).2 ≠ 0 then (judgeT L r i st).2 else if (judgeT L r i st).1.length = 1 then 0 else 4) ∧ ((judgeT L r i st).2 = 0 → lastD (walkT L r i st vs).2 = lastP (judgeT L r i st).1)
  | [], i, st, vs, h => by
    refine ⟨?_, fun _ => h⟩
    by_cases h1 : st.length = 1 <;> simp [walkT, judgeT, h1]
  | n :: r, i, st, vs, h => by
    rw [walkT, judgeT]
    cases hs : stepT L n i st with
    | inl e => have := stepT_err hs; simp [this]
    | inr x =>
      obtain ⟨st', ks, d⟩ := x
      obtain ⟨a, _, _, rfl, _⟩ := stepT_shape hs
      dsimp only
      exact judge_walk L r (i + 1) _ _ (by simp [lastD, lastP])

theorem refDepth_eq (L : List Nd) : depthE L = (if 256 < L.length then (0, 5) else if (judgeT L L 0 []).2 ≠ 0 then (0, (judgeT L L 0 []).2) else if (judgeT L L 0 []).1.length ≠ 1 ∨ kindAt L (L.length - 1) = 3 then (0, 4) else (((lastP (judgeT L L 0 []).1 : Nat) : Int), 0) : Int × Int) := by
  obtain ⟨h1, h2⟩ := judge_walk L L 0 [] [] rfl
  have h0 : L.length = 0 → (judgeT L L 0 []).2 = 0 ∧ (judgeT L L 0 []).1.length = 0 := fun c => by
    have : L = [] := List.eq_nil_of_length_eq_zero c
    subst this
    simp [judgeT]
  unfold depthE checkE checkT
  generalize walkT L L 0 [] [] = wk at h1 h2
  generalize judgeT L L 0 [] = j at h0 h1 h2
  generalize kindAt L (L.length - 1) = k
  obtain ⟨w1, w2⟩ := wk
  obtain ⟨j1, j2⟩ := j
  dsimp only at h0 h1 h2 ⊢
  by_cases c1 : 256 < L.length
  · simp [c1]
  by_cases c2 : L.length = 0
  · obtain ⟨a1, a2⟩ := h0 c2
    simp only [if_neg c1, if_pos c2]
    simp [a1, a2]
  simp only [if_neg c1, if_neg c2]
  clear c1 c2 h0
  by_cases c3 : j2 = 0
  · have h2' := h2 c3
    by_cases c4 : j1.length = 1
    · by_cases c5 : k = 3 <;> simp_all
    · simp_all
  · simp_all

set_option maxRecDepth 20000 in
theorem judge_at (L : List Nd) (hlen : L.length ≤ 256) (hwf : ∀ n ∈ L, wfN n) (tv : Value) (w : World) (ht : Reads w tv L.length (L.flatMap encN)) :
    FnAt Try.prog 56 [tv] w fun v H => ∃ A cap, v = .tuple #[sl A (judgeT L L 0 []).1.length cap, .int .i64 (judgeT L L 0 []).2] ∧ H = [.own A 88 2 (judgeT L L 0 []).1.length cap ((judgeT L L 0 []).1.flatMap encT)] := by
  have ht' := ht
  obtain ⟨At, ct, rfl, ht1, ht2, ht3⟩ := ht
  refine fn_at Try.func56 rfl Try.ntmps56 rfl ?_
  refine w_nilrow 88 2 ?_
  refine w_nilrow 88 2 ?_
  generalize hR : judgeT L L 0 [] = R
  repeat' (first
    | ((with_reducible apply wl_v); exact rfl; (first | ((with_reducible apply vop_ok); exact rfl) | ((with_reducible apply v_len); exact rfl) | ((with_reducible apply v_lens); exact rfl) | ((with_reducible apply v_eqlb); exact rfl; exact rfl) | ((with_reducible apply v_neqb); exact rfl; exact rfl)))
    | (with_reducible first | apply wl_nil | apply thn_n | apply w_seq | apply w_region | apply w_ret | apply w_skip | apply w_exit | apply w_block | apply thn_r | apply thn_e | apply blk_n | apply blk_r | apply blk_e)
    | ((with_reducible apply w_cond_true); exact rfl)
    | ((with_reducible apply w_cond_false); exact rfl)
    | ((with_reducible apply w_cond) <;> first | exact rfl | (intro hb; (replace hb := Tidy.out hb; try (exfalso; omega))))
    | ((with_reducible apply blk_x); exact rfl))
  refine w_loopK [0] rfl (fun x : Nat × List Pt × Option Nat × Nat => [(4, sl x.2.2.1 x.2.1.length x.2.2.2), (5, .int .i64 (x.1 : Int))]) (fun x => [.own x.2.2.1 88 2 x.2.1.length x.2.2.2 (x.2.1.flatMap encT), .own none 88 2 0 0 []]) (fun x => x.1 ≤ L.length ∧ TopsOk L x.1 x.2.1 ∧ R = judgeT L (L.drop x.1) x.1 x.2.1) (fun x => L.length - x.1) (0, [], none, 0) ⟨by omega, ⟨fun p hp => by simp at hp, Nat.zero_le _⟩, hR.symm⟩ (by (repeat (first | exact Sub.nil _ | refine Sub.cons rfl ?_))) (by (repeat (first | exact MSub.nil _ | refine MSub.pick (by (repeat first | exact .hd | apply Sel.tl | apply In.tl)) ?_ | exact MSub.refl _ | refine MSub.drop .hd ?_))) ?_
  rintro ⟨i, st, A, cap⟩ ⟨hi, hok, hrec⟩
  dsimp only at hi hok hrec ⊢
  by_cases hlt : i < L.length
  · rw [List.drop_eq_getElem_cons hlt, judgeT] at hrec
    have hnode := fun (w' : World) (H : List Blk) (hm : Mem w w' H) (hr : Reads w' (sl A st.length cap) st.length (st.flatMap encT)) => refNode_at L i hlt hlen (hwf _ (List.getElem_mem hlt)) st hok _ _ w' (ht'.of_w0 hm) hr
    have hto := fun {st' ks d} => topsOk_step (st' := st') (ks := ks) (d := d) hlt hok
    unfold nodeR at hnode
    generalize hs : stepT L L[i] i st = s at hrec hnode hto
    cases s with
    | inl e =>
      have he := stepT_err hs
      dsimp only at hrec hnode
      subst hrec
      repeat' (first
        | ((with_reducible apply wl_call); exact rfl; exact rfl; (intro w' hm; exact hnode w' _ hm (Reads.of_own hm (by (repeat first | exact .hd | apply Sel.tl | apply In.tl)))); (rintro v H' ⟨A', cap', rfl, rfl⟩))
        | ((with_reducible apply wl_v); exact rfl; (first | ((with_reducible apply vop_ok); exact rfl) | ((with_reducible apply v_len); exact rfl) | ((with_reducible apply v_lens); exact rfl) | ((with_reducible apply v_eqlb); exact rfl; exact rfl) | ((with_reducible apply v_neqb); exact rfl; exact rfl)))
        | (with_reducible first | apply wl_nil | apply thn_n | apply w_seq | apply w_region | apply w_ret | apply w_skip | apply w_exit | apply w_block | apply thn_r | apply thn_e | apply blk_n | apply blk_r | apply blk_e)
        | ((with_reducible apply w_cond_true); exact rfl)
        | ((with_reducible apply w_cond_false); exact rfl)
        | ((with_reducible apply w_cond) <;> first | exact rfl | (intro hb; (replace hb := Tidy.out hb; try (exfalso; omega))))
        | ((with_reducible apply blk_x); exact rfl))
      · exact ret2 (.inl rfl) Try.results56 rfl rfl (H' := [.own none 88 2 0 0 []]) (by (repeat (first | exact MSub.nil _ | refine MSub.pick (by (repeat first | exact .hd | apply Sel.tl | apply In.tl)) ?_ | exact MSub.refl _ | refine MSub.drop .hd ?_))) ⟨none, 0, rfl, rfl⟩
    | inr x =>
      obtain ⟨st', ks, d⟩ := x
      dsimp only at hrec hnode
      repeat' (first
        | ((with_reducible apply wl_call); exact rfl; exact rfl; (intro w' hm; exact hnode w' _ hm (Reads.of_own hm (by (repeat first | exact .hd | apply Sel.tl | apply In.tl)))); (rintro v H' ⟨A', cap', rfl, rfl⟩))
        | ((with_reducible apply wl_v); exact rfl; (first | ((with_reducible apply vop_ok); exact rfl) | ((with_reducible apply v_len); exact rfl) | ((with_reducible apply v_lens); exact rfl) | ((with_reducible apply v_eqlb); exact rfl; exact rfl) | ((with_reducible apply v_neqb); exact rfl; exact rfl)))
        | (with_reducible first | apply wl_nil | apply thn_n | apply w_seq | apply w_region | apply w_ret | apply w_skip | apply w_exit | apply w_block | apply thn_r | apply thn_e | apply blk_n | apply blk_r | apply blk_e)
        | ((with_reducible apply w_cond_true); exact rfl)
        | ((with_reducible apply w_cond_false); exact rfl)
        | ((with_reducible apply w_cond) <;> first | exact rfl | (intro hb; (replace hb := Tidy.out hb; try (exfalso; omega))))
        | ((with_reducible apply blk_x); exact rfl)
        | ((with_reducible apply wl_v); exact rfl; (with_reducible apply v_succN); exact rfl; exact rfl; (simp only [maxLen] at *; omega))
        | ((with_reducible apply wl_v); exact rfl; (with_reducible apply v_1addN); exact rfl; exact rfl; (simp only [maxLen] at *; omega))
        | ((with_reducible apply wl_v); exact rfl; (with_reducible apply v_addN); exact rfl; exact rfl; (simp only [maxLen] at *; omega)))
      refine ⟨(i + 1, st', A', cap'), ?_, (by first | omega | (dsimp only; omega)), (by (repeat (first | exact Sub.nil _ | refine Sub.cons rfl ?_))), (by (repeat (first | exact Sub.nil _ | refine Sub.cons rfl ?_))), (by (repeat (first | exact MSub.nil _ | refine MSub.pick (by (repeat first | exact .hd | apply Sel.tl | apply In.tl)) ?_ | exact MSub.refl _ | refine MSub.drop .hd ?_)))⟩
      exact ⟨hlt, hto rfl, hrec⟩
  · have e : i = L.length := by omega
    subst e
    rw [List.drop_length, judgeT] at hrec
    subst hrec
    repeat' (first
      | ((with_reducible apply wl_v); exact rfl; (first | ((with_reducible apply vop_ok); exact rfl) | ((with_reducible apply v_len); exact rfl) | ((with_reducible apply v_lens); exact rfl) | ((with_reducible apply v_eqlb); exact rfl; exact rfl) | ((with_reducible apply v_neqb); exact rfl; exact rfl)))
      | (with_reducible first | apply wl_nil | apply thn_n | apply w_seq | apply w_region | apply w_ret | apply w_skip | apply w_exit | apply w_block | apply thn_r | apply thn_e | apply blk_n | apply blk_r | apply blk_e)
      | ((with_reducible apply w_cond_true); exact rfl)
      | ((with_reducible apply w_cond_false); exact rfl)
      | ((with_reducible apply w_cond) <;> first | exact rfl | (intro hb; (replace hb := Tidy.out hb; try (exfalso; omega))))
      | ((with_reducible apply blk_x); exact rfl))
    exact ret2 (.inl rfl) Try.results56 rfl rfl (H' := [.own A 88 2 st.length cap (st.flatMap encT)]) (by (repeat (first | exact MSub.nil _ | refine MSub.pick (by (repeat first | exact .hd | apply Sel.tl | apply In.tl)) ?_ | exact MSub.refl _ | refine MSub.drop .hd ?_))) ⟨A, cap, rfl, rfl⟩

theorem lastP_one {st : List Pt} (h : st.length = 1) : ∃ p, st = [p] ∧ lastP st = p.depth := by
  match st, h with
  | [p], _ => exact ⟨p, rfl, rfl⟩

set_option maxRecDepth 20000 in
theorem refDepth_at (L : List Nd) (hwf : ∀ n ∈ L, wfN n) (tv : Value) (w : World) (ht : Reads w tv L.length (L.flatMap encN)) : Pure Try.prog 19 [tv] w (.tuple #[.int .i64 (depthE L).1, .int .i64 (depthE L).2]) := by
  have ht' := ht
  obtain ⟨At, ct, rfl, ht1, ht2, ht3⟩ := ht
  refine fn_at Try.func19 rfl Try.ntmps19 rfl ?_
  have hd := refDepth_eq L
  generalize hde : depthE L = de at hd
  by_cases h256 : 256 < L.length
  · rw [if_pos h256] at hd
    subst hd
    repeat' (first
      | ((with_reducible apply wl_v); exact rfl; (first | ((with_reducible apply vop_ok); exact rfl) | ((with_reducible apply v_fieldAddr); exact rfl) | ((with_reducible apply v_len); exact rfl) | ((with_reducible apply v_lens); exact rfl) | ((with_reducible apply v_load_box); exact rfl; (repeat first | exact .hd | apply Sel.tl | apply In.tl); exact rfl) | ((with_reducible apply v_eqlb); exact rfl; exact rfl) | ((with_reducible apply v_neqb); exact rfl; exact rfl) | ((with_reducible apply v_loadw_box); exact rfl; (repeat first | exact .hd | apply Sel.tl | apply In.tl); exact rfl) | ((with_reducible apply v_loadn_box); exact rfl; (repeat first | exact .hd | apply Sel.tl | apply In.tl); exact rfl; exact rfl)))
      | ((with_reducible apply wl_gyes); exact rfl; exact rfl)
      | ((with_reducible apply wl_gno_b); exact rfl; exact rfl; exact rfl; exact rfl)
      | ((with_reducible apply wl_gno_u); exact rfl; exact rfl; exact rfl)
      | ((with_reducible apply wl_gsplit) <;> first | exact rfl | (intro hb; (replace hb := Tidy.out hb; try (exfalso; omega))))
      | (with_reducible first | apply wl_nil | apply thn_n | apply w_seq | apply w_region | apply w_ret | apply w_skip | apply w_exit | apply w_block | apply thn_r | apply thn_e | apply blk_n | apply blk_r | apply blk_e)
      | ((with_reducible apply w_cond_true); exact rfl)
      | ((with_reducible apply w_cond_false); exact rfl)
      | ((with_reducible apply w_cond) <;> first | exact rfl | (intro hb; (replace hb := Tidy.out hb; try (exfalso; omega))))
      | ((with_reducible apply blk_x); exact rfl))
    ((with_reducible apply ret2); exact .inl rfl; exact rfl; exact rfl; exact rfl; exact MSub.nil _)
    rfl
  have hj := fun (w' : World) (H : List Blk) (hm : Mem w w' H) => judge_at L (by omega) hwf _ w' (ht'.of_w0 hm)
  rw [if_neg h256] at hd
  have h0 : L.length = 0 → (judgeT L L 0 []).1.length = 0 := fun c => by
    have : L = [] := List.eq_nil_of_length_eq_zero c
    subst this
    simp [judgeT]
  generalize judgeT L L 0 [] = j at hj hd h0
  obtain ⟨st, e⟩ := j
  dsimp only at hj hd h0
  by_cases he : e = 0
  · rw [if_neg (by simp [he])] at hd
    by_cases hl : st.length = 1
    · obtain ⟨p, rfl, hp⟩ := lastP_one hl
      obtain ⟨gt, ot, rfl, hrt⟩ := ht3 (by omega)
      have hrl := hrt.elem encN_len (L.length - 1) (by omega)
      have hk : kindAt L (L.length - 1) = (L[L.length - 1]'(by omega)).kind := kindAt_get _
      rw [hk, hp] at hd
      generalize (L[L.length - 1]'(by omega)) = nl at hrl hd
      subst he
      repeat' (first
        | ((with_reducible apply wl_call); exact rfl; exact rfl; (intro w' hm; exact hj w' _ hm); (rintro v H' ⟨A', cap', rfl, rfl⟩))
        | ((with_reducible apply wl_v); exact rfl; (first | ((with_reducible apply vop_ok); exact rfl) | ((with_reducible apply v_fieldAddr); exact rfl) | ((with_reducible apply v_len); exact rfl) | ((with_reducible apply v_lens); exact rfl) | ((with_reducible apply v_load_box); exact rfl; (repeat first | exact .hd | apply Sel.tl | apply In.tl); exact rfl) | ((with_reducible apply v_eqlb); exact rfl; exact rfl) | ((with_reducible apply v_neqb); exact rfl; exact rfl) | ((with_reducible apply v_loadw_box); exact rfl; (repeat first | exact .hd | apply Sel.tl | apply In.tl); exact rfl) | ((with_reducible apply v_loadn_box); exact rfl; (repeat first | exact .hd | apply Sel.tl | apply In.tl); exact rfl; exact rfl)))
        | ((with_reducible apply wl_gyes); exact rfl; exact rfl)
        | ((with_reducible apply wl_gno_b); exact rfl; exact rfl; exact rfl; exact rfl)
        | ((with_reducible apply wl_gno_u); exact rfl; exact rfl; exact rfl)
        | ((with_reducible apply wl_gsplit) <;> first | exact rfl | (intro hb; (replace hb := Tidy.out hb; try (exfalso; omega))))
        | (with_reducible first | apply wl_nil | apply thn_n | apply w_seq | apply w_region | apply w_ret | apply w_skip | apply w_exit | apply w_block | apply thn_r | apply thn_e | apply blk_n | apply blk_r | apply blk_e)
        | ((with_reducible apply w_cond_true); exact rfl)
        | ((with_reducible apply w_cond_false); exact rfl)
        | ((with_reducible apply w_cond) <;> first | exact rfl | (intro hb; (replace hb := Tidy.out hb; try (exfalso; omega))))
        | ((with_reducible apply blk_x); exact rfl)
        | ((with_reducible apply wl_v); exact rfl; (with_reducible apply v_predN); exact rfl; exact rfl; omega; (simp only [maxLen] at *; omega))
        | ((with_reducible apply wl_v); exact rfl; (with_reducible apply v_subN); exact rfl; exact rfl; omega; (simp only [maxLen] at *; omega))
        | ((with_reducible apply wl_v); exact rfl; (with_reducible apply v_indexAddr); exact rfl; exact rfl; (first | assumption | omega))
        | ((with_reducible apply wl_v); exact rfl; (with_reducible apply v_loadw_ro); exact rfl; assumption; exact rfl)
        | ((with_reducible apply wl_v); exact rfl; (with_reducible apply v_load1_ro); exact rfl; assumption)
        | ((with_reducible apply wl_v); exact rfl; (with_reducible apply v_loadf_ro); exact rfl; assumption; exact rfl))
      · rw [if_pos (.inr hb)] at hd
        subst hd
        ((with_reducible apply ret2); exact .inl rfl; exact rfl; exact rfl; exact rfl; exact MSub.nil _)
        rfl
      · rw [if_neg (by simp; omega)] at hd
        subst hd
        refine wl_some .hd (by simp) fun ga hA => ?_
        subst hA
        repeat' (first
          | ((with_reducible apply wl_v); exact rfl; (with_reducible apply v_indexAddr (j := 0)); exact rfl; exact rfl; exact Nat.one_pos)
          | ((with_reducible apply wl_v); exact rfl; (with_reducible apply v_load_own); exact rfl; (repeat first | exact .hd | apply Sel.tl | apply In.tl); exact rfl)
          | ((with_reducible apply wl_v); exact rfl; (first | ((with_reducible apply vop_ok); exact rfl) | ((with_reducible apply v_fieldAddr); exact rfl) | ((with_reducible apply v_len); exact rfl) | ((with_reducible apply v_lens); exact rfl) | ((with_reducible apply v_load_box); exact rfl; (repeat first | exact .hd | apply Sel.tl | apply In.tl); exact rfl) | ((with_reducible apply v_eqlb); exact rfl; exact rfl) | ((with_reducible apply v_neqb); exact rfl; exact rfl) | ((with_reducible apply v_loadw_box); exact rfl; (repeat first | exact .hd | apply Sel.tl | apply In.tl); exact rfl) | ((with_reducible apply v_loadn_box); exact rfl; (repeat first | exact .hd | apply Sel.tl | apply In.tl); exact rfl; exact rfl)))
          | ((with_reducible apply wl_gyes); exact rfl; exact rfl)
          | ((with_reducible apply wl_gno_b); exact rfl; exact rfl; exact rfl; exact rfl)
          | ((with_reducible apply wl_gno_u); exact rfl; exact rfl; exact rfl)
          | ((with_reducible apply wl_gsplit) <;> first | exact rfl | (intro hb; (replace hb := Tidy.out hb; try (exfalso; omega))))
          | (with_reducible first | apply wl_nil | apply thn_n | apply w_seq | apply w_region | apply w_ret | apply w_skip | apply w_exit | apply w_block | apply thn_r | apply thn_e | apply blk_n | apply blk_r | apply blk_e)
          | ((with_reducible apply w_cond_true); exact rfl)
          | ((with_reducible apply w_cond_false); exact rfl)
          | ((with_reducible apply w_cond) <;> first | exact rfl | (intro hb; (replace hb := Tidy.out hb; try (exfalso; omega))))
          | ((with_reducible apply blk_x); exact rfl))
        ((with_reducible apply ret2); exact .inl rfl; exact rfl; exact rfl; exact rfl; exact MSub.nil _)
        rfl
    · rw [if_pos (.inl hl)] at hd
      subst hd he
      repeat' (first
        | ((with_reducible apply wl_call); exact rfl; exact rfl; (intro w' hm; exact hj w' _ hm); (rintro v H' ⟨A', cap', rfl, rfl⟩))
        | ((with_reducible apply wl_v); exact rfl; (first | ((with_reducible apply vop_ok); exact rfl) | ((with_reducible apply v_fieldAddr); exact rfl) | ((with_reducible apply v_len); exact rfl) | ((with_reducible apply v_lens); exact rfl) | ((with_reducible apply v_load_box); exact rfl; (repeat first | exact .hd | apply Sel.tl | apply In.tl); exact rfl) | ((with_reducible apply v_eqlb); exact rfl; exact rfl) | ((with_reducible apply v_neqb); exact rfl; exact rfl) | ((with_reducible apply v_loadw_box); exact rfl; (repeat first | exact .hd | apply Sel.tl | apply In.tl); exact rfl) | ((with_reducible apply v_loadn_box); exact rfl; (repeat first | exact .hd | apply Sel.tl | apply In.tl); exact rfl; exact rfl)))
        | ((with_reducible apply wl_gyes); exact rfl; exact rfl)
        | ((with_reducible apply wl_gno_b); exact rfl; exact rfl; exact rfl; exact rfl)
        | ((with_reducible apply wl_gno_u); exact rfl; exact rfl; exact rfl)
        | ((with_reducible apply wl_gsplit) <;> first | exact rfl | (intro hb; (replace hb := Tidy.out hb; try (exfalso; omega))))
        | (with_reducible first | apply wl_nil | apply thn_n | apply w_seq | apply w_region | apply w_ret | apply w_skip | apply w_exit | apply w_block | apply thn_r | apply thn_e | apply blk_n | apply blk_r | apply blk_e)
        | ((with_reducible apply w_cond_true); exact rfl)
        | ((with_reducible apply w_cond_false); exact rfl)
        | ((with_reducible apply w_cond) <;> first | exact rfl | (intro hb; (replace hb := Tidy.out hb; try (exfalso; omega))))
        | ((with_reducible apply blk_x); exact rfl)
        | ((with_reducible apply wl_v); exact rfl; (with_reducible apply v_predN); exact rfl; exact rfl; omega; (simp only [maxLen] at *; omega))
        | ((with_reducible apply wl_v); exact rfl; (with_reducible apply v_subN); exact rfl; exact rfl; omega; (simp only [maxLen] at *; omega))
        | ((with_reducible apply wl_v); exact rfl; (with_reducible apply v_indexAddr); exact rfl; exact rfl; (first | assumption | omega))
        | ((with_reducible apply wl_v); exact rfl; (with_reducible apply v_loadw_ro); exact rfl; assumption; exact rfl)
        | ((with_reducible apply wl_v); exact rfl; (with_reducible apply v_load1_ro); exact rfl; assumption)
        | ((with_reducible apply wl_v); exact rfl; (with_reducible apply v_loadf_ro); exact rfl; assumption; exact rfl))
      ((with_reducible apply ret2); exact .inl rfl; exact rfl; exact rfl; exact rfl; exact MSub.nil _)
      rfl
  · rw [if_pos he] at hd
    subst hd
    repeat' (first
      | ((with_reducible apply wl_call); exact rfl; exact rfl; (intro w' hm; exact hj w' _ hm); (rintro v H' ⟨A', cap', rfl, rfl⟩))
      | ((with_reducible apply wl_v); exact rfl; (first | ((with_reducible apply vop_ok); exact rfl) | ((with_reducible apply v_fieldAddr); exact rfl) | ((with_reducible apply v_len); exact rfl) | ((with_reducible apply v_lens); exact rfl) | ((with_reducible apply v_load_box); exact rfl; (repeat first | exact .hd | apply Sel.tl | apply In.tl); exact rfl) | ((with_reducible apply v_eqlb); exact rfl; exact rfl) | ((with_reducible apply v_neqb); exact rfl; exact rfl) | ((with_reducible apply v_loadw_box); exact rfl; (repeat first | exact .hd | apply Sel.tl | apply In.tl); exact rfl) | ((with_reducible apply v_loadn_box); exact rfl; (repeat first | exact .hd | apply Sel.tl | apply In.tl); exact rfl; exact rfl)))
      | ((with_reducible apply wl_gyes); exact rfl; exact rfl)
      | ((with_reducible apply wl_gno_b); exact rfl; exact rfl; exact rfl; exact rfl)
      | ((with_reducible apply wl_gno_u); exact rfl; exact rfl; exact rfl)
      | ((with_reducible apply wl_gsplit) <;> first | exact rfl | (intro hb; (replace hb := Tidy.out hb; try (exfalso; omega))))
      | (with_reducible first | apply wl_nil | apply thn_n | apply w_seq | apply w_region | apply w_ret | apply w_skip | apply w_exit | apply w_block | apply thn_r | apply thn_e | apply blk_n | apply blk_r | apply blk_e)
      | ((with_reducible apply w_cond_true); exact rfl)
      | ((with_reducible apply w_cond_false); exact rfl)
      | ((with_reducible apply w_cond) <;> first | exact rfl | (intro hb; (replace hb := Tidy.out hb; try (exfalso; omega))))
      | ((with_reducible apply blk_x); exact rfl))
    ((with_reducible apply ret2); exact .inl rfl; exact rfl; exact rfl; exact rfl; exact MSub.nil _)
    rfl

set_option maxRecDepth 20000 in
theorem refCheck_at (L : List Nd) (hwf : ∀ n ∈ L, wfN n) (tv : Value) (w : World) (ht : Reads w tv L.length (L.flatMap encN)) : Pure Try.prog 25 [tv] w (.int .i64 (checkE L)) := by
  refine fn_at Try.func25 rfl Try.ntmps25 rfl ?_
  have hd : (depthE L).2 = checkE L := by
    unfold depthE
    split
    · rfl
    · rename_i h; simp at h; simp [h]
  repeat' (first
    | ((with_reducible apply wl_callp); exact rfl; exact rfl; (intro w' hm; exact refDepth_at L hwf tv w' (ht.of_w0 hm)))
    | ((with_reducible apply wl_v); exact rfl; (first | ((with_reducible apply vop_ok); exact rfl)))
    | (with_reducible first | apply wl_nil | apply thn_n | apply w_seq | apply w_region | apply w_ret | apply w_skip | apply w_exit | apply w_block | apply thn_r | apply thn_e | apply blk_n | apply blk_r | apply blk_e)
    | ((with_reducible apply w_cond_true); exact rfl)
    | ((with_reducible apply w_cond_false); exact rfl)
    | ((with_reducible apply w_cond) <;> first | exact rfl | (intro hb; (replace hb := Tidy.out hb; try (exfalso; omega))))
    | ((with_reducible apply blk_x); exact rfl))
  ((with_reducible apply ret1); exact .inl rfl; exact rfl; exact rfl; exact MSub.nil _)
  rw [hd]
end Go.SL

/-
  What the document's Parents, Under, Kids and Sub return.
-/
namespace Go.SL
open Go Go.Proofs
attribute [local irreducible] W WL WQ WG WA VOp thn blk cutP retP FnAt FnIn

theorem stepF_below {n : Nd} {st l top : List STree} (hs : stepF n st = .inr (l, top)) : (top.length : Int) = below n ∧ st = l ++ top := by
  unfold stepF at hs
  split at hs
  · cases hs
  rename_i hf
  split at hs
  · cases hs
  rename_i hb
  split at hs
  · cases hs
  rename_i hd
  simp only [Sum.inr.injEq, Prod.mk.injEq] at hs
  obtain ⟨rfl, rfl⟩ := hs
  have h0 := (fields_ok (n := n) (by omega)).1
  refine ⟨?_, (List.take_append_drop _ _).symm⟩
  simp only [lastK, List.length_drop]
  omega

theorem walkF_cons {n : Nd} {r : List Nd} {st st' : List STree} {h h' : Hist} (hw : walkF (n :: r) st h = (0, st', h')) : ∃ l top, stepF n st = .inr (l, top) ∧ walkF r (l ++ [nodeF n top]) (h ++ [(top, nodeF n top)]) = (0, st', h') := by
  rw [walkF] at hw
  cases hsf : stepF n st with
  | inl e =>
    rw [hsf] at hw
    simp only [Prod.mk.injEq] at hw
    obtain ⟨rfl, _⟩ := hw
    exfalso
    unfold stepF at hsf
    split at hsf
    · injection hsf with hs
      exact absurd hs (by assumption)
    · split at hsf
      · cases hsf
      · split at hsf <;> cases hsf
  | inr x =>
    obtain ⟨l, top⟩ := x
    rw [hsf] at hw
    exact ⟨l, top, rfl, hw⟩

theorem len_le_flat {st : List STree} (hp : ∀ S ∈ st, 0 < S.ns.length) : st.length ≤ (flatS st).length := by
  induction st with
  | nil => exact Nat.zero_le _
  | cons S r ih =>
    have h1 := hp S List.mem_cons_self
    have h2 := ih fun T hT => hp T (List.mem_cons_of_mem _ hT)
    rw [flatS_cons, List.length_append, List.length_cons]
    omega

theorem setAll_succ (o : List Int) (ks : List Nat) (j : Nat) (h : j < ks.length) (v : Int) : setAll o (ks.take (j + 1)) v = (setAll o (ks.take j) v).set ks[j] v := by
  unfold setAll
  rw [List.take_succ_eq_append_getElem h, List.foldl_append]
  rfl

def intsI (l : List Int) : List Value := l.map (Value.int .i64)
theorem intsI_length (l : List Int) : (intsI l).length = l.length := by simp [intsI]
theorem intsI_get {l : List Int} {i : Nat} {u : Int} (h : l[i]? = some u) : (intsI l)[i]? = some (.int .i64 u) := by simp [intsI, h]
theorem intsI_set (l : List Int) (i : Nat) (v : Int) : (intsI l).set i (.int .i64 v) = intsI (l.set i v) := by simp [intsI, List.map_set]
theorem intsI_one (l : List Int) : ∀ u ∈ intsI l, u.oneCell' = true := by
  intro u hu
  obtain ⟨a, _, rfl⟩ := List.mem_map.1 hu
  rfl
theorem intsV_one (l : List Nat) : ∀ u ∈ intsV l, u.oneCell' = true := by
  intro u hu
  obtain ⟨a, _, rfl⟩ := List.mem_map.1 hu
  rfl

set_option maxRecDepth 20000 in
set_option maxHeartbeats 2000000 in
theorem Parents_at (L : List Nd) (hlen : L.length ≤ 256) (S : STree) (Hi : Hist) (hW : Whole L S Hi) (tv : Value) (w : World) (ht : Reads w tv L.length (L.flatMap encN)) :
    FnAt Try.prog 59 [tv] w fun v H => ∃ A cap, v = sl A L.length cap ∧ H = [.own A 3 1 L.length cap (intsI (parH Hi))] := by
  have ht' := ht
  obtain ⟨At, ct, rfl, ht1, ht2, ht3⟩ := ht
  refine fn_at Try.func59 rfl Try.ntmps59 rfl ?_
  refine w_nilrow 3 1 ?_
  refine w_nilrow 3 1 ?_
  repeat' (first
    | ((with_reducible apply wl_v); exact rfl; (first | ((with_reducible apply vop_ok); exact rfl) | ((with_reducible apply v_len); exact rfl) | ((with_reducible apply v_lens); exact rfl) | ((with_reducible apply v_load_box); exact rfl; (repeat first | exact .hd | apply Sel.tl | apply In.tl); exact rfl) | ((with_reducible apply v_loadw_box); exact rfl; (repeat first | exact .hd | apply Sel.tl | apply In.tl); exact rfl) | ((with_reducible apply v_loadn_box); exact rfl; (repeat first | exact .hd | apply Sel.tl | apply In.tl); exact rfl; exact rfl)))
    | ((with_reducible apply wl_storen_box); exact rfl; exact rfl; (repeat first | exact .hd | apply Sel.tl | apply In.tl); exact rfl; exact rfl; exact rfl)
    | ((with_reducible apply wl_putn_box); exact rfl; exact rfl; (repeat first | exact .hd | apply Sel.tl | apply In.tl); exact rfl; exact rfl; exact rfl; exact rfl)
    | ((with_reducible apply wl_buildSlice); exact rfl; exact rfl; exact rfl; exact rfl; exact rfl; exact rfl; exact rfl; intro _)
    | (with_reducible first | apply wl_nil | apply thn_n | apply w_seq | apply w_region | apply w_ret | apply w_skip | apply w_exit | apply w_block | apply thn_r | apply thn_e | apply blk_n | apply blk_r | apply blk_e)
    | ((with_reducible apply w_cond_true); exact rfl)
    | ((with_reducible apply w_cond_false); exact rfl)
    | ((with_reducible apply w_cond) <;> first | exact rfl | (intro hb; (replace hb := Tidy.out hb; try (exfalso; omega))))
    | ((with_reducible apply blk_x); exact rfl))
  refine w_loopK [0] rfl (fun x : Nat × List STree × Hist × (Option Nat × Nat) × (Option Nat × Nat) => [(3, sl x.2.2.2.1.1 x.1 x.2.2.2.1.2), (4, sl x.2.2.2.2.1 x.2.1.length x.2.2.2.2.2), (5, .int .i64 (x.1 : Int))])
    (fun x => [.own x.2.2.2.1.1 3 1 x.1 x.2.2.2.1.2 (intsI (parH x.2.2.1)), .own x.2.2.2.2.1 3 1 x.2.1.length x.2.2.2.2.2 (intsV (rootsFrom 0 x.2.1))])
    (fun x => x.1 ≤ L.length ∧ Inv (L.take x.1) x.2.1 x.2.2.1 ∧ ParOk x.2.1 x.2.2.1 ∧ walkF (L.drop x.1) x.2.1 x.2.2.1 = (0, [S], Hi)) (fun x => L.length - x.1) (0, [], [], (none, 0), (none, 0))
    ⟨by omega, Inv.nil, ⟨rfl, fun j y hy => (by simp at hy), fun k hk => (by simp [rootsFrom] at hk)⟩, hW.walk⟩ (by (repeat (first | exact Sub.nil _ | refine Sub.cons rfl ?_))) (by (repeat (first | exact MSub.nil _ | refine MSub.pick (by (repeat first | exact .hd | apply Sel.tl | apply In.tl)) ?_ | exact MSub.refl _ | refine MSub.drop .hd ?_))) ?_
  rintro ⟨i, st, h, ⟨A1, c1⟩, ⟨A2, c2⟩⟩ ⟨hi, hI, hP, hw⟩
  dsimp only at hi hI hP hw ⊢
  have hhl : h.length = i := by rw [hI.len, List.length_take]; omega
  by_cases hlt : i < L.length
  · rw [List.drop_eq_getElem_cons hlt] at hw
    obtain ⟨l, top, hs, hw'⟩ := walkF_cons hw
    obtain ⟨hbl, hst⟩ := stepF_below hs
    obtain ⟨_, hlen2, hlo, hlp, htp⟩ := hI.facts hs
    have hP' := parOk_step hI hP hs
    have hI' := (hI.step hs).1
    have htk : L.take (i + 1) = L.take i ++ [L[i]] := List.take_succ_eq_append_getElem hlt
    rw [← htk] at hI'
    obtain ⟨gt, ot, rfl, hrt⟩ := ht3 (by omega)
    have hrn := hrt.elem encN_len i hlt
    have hbel := fun w => hbl ▸ refBelow_at L[i] w
    generalize L[i] = n at hrn hbel hs hw' hbl hlo hP' hI'
    have hkids : rootsFrom 0 (l ++ top) = rootsFrom 0 l ++ kidsH h.length (top, nodeF n top) := by rw [rootsFrom_append, kidsH, hlo, Nat.zero_add]
    have hkl : (kidsH h.length (top, nodeF n top)).length = top.length := rootsFrom_length _ _
    have hpar := parH_snoc h (top, nodeF n top)
    have hkb : ∀ k ∈ kidsH h.length (top, nodeF n top), k < i := fun k hk => by
      rw [kidsH, hlo] at hk
      have := (roots_lt htp hk).2
      omega
    have hset := fun (o : List Int) (j : Nat) (hj : j < (kidsH h.length (top, nodeF n top)).length) (v : Int) => setAll_succ o (kidsH h.length (top, nodeF n top)) j hj v
    generalize kidsH h.length (top, nodeF n top) = K at hkids hkl hpar hkb hset
    subst hst
    have hll : (l ++ top).length = l.length + top.length := List.length_append
    have hrl : (rootsFrom 0 l).length = l.length := rootsFrom_length _ _
    have hsmall : l.length + top.length ≤ 256 := by
      have h1 := len_le_flat hlp
      have h2 := len_le_flat htp
      omega
    rw [hll]
    repeat' (first
      | ((with_reducible apply wl_append); exact rfl; exact rfl; exact rfl; (repeat first | exact .hd | apply Sel.tl | apply In.tl); (intro w hm; exact hm.cells_own (by (repeat first | exact .hd | apply Sel.tl | apply In.tl))); exact rfl; (simp [Value.oneCell', sl]); omega; (simp only [maxLen]; omega); (intro A' cap' hA'))
      | ((with_reducible apply wl_callp); exact rfl; exact rfl; (intro w hm; exact hbel w))
      | ((with_reducible apply wl_v); exact rfl; (first | ((with_reducible apply vop_ok); exact rfl) | ((with_reducible apply v_len); exact rfl) | ((with_reducible apply v_lens); exact rfl) | ((with_reducible apply v_load_box); exact rfl; (repeat first | exact .hd | apply Sel.tl | apply In.tl); exact rfl) | ((with_reducible apply v_loadw_box); exact rfl; (repeat first | exact .hd | apply Sel.tl | apply In.tl); exact rfl) | ((with_reducible apply v_loadn_box); exact rfl; (repeat first | exact .hd | apply Sel.tl | apply In.tl); exact rfl; exact rfl)))
      | ((with_reducible apply wl_storen_box); exact rfl; exact rfl; (repeat first | exact .hd | apply Sel.tl | apply In.tl); exact rfl; exact rfl; exact rfl)
      | ((with_reducible apply wl_putn_box); exact rfl; exact rfl; (repeat first | exact .hd | apply Sel.tl | apply In.tl); exact rfl; exact rfl; exact rfl; exact rfl)
      | ((with_reducible apply wl_buildSlice); exact rfl; exact rfl; exact rfl; exact rfl; exact rfl; exact rfl; exact rfl; intro _)
      | (with_reducible first | apply wl_nil | apply thn_n | apply w_seq | apply w_region | apply w_ret | apply w_skip | apply w_exit | apply w_block | apply thn_r | apply thn_e | apply blk_n | apply blk_r | apply blk_e)
      | ((with_reducible apply w_cond_true); exact rfl)
      | ((with_reducible apply w_cond_false); exact rfl)
      | ((with_reducible apply w_cond) <;> first | exact rfl | (intro hb; (replace hb := Tidy.out hb; try (exfalso; omega))))
      | ((with_reducible apply blk_x); exact rfl)
      | ((with_reducible apply wl_v); exact rfl; (with_reducible apply v_succN); exact rfl; exact rfl; (simp only [maxLen] at *; omega))
      | ((with_reducible apply wl_v); exact rfl; (with_reducible apply v_1addN); exact rfl; exact rfl; (simp only [maxLen] at *; omega))
      | ((with_reducible apply wl_v); exact rfl; (with_reducible apply v_addN); exact rfl; exact rfl; (simp only [maxLen] at *; omega))
      | ((with_reducible apply wl_v); exact rfl; (with_reducible apply v_predN); exact rfl; exact rfl; omega; (simp only [maxLen] at *; omega))
      | ((with_reducible apply wl_v); exact rfl; (with_reducible apply v_subN); exact rfl; exact rfl; omega; (simp only [maxLen] at *; omega))
      | ((with_reducible apply wl_v); exact rfl; (with_reducible apply v_indexAddr); exact rfl; exact rfl; (first | assumption | omega))
      | ((with_reducible apply wl_v); exact rfl; (with_reducible apply v_loadw_ro); exact rfl; assumption; exact rfl)
      | ((with_reducible apply wl_v); exact rfl; (with_reducible apply v_load1_ro); exact rfl; assumption)
      | ((with_reducible apply wl_v); exact rfl; (with_reducible apply v_loadf_ro); exact rfl; assumption; exact rfl))
    rw [Nat.add_sub_cancel]
    have e0 : intsI (parH h) ++ [.int .i64 (-1)] = intsI (setAll (parH h ++ [-1]) (K.take 0) (i : Int)) := by simp [intsI, setAll]
    rw [e0]
    refine w_loopK [0, 3, 4, 5, 6] rfl (fun j : Nat => [(7, .int .i64 ((l.length + j : Nat) : Int))]) (fun j => [.own A' 3 1 (i + 1) cap' (intsI (setAll (parH h ++ [-1]) (K.take j) (i : Int))), .own A2 3 1 (l.length + top.length) c2 (intsV (rootsFrom 0 (l ++ top)))])
      (fun j => j ≤ top.length) (fun j => top.length - j) 0 (Nat.zero_le _) (by (repeat (first | exact Sub.nil _ | refine Sub.cons rfl ?_))) (by (repeat (first | exact MSub.nil _ | refine MSub.pick (by (repeat first | exact .hd | apply Sel.tl | apply In.tl)) ?_ | exact MSub.refl _ | refine MSub.drop .hd ?_))) ?_
    rintro j hj
    by_cases hjk : j < top.length
    · refine w_some (.tl .hd) (by omega) fun g2 hA2 => ?_
      refine w_some .hd (by omega) fun g1 hA1 => ?_
      subst hA2 hA1
      have hKj := List.getElem?_eq_getElem (show j < K.length by omega)
      have hkj := hkb _ (List.getElem_mem (show j < K.length by omega))
      have hs1 := hset (parH h ++ [-1]) j (by omega) (i : Int)
      generalize K[j] = kj at hKj hkj hs1
      have hrt2 : (intsV (rootsFrom 0 (l ++ top)))[0 + (l.length + j) * 1]? = some (.int .i64 (kj : Int)) := by
        rw [hkids, Nat.zero_add, Nat.mul_one, intsV, List.getElem?_map, List.getElem?_append_right (by omega), show l.length + j - (rootsFrom 0 l).length = j by omega, hKj]
        rfl
      have hsl : (setAll (parH h ++ [-1]) (K.take j) (i : Int)).length = i + 1 := by rw [setAll_length]; simp [hP.len, hhl]
      have hcell : (intsI (setAll (parH h ++ [-1]) (K.take j) (i : Int))).set (0 + kj * 1) (.int .i64 (i : Int)) = intsI (setAll (parH h ++ [-1]) (K.take (j + 1)) (i : Int)) := by
        rw [Nat.zero_add, Nat.mul_one, intsI_set, hs1]
      repeat' (first
        | ((with_reducible apply wl_v); exact rfl; (with_reducible apply v_load_own); exact rfl; (repeat first | exact .hd | apply Sel.tl | apply In.tl); exact hrt2)
        | ((with_reducible apply wl_store_own); exact rfl; exact rfl; (repeat first | exact .hd | apply Sel.tl | apply In.tl); exact rfl; (rw [intsI_length]; omega); rw [hcell])
        | ((with_reducible apply wl_v); exact rfl; (first | ((with_reducible apply vop_ok); exact rfl) | ((with_reducible apply v_len); exact rfl) | ((with_reducible apply v_lens); exact rfl) | ((with_reducible apply v_load_box); exact rfl; (repeat first | exact .hd | apply Sel.tl | apply In.tl); exact rfl) | ((with_reducible apply v_loadw_box); exact rfl; (repeat first | exact .hd | apply Sel.tl | apply In.tl); exact rfl) | ((with_reducible apply v_loadn_box); exact rfl; (repeat first | exact .hd | apply Sel.tl | apply In.tl); exact rfl; exact rfl)))
        | ((with_reducible apply wl_storen_box); exact rfl; exact rfl; (repeat first | exact .hd | apply Sel.tl | apply In.tl); exact rfl; exact rfl; exact rfl)
        | ((with_reducible apply wl_putn_box); exact rfl; exact rfl; (repeat first | exact .hd | apply Sel.tl | apply In.tl); exact rfl; exact rfl; exact rfl; exact rfl)
        | ((with_reducible apply wl_buildSlice); exact rfl; exact rfl; exact rfl; exact rfl; exact rfl; exact rfl; exact rfl; intro _)
        | (with_reducible first | apply wl_nil | apply thn_n | apply w_seq | apply w_region | apply w_ret | apply w_skip | apply w_exit | apply w_block | apply thn_r | apply thn_e | apply blk_n | apply blk_r | apply blk_e)
        | ((with_reducible apply w_cond_true); exact rfl)
        | ((with_reducible apply w_cond_false); exact rfl)
        | ((with_reducible apply w_cond) <;> first | exact rfl | (intro hb; (replace hb := Tidy.out hb; try (exfalso; omega))))
        | ((with_reducible apply blk_x); exact rfl)
        | ((with_reducible apply wl_v); exact rfl; (with_reducible apply v_succN); exact rfl; exact rfl; (simp only [maxLen] at *; omega))
        | ((with_reducible apply wl_v); exact rfl; (with_reducible apply v_1addN); exact rfl; exact rfl; (simp only [maxLen] at *; omega))
        | ((with_reducible apply wl_v); exact rfl; (with_reducible apply v_addN); exact rfl; exact rfl; (simp only [maxLen] at *; omega))
        | ((with_reducible apply wl_v); exact rfl; (with_reducible apply v_predN); exact rfl; exact rfl; omega; (simp only [maxLen] at *; omega))
        | ((with_reducible apply wl_v); exact rfl; (with_reducible apply v_subN); exact rfl; exact rfl; omega; (simp only [maxLen] at *; omega))
        | ((with_reducible apply wl_v); exact rfl; (with_reducible apply v_indexAddr); exact rfl; exact rfl; (first | assumption | omega))
        | ((with_reducible apply wl_v); exact rfl; (with_reducible apply v_loadw_ro); exact rfl; assumption; exact rfl)
        | ((with_reducible apply wl_v); exact rfl; (with_reducible apply v_load1_ro); exact rfl; assumption)
        | ((with_reducible apply wl_v); exact rfl; (with_reducible apply v_loadf_ro); exact rfl; assumption; exact rfl))
      refine ⟨j + 1, ?_, (by first | omega | (dsimp only; omega)), (by (repeat (first | exact Sub.nil _ | refine Sub.cons rfl ?_))), (by (repeat (first | exact Sub.nil _ | refine Sub.cons rfl ?_))), (by (repeat (first | exact MSub.nil _ | refine MSub.pick (by (repeat first | exact .hd | apply Sel.tl | apply In.tl)) ?_ | exact MSub.refl _ | refine MSub.drop .hd ?_)))⟩
      exact hjk
    · have e : j = top.length := by omega
      subst e
      rw [List.take_of_length_le (by omega)]
      have htake : (intsV (rootsFrom 0 (l ++ top))).take (l.length * 1) = intsV (rootsFrom 0 l) := by
        rw [hkids, Nat.mul_one, intsV, ← List.map_take, List.take_left' hrl]; rfl
      have hl1 : (intsV (rootsFrom 0 l)).length = l.length * 1 := by rw [intsV_length, hrl, Nat.mul_one]
      refine w_row (A := A2) (.tl .hd) fun q1 q2 q3 => ?_
      repeat' (first
        | ((with_reducible apply wl_buildSlice0); exact rfl; intro gb)
        | ((with_reducible apply wl_v); exact rfl; (with_reducible apply v_sliceP (hi := l.length)); exact rfl; exact rfl; omega)
        | ((with_reducible apply wl_appendR (n' := 0) (c := 0) (A := some _) (m := l.length) (news := intsV (rootsFrom 0 l))); exact rfl; exact rfl; exact rfl; (repeat first | exact .hd | apply Sel.tl | apply In.tl); (intro w' hm; rw [← htake]; exact Reads.of_own_take (A := A2) hm (by (repeat first | exact .hd | apply Sel.tl | apply In.tl)) (Nat.le_add_right _ _)); exact hl1; exact intsV_one _; omega; (simp only [maxLen]; omega); intro A4 c4 h4)
        | ((with_reducible apply wl_append); exact rfl; exact rfl; exact rfl; (repeat first | exact .hd | apply Sel.tl | apply In.tl); (intro w hm; exact hm.cells_own (by (repeat first | exact .hd | apply Sel.tl | apply In.tl))); exact rfl; (simp [Value.oneCell', sl]); omega; (simp only [maxLen]; omega); (intro A5 c5 h5))
        | ((with_reducible apply wl_v); exact rfl; (first | ((with_reducible apply vop_ok); exact rfl) | ((with_reducible apply v_len); exact rfl) | ((with_reducible apply v_lens); exact rfl) | ((with_reducible apply v_load_box); exact rfl; (repeat first | exact .hd | apply Sel.tl | apply In.tl); exact rfl) | ((with_reducible apply v_loadw_box); exact rfl; (repeat first | exact .hd | apply Sel.tl | apply In.tl); exact rfl) | ((with_reducible apply v_loadn_box); exact rfl; (repeat first | exact .hd | apply Sel.tl | apply In.tl); exact rfl; exact rfl)))
        | ((with_reducible apply wl_storen_box); exact rfl; exact rfl; (repeat first | exact .hd | apply Sel.tl | apply In.tl); exact rfl; exact rfl; exact rfl)
        | ((with_reducible apply wl_putn_box); exact rfl; exact rfl; (repeat first | exact .hd | apply Sel.tl | apply In.tl); exact rfl; exact rfl; exact rfl; exact rfl)
        | ((with_reducible apply wl_buildSlice); exact rfl; exact rfl; exact rfl; exact rfl; exact rfl; exact rfl; exact rfl; intro _)
        | (with_reducible first | apply wl_nil | apply thn_n | apply w_seq | apply w_region | apply w_ret | apply w_skip | apply w_exit | apply w_block | apply thn_r | apply thn_e | apply blk_n | apply blk_r | apply blk_e)
        | ((with_reducible apply w_cond_true); exact rfl)
        | ((with_reducible apply w_cond_false); exact rfl)
        | ((with_reducible apply w_cond) <;> first | exact rfl | (intro hb; (replace hb := Tidy.out hb; try (exfalso; omega))))
        | ((with_reducible apply blk_x); exact rfl)
        | ((with_reducible apply wl_v); exact rfl; (with_reducible apply v_succN); exact rfl; exact rfl; (simp only [maxLen] at *; omega))
        | ((with_reducible apply wl_v); exact rfl; (with_reducible apply v_1addN); exact rfl; exact rfl; (simp only [maxLen] at *; omega))
        | ((with_reducible apply wl_v); exact rfl; (with_reducible apply v_addN); exact rfl; exact rfl; (simp only [maxLen] at *; omega))
        | ((with_reducible apply wl_v); exact rfl; (with_reducible apply v_predN); exact rfl; exact rfl; omega; (simp only [maxLen] at *; omega))
        | ((with_reducible apply wl_v); exact rfl; (with_reducible apply v_subN); exact rfl; exact rfl; omega; (simp only [maxLen] at *; omega))
        | ((with_reducible apply wl_v); exact rfl; (with_reducible apply v_indexAddr); exact rfl; exact rfl; (first | assumption | omega))
        | ((with_reducible apply wl_v); exact rfl; (with_reducible apply v_loadw_ro); exact rfl; assumption; exact rfl)
        | ((with_reducible apply wl_v); exact rfl; (with_reducible apply v_load1_ro); exact rfl; assumption)
        | ((with_reducible apply wl_v); exact rfl; (with_reducible apply v_loadf_ro); exact rfl; assumption; exact rfl))
      have e1 : setAll (parH h ++ [-1]) K (i : Int) = parH (h ++ [(top, nodeF n top)]) := by rw [hpar, hhl]
      have e2 : [] ++ intsV (rootsFrom 0 l) ++ [.int .i64 (i : Int)] = intsV (rootsFrom 0 (l ++ [nodeF n top])) := by
        rw [rootsFrom_append]
        simp only [rootsFrom, nodeF_len, intsV, List.map_append, List.nil_append]
        congr 2
        simp
        omega
      have e3 : 0 + l.length + 1 = (l ++ [nodeF n top]).length := by simp
      rw [e1, e2, e3]
      refine ⟨(i + 1, l ++ [nodeF n top], h ++ [(top, nodeF n top)], (A', cap'), (A5, c5)), ?_, (by first | omega | (dsimp only; omega)), (by (repeat (first | exact Sub.nil _ | refine Sub.cons rfl ?_))), (by (repeat (first | exact Sub.nil _ | refine Sub.cons rfl ?_))), (by (repeat (first | exact MSub.nil _ | refine MSub.pick (by (repeat first | exact .hd | apply Sel.tl | apply In.tl)) ?_ | exact MSub.refl _ | refine MSub.drop .hd ?_)))⟩
      exact ⟨hlt, hI', hP', hw'⟩
  · have e : i = L.length := by omega
    subst e
    rw [List.drop_length, walkF] at hw
    simp only [Prod.mk.injEq] at hw
    obtain ⟨_, _, rfl⟩ := hw
    repeat' (first
      | ((with_reducible apply wl_v); exact rfl; (first | ((with_reducible apply vop_ok); exact rfl) | ((with_reducible apply v_len); exact rfl) | ((with_reducible apply v_lens); exact rfl) | ((with_reducible apply v_load_box); exact rfl; (repeat first | exact .hd | apply Sel.tl | apply In.tl); exact rfl) | ((with_reducible apply v_loadw_box); exact rfl; (repeat first | exact .hd | apply Sel.tl | apply In.tl); exact rfl) | ((with_reducible apply v_loadn_box); exact rfl; (repeat first | exact .hd | apply Sel.tl | apply In.tl); exact rfl; exact rfl)))
      | ((with_reducible apply wl_storen_box); exact rfl; exact rfl; (repeat first | exact .hd | apply Sel.tl | apply In.tl); exact rfl; exact rfl; exact rfl)
      | ((with_reducible apply wl_putn_box); exact rfl; exact rfl; (repeat first | exact .hd | apply Sel.tl | apply In.tl); exact rfl; exact rfl; exact rfl; exact rfl)
      | ((with_reducible apply wl_buildSlice); exact rfl; exact rfl; exact rfl; exact rfl; exact rfl; exact rfl; exact rfl; intro _)
      | (with_reducible first | apply wl_nil | apply thn_n | apply w_seq | apply w_region | apply w_ret | apply w_skip | apply w_exit | apply w_block | apply thn_r | apply thn_e | apply blk_n | apply blk_r | apply blk_e)
      | ((with_reducible apply w_cond_true); exact rfl)
      | ((with_reducible apply w_cond_false); exact rfl)
      | ((with_reducible apply w_cond) <;> first | exact rfl | (intro hb; (replace hb := Tidy.out hb; try (exfalso; omega))))
      | ((with_reducible apply blk_x); exact rfl))
    exact ret1 (.inl rfl) Try.results59 rfl (H' := [.own A1 3 1 L.length c1 (intsI (parH h))]) (by (repeat (first | exact MSub.nil _ | refine MSub.pick (by (repeat first | exact .hd | apply Sel.tl | apply In.tl)) ?_ | exact MSub.refl _ | refine MSub.drop .hd ?_))) ⟨A1, c1, rfl, rfl⟩
end Go.SL

/-
  What the document's Under, Kids and Sub return.
-/
namespace Go.SL
open Go Go.Proofs
attribute [local irreducible] W WL WQ WG WA VOp thn blk cutP retP FnAt FnIn

theorem Ro.intsI {w : World} {g o : Nat} {l : List Int} (h : Ro w g o (intsI l)) (i : Nat) {u : Int} (hi : l[i]? = some u) : Ro w g (o + i * 1) [Value.int .i64 u] := h.cellV i (intsI_get hi)

def underTo (P : List Int) (i k : Nat) : List Nat := (List.range k).filter fun k => decide (P[k]? = some (i : Int))
theorem underTo_succ (P : List Int) (i k : Nat) : underTo P i (k + 1) = underTo P i k ++ (if P[k]? = some (i : Int) then [k] else []) := by
  unfold underTo
  rw [List.range_succ, List.filter_append]
  congr 1
  by_cases h : P[k]? = some (i : Int) <;> simp [h]
theorem underTo_le (P : List Int) (i k : Nat) : (underTo P i k).length ≤ k := by
  have := List.length_filter_le (fun k => decide (P[k]? = some (i : Int))) (List.range k)
  simpa [underTo] using this

set_option maxRecDepth 20000 in
theorem Under_at (P : List Int) (i : Nat) (hi : i ≤ P.length) (hs : P.length ≤ 1000) (pv : Value) (w : World) (hp : Reads w pv P.length (intsI P)) :
    FnAt Try.prog 58 [pv, .int .i64 (i : Int)] w fun v H => ∃ A cap, v = sl A (underL P i).length cap ∧ H = [.own A 3 1 (underL P i).length cap (intsV (underL P i))] := by
  have hp' := hp
  obtain ⟨Ap, cp, rfl, hp1, hp2, hp3⟩ := hp
  refine fn_at Try.func58 rfl Try.ntmps58 rfl ?_
  refine w_nilrow 3 1 ?_
  repeat' (first
    | ((with_reducible apply wl_v); exact rfl; (first | ((with_reducible apply vop_ok); exact rfl) | ((with_reducible apply v_load_box); exact rfl; (repeat first | exact .hd | apply Sel.tl | apply In.tl); exact rfl) | ((with_reducible apply v_eqlb); exact rfl; exact rfl) | ((with_reducible apply v_neqb); exact rfl; exact rfl) | ((with_reducible apply v_loadw_box); exact rfl; (repeat first | exact .hd | apply Sel.tl | apply In.tl); exact rfl) | ((with_reducible apply v_loadn_box); exact rfl; (repeat first | exact .hd | apply Sel.tl | apply In.tl); exact rfl; exact rfl)))
    | ((with_reducible apply wl_buildSlice); exact rfl; exact rfl; exact rfl; exact rfl; exact rfl; exact rfl; exact rfl; intro _)
    | (with_reducible first | apply wl_nil | apply thn_n | apply w_seq | apply w_region | apply w_ret | apply w_skip | apply w_exit | apply w_block | apply thn_r | apply thn_e | apply blk_n | apply blk_r | apply blk_e)
    | ((with_reducible apply w_cond_true); exact rfl)
    | ((with_reducible apply w_cond_false); exact rfl)
    | ((with_reducible apply w_cond) <;> first | exact rfl | (intro hb; (replace hb := Tidy.out hb; try (exfalso; omega))))
    | ((with_reducible apply blk_x); exact rfl))
  refine w_loopK [0, 1] rfl (fun x : Nat × Option Nat × Nat => [(5, sl x.2.1 (underTo P i x.1).length x.2.2), (6, .int .i64 (x.1 : Int))])
    (fun x => [.own x.2.1 3 1 (underTo P i x.1).length x.2.2 (intsV (underTo P i x.1))]) (fun x => x.1 ≤ i) (fun x => i - x.1) (0, none, 0) (Nat.zero_le _) (by (repeat (first | exact Sub.nil _ | refine Sub.cons rfl ?_))) (by (repeat (first | exact MSub.nil _ | refine MSub.pick (by (repeat first | exact .hd | apply Sel.tl | apply In.tl)) ?_ | exact MSub.refl _ | refine MSub.drop .hd ?_))) ?_
  rintro ⟨k, A, cap⟩ hk
  dsimp only at hk ⊢
  by_cases hlt : k < i
  · obtain ⟨gp, op, rfl, hrp⟩ := hp3 (by omega)
    have hu := List.getElem?_eq_getElem (show k < P.length by omega)
    have hr1 := hrp.intsI k hu
    have hsucc := underTo_succ P i k
    have hfl := underTo_le P i k
    rw [hu] at hsucc
    generalize P[k] = u at hr1 hsucc hu
    repeat' (first
      | ((with_reducible apply wl_append); exact rfl; exact rfl; exact rfl; (repeat first | exact .hd | apply Sel.tl | apply In.tl); (intro w hm; exact hm.cells_own (by (repeat first | exact .hd | apply Sel.tl | apply In.tl))); exact rfl; (simp [Value.oneCell', sl]); omega; (simp only [maxLen]; omega); (intro A4 c4 h4))
      | ((with_reducible apply wl_v); exact rfl; (first | ((with_reducible apply vop_ok); exact rfl) | ((with_reducible apply v_load_box); exact rfl; (repeat first | exact .hd | apply Sel.tl | apply In.tl); exact rfl) | ((with_reducible apply v_eqlb); exact rfl; exact rfl) | ((with_reducible apply v_neqb); exact rfl; exact rfl) | ((with_reducible apply v_loadw_box); exact rfl; (repeat first | exact .hd | apply Sel.tl | apply In.tl); exact rfl) | ((with_reducible apply v_loadn_box); exact rfl; (repeat first | exact .hd | apply Sel.tl | apply In.tl); exact rfl; exact rfl)))
      | ((with_reducible apply wl_buildSlice); exact rfl; exact rfl; exact rfl; exact rfl; exact rfl; exact rfl; exact rfl; intro _)
      | (with_reducible first | apply wl_nil | apply thn_n | apply w_seq | apply w_region | apply w_ret | apply w_skip | apply w_exit | apply w_block | apply thn_r | apply thn_e | apply blk_n | apply blk_r | apply blk_e)
      | ((with_reducible apply w_cond_true); exact rfl)
      | ((with_reducible apply w_cond_false); exact rfl)
      | ((with_reducible apply w_cond) <;> first | exact rfl | (intro hb; (replace hb := Tidy.out hb; try (exfalso; omega))))
      | ((with_reducible apply blk_x); exact rfl)
      | ((with_reducible apply wl_v); exact rfl; (with_reducible apply v_succN); exact rfl; exact rfl; (simp only [maxLen] at *; omega))
      | ((with_reducible apply wl_v); exact rfl; (with_reducible apply v_1addN); exact rfl; exact rfl; (simp only [maxLen] at *; omega))
      | ((with_reducible apply wl_v); exact rfl; (with_reducible apply v_addN); exact rfl; exact rfl; (simp only [maxLen] at *; omega))
      | ((with_reducible apply wl_v); exact rfl; (with_reducible apply v_indexAddr); exact rfl; exact rfl; (first | assumption | omega))
      | ((with_reducible apply wl_v); exact rfl; (with_reducible apply v_loadw_ro); exact rfl; assumption; exact rfl)
      | ((with_reducible apply wl_v); exact rfl; (with_reducible apply v_load1_ro); exact rfl; assumption)
      | ((with_reducible apply wl_v); exact rfl; (with_reducible apply v_loadf_ro); exact rfl; assumption; exact rfl))
    · rw [if_pos (by rw [hb])] at hsucc
      have e2 : intsV (underTo P i k) ++ [.int .i64 (k : Int)] = intsV (underTo P i (k + 1)) := by rw [hsucc]; simp [intsV]
      have e3 : (underTo P i k).length + 1 = (underTo P i (k + 1)).length := by rw [hsucc]; simp
      rw [e2, e3]
      refine ⟨(k + 1, A4, c4), ?_, (by first | omega | (dsimp only; omega)), (by (repeat (first | exact Sub.nil _ | refine Sub.cons rfl ?_))), (by (repeat (first | exact Sub.nil _ | refine Sub.cons rfl ?_))), (by (repeat (first | exact MSub.nil _ | refine MSub.pick (by (repeat first | exact .hd | apply Sel.tl | apply In.tl)) ?_ | exact MSub.refl _ | refine MSub.drop .hd ?_)))⟩
      exact hlt
    · rw [if_neg (by simp; omega), List.append_nil] at hsucc
      rw [← hsucc]
      refine ⟨(k + 1, A, cap), ?_, (by first | omega | (dsimp only; omega)), (by (repeat (first | exact Sub.nil _ | refine Sub.cons rfl ?_))), (by (repeat (first | exact Sub.nil _ | refine Sub.cons rfl ?_))), (by (repeat (first | exact MSub.nil _ | refine MSub.pick (by (repeat first | exact .hd | apply Sel.tl | apply In.tl)) ?_ | exact MSub.refl _ | refine MSub.drop .hd ?_)))⟩
      exact hlt
  · have e : k = i := by omega
    subst e
    repeat' (first
      | ((with_reducible apply wl_v); exact rfl; (first | ((with_reducible apply vop_ok); exact rfl) | ((with_reducible apply v_load_box); exact rfl; (repeat first | exact .hd | apply Sel.tl | apply In.tl); exact rfl) | ((with_reducible apply v_eqlb); exact rfl; exact rfl) | ((with_reducible apply v_neqb); exact rfl; exact rfl) | ((with_reducible apply v_loadw_box); exact rfl; (repeat first | exact .hd | apply Sel.tl | apply In.tl); exact rfl) | ((with_reducible apply v_loadn_box); exact rfl; (repeat first | exact .hd | apply Sel.tl | apply In.tl); exact rfl; exact rfl)))
      | ((with_reducible apply wl_buildSlice); exact rfl; exact rfl; exact rfl; exact rfl; exact rfl; exact rfl; exact rfl; intro _)
      | (with_reducible first | apply wl_nil | apply thn_n | apply w_seq | apply w_region | apply w_ret | apply w_skip | apply w_exit | apply w_block | apply thn_r | apply thn_e | apply blk_n | apply blk_r | apply blk_e)
      | ((with_reducible apply w_cond_true); exact rfl)
      | ((with_reducible apply w_cond_false); exact rfl)
      | ((with_reducible apply w_cond) <;> first | exact rfl | (intro hb; (replace hb := Tidy.out hb; try (exfalso; omega))))
      | ((with_reducible apply blk_x); exact rfl))
    exact ret1 (.inl rfl) Try.results58 rfl (H' := [.own A 3 1 (underL P k).length cap (intsV (underL P k))]) (by (repeat (first | exact MSub.nil _ | refine MSub.pick (by (repeat first | exact .hd | apply Sel.tl | apply In.tl)) ?_ | exact MSub.refl _ | refine MSub.drop .hd ?_))) ⟨A, cap, rfl, rfl⟩

set_option maxRecDepth 20000 in
theorem refKids_at (L : List Nd) (hwf : ∀ n ∈ L, wfN n) (i : Int) (tv : Value) (w : World) (ht : Reads w tv L.length (L.flatMap encN)) :
    FnAt Try.prog 21 [tv, .int .i64 i] w fun v H => ∃ A cap, v = .tuple #[sl A (kidsE L i).1.length cap, .int .i64 (kidsE L i).2] ∧ H = [.own A 3 1 (kidsE L i).1.length cap (intsV (kidsE L i).1)] := by
  have ht' := ht
  obtain ⟨At, ct, rfl, ht1, ht2, ht3⟩ := ht
  refine fn_at Try.func21 rfl Try.ntmps21 rfl ?_
  refine w_nilrow 3 1 ?_
  generalize hK : kidsE L i = K
  have hck := fun (w' : World) (H : List Blk) (hm : Mem w w' H) => refCheck_at L hwf _ w' (ht'.of_w0 hm)
  by_cases hc : checkE L = 0
  · obtain ⟨hlen, S, Hi, hW, hk3, hct⟩ := check_whole hc
    rw [hc] at hck
    by_cases hr : 0 ≤ i ∧ i < (L.length : Int)
    · obtain ⟨j, rfl⟩ := Int.eq_ofNat_of_zero_le hr.1
      have hj : j < L.length := by omega
      obtain ⟨x, hx⟩ : ∃ x, Hi[j]? = some x := ⟨_, List.getElem?_eq_getElem (by rw [hW.inv.len]; exact hj)⟩
      rw [kidsE_whole hc hct hx hj] at hK
      subst hK
      have hpl : (parH Hi).length = L.length := by rw [hW.parOk.len, hW.inv.len]
      have hun := fun (pv : Value) (w' : World) (hr : Reads w' pv (parH Hi).length (intsI (parH Hi))) => Under_at (parH Hi) j (by omega) (by omega) pv w' hr
      rw [under_eq hW hx, hpl] at hun
      repeat' (first
        | ((with_reducible apply wl_callp); exact rfl; exact rfl; (intro w' hm; exact hck w' _ hm))
        | ((with_reducible apply wl_call (f := 59)); exact rfl; exact rfl; (intro w' hm; exact Parents_at L hlen S Hi hW _ w' (ht'.of_w0 hm)); (rintro v H' ⟨A1, c1, rfl, rfl⟩))
        | ((with_reducible apply wl_call (f := 58)); exact rfl; exact rfl; (intro w' hm; exact hun _ w' (Reads.of_own (A := A1) hm (by (repeat first | exact .hd | apply Sel.tl | apply In.tl)))); (rintro v H' ⟨A2, c2, rfl, rfl⟩))
        | ((with_reducible apply wl_v); exact rfl; (first | ((with_reducible apply vop_ok); exact rfl) | ((with_reducible apply v_len); exact rfl) | ((with_reducible apply v_lens); exact rfl) | ((with_reducible apply v_eqlb); exact rfl; exact rfl) | ((with_reducible apply v_neqb); exact rfl; exact rfl)))
        | ((with_reducible apply wl_gyes); exact rfl; exact rfl)
        | ((with_reducible apply wl_gno_b); exact rfl; exact rfl; exact rfl; exact rfl)
        | ((with_reducible apply wl_gno_u); exact rfl; exact rfl; exact rfl)
        | ((with_reducible apply wl_gsplit) <;> first | exact rfl | (intro hb; (replace hb := Tidy.out hb; try (exfalso; omega))))
        | (with_reducible first | apply wl_nil | apply thn_n | apply w_seq | apply w_region | apply w_ret | apply w_skip | apply w_exit | apply w_block | apply thn_r | apply thn_e | apply blk_n | apply blk_r | apply blk_e)
        | ((with_reducible apply w_cond_true); exact rfl)
        | ((with_reducible apply w_cond_false); exact rfl)
        | ((with_reducible apply w_cond) <;> first | exact rfl | (intro hb; (replace hb := Tidy.out hb; try (exfalso; omega))))
        | ((with_reducible apply blk_x); exact rfl))
      exact ret2 (.inl rfl) Try.results21 rfl rfl (H' := [.own A2 3 1 (kidsH j x).length c2 (intsV (kidsH j x))]) (by (repeat (first | exact MSub.nil _ | refine MSub.pick (by (repeat first | exact .hd | apply Sel.tl | apply In.tl)) ?_ | exact MSub.refl _ | refine MSub.drop .hd ?_))) ⟨A2, c2, rfl, rfl⟩
    · have hK' : K = ([], 3) := by
        rw [← hK]; unfold kidsE
        rw [if_neg (by omega), if_pos (by omega)]
      subst hK'
      repeat' (first
        | ((with_reducible apply wl_callp); exact rfl; exact rfl; (intro w' hm; exact hck w' _ hm))
        | ((with_reducible apply wl_v); exact rfl; (first | ((with_reducible apply vop_ok); exact rfl) | ((with_reducible apply v_len); exact rfl) | ((with_reducible apply v_lens); exact rfl) | ((with_reducible apply v_eqlb); exact rfl; exact rfl) | ((with_reducible apply v_neqb); exact rfl; exact rfl)))
        | ((with_reducible apply wl_gyes); exact rfl; exact rfl)
        | ((with_reducible apply wl_gno_b); exact rfl; exact rfl; exact rfl; exact rfl)
        | ((with_reducible apply wl_gno_u); exact rfl; exact rfl; exact rfl)
        | ((with_reducible apply wl_gsplit) <;> first | exact rfl | (intro hb; (replace hb := Tidy.out hb; try (exfalso; omega))))
        | (with_reducible first | apply wl_nil | apply thn_n | apply w_seq | apply w_region | apply w_ret | apply w_skip | apply w_exit | apply w_block | apply thn_r | apply thn_e | apply blk_n | apply blk_r | apply blk_e)
        | ((with_reducible apply w_cond_true); exact rfl)
        | ((with_reducible apply w_cond_false); exact rfl)
        | ((with_reducible apply w_cond) <;> first | exact rfl | (intro hb; (replace hb := Tidy.out hb; try (exfalso; omega))))
        | ((with_reducible apply blk_x); exact rfl))
      all_goals exact ret2 (.inl rfl) Try.results21 rfl rfl (H' := [.own none 3 1 0 0 []]) (by (repeat (first | exact MSub.nil _ | refine MSub.pick (by (repeat first | exact .hd | apply Sel.tl | apply In.tl)) ?_ | exact MSub.refl _ | refine MSub.drop .hd ?_))) ⟨none, 0, rfl, rfl⟩
  · have hK' : K = ([], checkE L) := by
      rw [← hK]; unfold kidsE
      rw [if_pos hc]
    subst hK'
    repeat' (first
      | ((with_reducible apply wl_callp); exact rfl; exact rfl; (intro w' hm; exact hck w' _ hm))
      | ((with_reducible apply wl_v); exact rfl; (first | ((with_reducible apply vop_ok); exact rfl) | ((with_reducible apply v_len); exact rfl) | ((with_reducible apply v_lens); exact rfl) | ((with_reducible apply v_eqlb); exact rfl; exact rfl) | ((with_reducible apply v_neqb); exact rfl; exact rfl)))
      | ((with_reducible apply wl_gyes); exact rfl; exact rfl)
      | ((with_reducible apply wl_gno_b); exact rfl; exact rfl; exact rfl; exact rfl)
      | ((with_reducible apply wl_gno_u); exact rfl; exact rfl; exact rfl)
      | ((with_reducible apply wl_gsplit) <;> first | exact rfl | (intro hb; (replace hb := Tidy.out hb; try (exfalso; omega))))
      | (with_reducible first | apply wl_nil | apply thn_n | apply w_seq | apply w_region | apply w_ret | apply w_skip | apply w_exit | apply w_block | apply thn_r | apply thn_e | apply blk_n | apply blk_r | apply blk_e)
      | ((with_reducible apply w_cond_true); exact rfl)
      | ((with_reducible apply w_cond_false); exact rfl)
      | ((with_reducible apply w_cond) <;> first | exact rfl | (intro hb; (replace hb := Tidy.out hb; try (exfalso; omega))))
      | ((with_reducible apply blk_x); exact rfl))
    exact ret2 (.inl rfl) Try.results21 rfl rfl (H' := [.own none 3 1 0 0 []]) (by (repeat (first | exact MSub.nil _ | refine MSub.pick (by (repeat first | exact .hd | apply Sel.tl | apply In.tl)) ?_ | exact MSub.refl _ | refine MSub.drop .hd ?_))) ⟨none, 0, rfl, rfl⟩
end Go.SL

/-
  What the document's Sub returns.
-/
namespace Go.SL
open Go Go.Proofs
attribute [local irreducible] W WL WQ WG WA VOp thn blk cutP retP FnAt FnIn

set_option maxRecDepth 20000 in
set_option maxHeartbeats 1000000 in
theorem refSub_at (L : List Nd) (hwf : ∀ n ∈ L, wfN n) (i : Int) (tv : Value) (w : World) (ht : Reads w tv L.length (L.flatMap encN)) :
    FnAt Try.prog 23 [tv, .int .i64 i] w fun v H => ∃ A cap, v = .tuple #[sl A (subE L i).1.length cap, .int .i64 (subE L i).2] ∧ H = [.own A 40 11 (subE L i).1.length cap ((subE L i).1.flatMap encN)] := by
  have ht' := ht
  obtain ⟨At, ct, rfl, ht1, ht2, ht3⟩ := ht
  refine fn_at Try.func23 rfl Try.ntmps23 rfl ?_
  refine w_nilrow 40 11 ?_
  generalize hK : subE L i = K
  have hck := fun (w' : World) (H : List Blk) (hm : Mem w w' H) => refCheck_at L hwf _ w' (ht'.of_w0 hm)
  by_cases hc : checkE L = 0
  · obtain ⟨hlen, S, Hi, hW, hk3, hct⟩ := check_whole hc
    rw [hc] at hck
    by_cases hr : 0 ≤ i ∧ i < (L.length : Int)
    · obtain ⟨j, rfl⟩ := Int.eq_ofNat_of_zero_le hr.1
      have hj : j < L.length := by omega
      obtain ⟨x, hx⟩ : ∃ x, Hi[j]? = some x := ⟨_, List.getElem?_eq_getElem (by rw [hW.inv.len]; exact hj)⟩
      rw [subE_whole hW hc hct hx] at hK
      subst hK
      obtain ⟨nd, _, e2, e3, _, e5, e6⟩ := hW.inv.node j x hx
      have hpl : (parH Hi).length = L.length := by rw [hW.parOk.len, hW.inv.len]
      have hup := fun k hk => up_within hW (k := k) hx hk
      have hlo : lo j x ≤ j := by
        have : x.2.ns.length = (flatS x.1).length + 1 := by rw [e2, nodeF_len]
        simp only [lo]; omega
      have hnl : x.2.ns.length = j + 1 - lo j x := by
        have : x.2.ns.length = (flatS x.1).length + 1 := by rw [e2, nodeF_len]
        simp only [lo]; omega
      generalize hlv : lo j x = lw at hup hlo e6 hnl
      repeat' (first
        | ((with_reducible apply wl_callp); exact rfl; exact rfl; (intro w' hm; exact hck w' _ hm))
        | ((with_reducible apply wl_call (f := 59)); exact rfl; exact rfl; (intro w' hm; exact Parents_at L hlen S Hi hW _ w' (ht'.of_w0 hm)); (rintro v H' ⟨A1, c1, rfl, rfl⟩))
        | ((with_reducible apply wl_v); exact rfl; (with_reducible apply v_sub); exact rfl; exact rfl; exact ⟨by omega, by omega⟩)
        | ((with_reducible apply wl_v); exact rfl; (first | ((with_reducible apply vop_ok); exact rfl) | ((with_reducible apply v_len); exact rfl) | ((with_reducible apply v_lens); exact rfl) | ((with_reducible apply v_load_box); exact rfl; (repeat first | exact .hd | apply Sel.tl | apply In.tl); exact rfl) | ((with_reducible apply v_eqlb); exact rfl; exact rfl) | ((with_reducible apply v_neqb); exact rfl; exact rfl) | ((with_reducible apply v_loadw_box); exact rfl; (repeat first | exact .hd | apply Sel.tl | apply In.tl); exact rfl) | ((with_reducible apply v_loadn_box); exact rfl; (repeat first | exact .hd | apply Sel.tl | apply In.tl); exact rfl; exact rfl)))
        | ((with_reducible apply wl_gyes); exact rfl; exact rfl)
        | ((with_reducible apply wl_gno_b); exact rfl; exact rfl; exact rfl; exact rfl)
        | ((with_reducible apply wl_gno_u); exact rfl; exact rfl; exact rfl)
        | ((with_reducible apply wl_buildSlice); exact rfl; exact rfl; exact rfl; exact rfl; exact rfl; exact rfl; exact rfl; intro _)
        | ((with_reducible apply wl_gsplit) <;> first | exact rfl | (intro hb; (replace hb := Tidy.out hb; try (exfalso; omega))))
        | (with_reducible first | apply wl_nil | apply thn_n | apply w_seq | apply w_region | apply w_ret | apply w_skip | apply w_exit | apply w_block | apply thn_r | apply thn_e | apply blk_n | apply blk_r | apply blk_e)
        | ((with_reducible apply w_cond_true); exact rfl)
        | ((with_reducible apply w_cond_false); exact rfl)
        | ((with_reducible apply w_cond) <;> first | exact rfl | (intro hb; (replace hb := Tidy.out hb; try (exfalso; omega))))
        | ((with_reducible apply blk_x); exact rfl)
        | ((with_reducible apply wl_v); exact rfl; (with_reducible apply v_succN); exact rfl; exact rfl; (simp only [maxLen] at *; omega))
        | ((with_reducible apply wl_v); exact rfl; (with_reducible apply v_1addN); exact rfl; exact rfl; (simp only [maxLen] at *; omega))
        | ((with_reducible apply wl_v); exact rfl; (with_reducible apply v_addN); exact rfl; exact rfl; (simp only [maxLen] at *; omega))
        | ((with_reducible apply wl_v); exact rfl; (with_reducible apply v_predN); exact rfl; exact rfl; omega; (simp only [maxLen] at *; omega))
        | ((with_reducible apply wl_v); exact rfl; (with_reducible apply v_subN); exact rfl; exact rfl; omega; (simp only [maxLen] at *; omega)))
      refine w_loopK [0, 1, 7] rfl (fun m : Nat => [(8, .int .i64 ((max m lw : Nat) : Int)), (9, .int .i64 ((m : Int) - 1))]) (fun _ => [.own A1 3 1 L.length c1 (intsI (parH Hi)), .own none 40 11 0 0 []]) (fun m => m ≤ j) (fun m => m) j (Nat.le_refl _)
        (by rw [Nat.max_eq_left hlo]; (repeat (first | exact Sub.nil _ | refine Sub.cons rfl ?_))) (by (repeat (first | exact MSub.nil _ | refine MSub.pick (by (repeat first | exact .hd | apply Sel.tl | apply In.tl)) ?_ | exact MSub.refl _ | refine MSub.drop .hd ?_))) ?_
      rintro m hm
      cases m with
      | succ m =>
        obtain ⟨u, hu, hu1, hu2⟩ := hup m (by omega)
        have e0 : (((m + 1 : Nat) : Int) - 1) = (m : Int) := by omega
        rw [e0]
        refine w_some (A := A1) .hd (by omega) fun g1 hA => ?_
        subst hA
        have hcell : (intsI (parH Hi))[0 + m * 1]? = some (.int .i64 u) := by rw [Nat.zero_add, Nat.mul_one]; exact intsI_get hu
        repeat' (first
          | ((with_reducible apply wl_v); exact rfl; (with_reducible apply v_indexAddr); exact rfl; exact rfl; omega)
          | ((with_reducible apply wl_v); exact rfl; (with_reducible apply v_load_own); exact rfl; (repeat first | exact .hd | apply Sel.tl | apply In.tl); exact hcell)
          | ((with_reducible apply wl_v); exact rfl; (first | ((with_reducible apply vop_ok); exact rfl) | ((with_reducible apply v_len); exact rfl) | ((with_reducible apply v_lens); exact rfl) | ((with_reducible apply v_load_box); exact rfl; (repeat first | exact .hd | apply Sel.tl | apply In.tl); exact rfl) | ((with_reducible apply v_eqlb); exact rfl; exact rfl) | ((with_reducible apply v_neqb); exact rfl; exact rfl) | ((with_reducible apply v_loadw_box); exact rfl; (repeat first | exact .hd | apply Sel.tl | apply In.tl); exact rfl) | ((with_reducible apply v_loadn_box); exact rfl; (repeat first | exact .hd | apply Sel.tl | apply In.tl); exact rfl; exact rfl)))
          | ((with_reducible apply wl_gyes); exact rfl; exact rfl)
          | ((with_reducible apply wl_gno_b); exact rfl; exact rfl; exact rfl; exact rfl)
          | ((with_reducible apply wl_gno_u); exact rfl; exact rfl; exact rfl)
          | ((with_reducible apply wl_buildSlice); exact rfl; exact rfl; exact rfl; exact rfl; exact rfl; exact rfl; exact rfl; intro _)
          | ((with_reducible apply wl_gsplit) <;> first | exact rfl | (intro hb; (replace hb := Tidy.out hb; try (exfalso; omega))))
          | (with_reducible first | apply wl_nil | apply thn_n | apply w_seq | apply w_region | apply w_ret | apply w_skip | apply w_exit | apply w_block | apply thn_r | apply thn_e | apply blk_n | apply blk_r | apply blk_e)
          | ((with_reducible apply w_cond_true); exact rfl)
          | ((with_reducible apply w_cond_false); exact rfl)
          | ((with_reducible apply w_cond) <;> first | exact rfl | (intro hb; (replace hb := Tidy.out hb; try (exfalso; omega))))
          | ((with_reducible apply blk_x); exact rfl)
          | ((with_reducible apply wl_v); exact rfl; (with_reducible apply v_succN); exact rfl; exact rfl; (simp only [maxLen] at *; omega))
          | ((with_reducible apply wl_v); exact rfl; (with_reducible apply v_1addN); exact rfl; exact rfl; (simp only [maxLen] at *; omega))
          | ((with_reducible apply wl_v); exact rfl; (with_reducible apply v_addN); exact rfl; exact rfl; (simp only [maxLen] at *; omega))
          | ((with_reducible apply wl_v); exact rfl; (with_reducible apply v_predN); exact rfl; exact rfl; omega; (simp only [maxLen] at *; omega))
          | ((with_reducible apply wl_v); exact rfl; (with_reducible apply v_subN); exact rfl; exact rfl; omega; (simp only [maxLen] at *; omega)))
        refine w_loopK [0, 1, 7, 8, 9] rfl (fun u : Int => [(10, .int .i64 u)]) (fun _ => [.own (some g1) 3 1 L.length c1 (intsI (parH Hi)), .own none 40 11 0 0 []])
          (fun u => (u = -1 ∨ ∃ q : Nat, u = (q : Int) ∧ q < L.length) ∧ (lw ≤ m ↔ ∃ q : Nat, u = (q : Int) ∧ lw ≤ q ∧ q ≤ j)) (fun u => if u < 0 then 0 else ((L.length : Int) - u).toNat) u ⟨?_, hu2⟩ (by (repeat (first | exact Sub.nil _ | refine Sub.cons rfl ?_))) (by (repeat (first | exact MSub.nil _ | refine MSub.pick (by (repeat first | exact .hd | apply Sel.tl | apply In.tl)) ?_ | exact MSub.refl _ | refine MSub.drop .hd ?_))) ?_
        · rcases hu1 with h1 | ⟨q, h1, _, h3⟩
          · exact .inl h1
          · exact .inr ⟨q, h1, h3⟩
        rintro u ⟨hv1, hv2⟩
        by_cases hin : 0 ≤ u ∧ u < (j : Int)
        · obtain ⟨q, rfl⟩ := Int.eq_ofNat_of_zero_le hin.1
          have hqj : q < j := by omega
          obtain ⟨u2, hq1, hq2, hq3⟩ := hup q hqj
          have hcell2 : (intsI (parH Hi))[0 + q * 1]? = some (.int .i64 u2) := by rw [Nat.zero_add, Nat.mul_one]; exact intsI_get hq1
          repeat' (first
            | ((with_reducible apply wl_v); exact rfl; (with_reducible apply v_indexAddr); exact rfl; exact rfl; omega)
            | ((with_reducible apply wl_v); exact rfl; (with_reducible apply v_load_own); exact rfl; (repeat first | exact .hd | apply Sel.tl | apply In.tl); exact hcell2)
            | ((with_reducible apply wl_v); exact rfl; (first | ((with_reducible apply vop_ok); exact rfl) | ((with_reducible apply v_len); exact rfl) | ((with_reducible apply v_lens); exact rfl) | ((with_reducible apply v_load_box); exact rfl; (repeat first | exact .hd | apply Sel.tl | apply In.tl); exact rfl) | ((with_reducible apply v_eqlb); exact rfl; exact rfl) | ((with_reducible apply v_neqb); exact rfl; exact rfl) | ((with_reducible apply v_loadw_box); exact rfl; (repeat first | exact .hd | apply Sel.tl | apply In.tl); exact rfl) | ((with_reducible apply v_loadn_box); exact rfl; (repeat first | exact .hd | apply Sel.tl | apply In.tl); exact rfl; exact rfl)))
            | ((with_reducible apply wl_gyes); exact rfl; exact rfl)
            | ((with_reducible apply wl_gno_b); exact rfl; exact rfl; exact rfl; exact rfl)
            | ((with_reducible apply wl_gno_u); exact rfl; exact rfl; exact rfl)
            | ((with_reducible apply wl_buildSlice); exact rfl; exact rfl; exact rfl; exact rfl; exact rfl; exact rfl; exact rfl; intro _)
            | ((with_reducible apply wl_gsplit) <;> first | exact rfl | (intro hb; (replace hb := Tidy.out hb; try (exfalso; omega))))
            | (with_reducible first | apply wl_nil | apply thn_n | apply w_seq | apply w_region | apply w_ret | apply w_skip | apply w_exit | apply w_block | apply thn_r | apply thn_e | apply blk_n | apply blk_r | apply blk_e)
            | ((with_reducible apply w_cond_true); exact rfl)
            | ((with_reducible apply w_cond_false); exact rfl)
            | ((with_reducible apply w_cond) <;> first | exact rfl | (intro hb; (replace hb := Tidy.out hb; try (exfalso; omega))))
            | ((with_reducible apply blk_x); exact rfl)
            | ((with_reducible apply wl_v); exact rfl; (with_reducible apply v_succN); exact rfl; exact rfl; (simp only [maxLen] at *; omega))
            | ((with_reducible apply wl_v); exact rfl; (with_reducible apply v_1addN); exact rfl; exact rfl; (simp only [maxLen] at *; omega))
            | ((with_reducible apply wl_v); exact rfl; (with_reducible apply v_addN); exact rfl; exact rfl; (simp only [maxLen] at *; omega))
            | ((with_reducible apply wl_v); exact rfl; (with_reducible apply v_predN); exact rfl; exact rfl; omega; (simp only [maxLen] at *; omega))
            | ((with_reducible apply wl_v); exact rfl; (with_reducible apply v_subN); exact rfl; exact rfl; omega; (simp only [maxLen] at *; omega)))
          refine ⟨u2, ⟨?_, ?_⟩, ?_, (by (repeat (first | exact Sub.nil _ | refine Sub.cons rfl ?_))), (by (repeat (first | exact Sub.nil _ | refine Sub.cons rfl ?_))), (by (repeat (first | exact MSub.nil _ | refine MSub.pick (by (repeat first | exact .hd | apply Sel.tl | apply In.tl)) ?_ | exact MSub.refl _ | refine MSub.drop .hd ?_)))⟩
          · rcases hq2 with h1 | ⟨q', h1, _, h3⟩
            · exact .inl h1
            · exact .inr ⟨q', h1, h3⟩
          · exact hv2.trans ⟨fun ⟨a, b, c, d⟩ => hq3.1 (by omega), fun h => ⟨q, rfl, hq3.2 h, by omega⟩⟩
          · rcases hq2 with h1 | ⟨q', h1, h4, h3⟩
            · rw [if_pos (by omega), if_neg (by omega)]
              omega
            · rw [if_neg (by omega), if_neg (by omega)]
              omega
        · have hx1 : u = (j : Int) → max m lw = m := fun h => by
            have := hv2.2 ⟨j, h, hlo, Nat.le_refl _⟩
            omega
          have hx2 : ¬ u = (j : Int) → max (m + 1) lw = max m lw := fun h => by
            rcases Nat.lt_or_ge m lw with h1 | h1
            · omega
            · obtain ⟨q, h2, h3, h4⟩ := hv2.1 h1
              omega
          repeat' (first
            | ((with_reducible apply wl_v); exact rfl; (with_reducible apply v_sub); exact rfl; exact rfl; exact ⟨by omega, by omega⟩)
            | ((with_reducible apply wl_v); exact rfl; (first | ((with_reducible apply vop_ok); exact rfl) | ((with_reducible apply v_len); exact rfl) | ((with_reducible apply v_lens); exact rfl) | ((with_reducible apply v_load_box); exact rfl; (repeat first | exact .hd | apply Sel.tl | apply In.tl); exact rfl) | ((with_reducible apply v_eqlb); exact rfl; exact rfl) | ((with_reducible apply v_neqb); exact rfl; exact rfl) | ((with_reducible apply v_loadw_box); exact rfl; (repeat first | exact .hd | apply Sel.tl | apply In.tl); exact rfl) | ((with_reducible apply v_loadn_box); exact rfl; (repeat first | exact .hd | apply Sel.tl | apply In.tl); exact rfl; exact rfl)))
            | ((with_reducible apply wl_gyes); exact rfl; exact rfl)
            | ((with_reducible apply wl_gno_b); exact rfl; exact rfl; exact rfl; exact rfl)
            | ((with_reducible apply wl_gno_u); exact rfl; exact rfl; exact rfl)
            | ((with_reducible apply wl_buildSlice); exact rfl; exact rfl; exact rfl; exact rfl; exact rfl; exact rfl; exact rfl; intro _)
            | ((with_reducible apply wl_gsplit) <;> first | exact rfl | (intro hb; (replace hb := Tidy.out hb; try (exfalso; omega))))
            | (with_reducible first | apply wl_nil | apply thn_n | apply w_seq | apply w_region | apply w_ret | apply w_skip | apply w_exit | apply w_block | apply thn_r | apply thn_e | apply blk_n | apply blk_r | apply blk_e)
            | ((with_reducible apply w_cond_true); exact rfl)
            | ((with_reducible apply w_cond_false); exact rfl)
            | ((with_reducible apply w_cond) <;> first | exact rfl | (intro hb; (replace hb := Tidy.out hb; try (exfalso; omega))))
            | ((with_reducible apply blk_x); exact rfl)
            | ((with_reducible apply wl_v); exact rfl; (with_reducible apply v_succN); exact rfl; exact rfl; (simp only [maxLen] at *; omega))
            | ((with_reducible apply wl_v); exact rfl; (with_reducible apply v_1addN); exact rfl; exact rfl; (simp only [maxLen] at *; omega))
            | ((with_reducible apply wl_v); exact rfl; (with_reducible apply v_addN); exact rfl; exact rfl; (simp only [maxLen] at *; omega))
            | ((with_reducible apply wl_v); exact rfl; (with_reducible apply v_predN); exact rfl; exact rfl; omega; (simp only [maxLen] at *; omega))
            | ((with_reducible apply wl_v); exact rfl; (with_reducible apply v_subN); exact rfl; exact rfl; omega; (simp only [maxLen] at *; omega)))
          all_goals first
            | (rw [hx2 (by omega)]; exact ⟨m, by omega, by omega, (by (repeat (first | exact Sub.nil _ | refine Sub.cons rfl ?_))), (by (repeat (first | exact Sub.nil _ | refine Sub.cons rfl ?_))), (by (repeat (first | exact MSub.nil _ | refine MSub.pick (by (repeat first | exact .hd | apply Sel.tl | apply In.tl)) ?_ | exact MSub.refl _ | refine MSub.drop .hd ?_)))⟩)
            | exact ⟨m, by omega, by omega, (by rw [hx1 (by omega)]; (repeat (first | exact Sub.nil _ | refine Sub.cons rfl ?_))), (by (repeat (first | exact Sub.nil _ | refine Sub.cons rfl ?_))), (by (repeat (first | exact MSub.nil _ | refine MSub.pick (by (repeat first | exact .hd | apply Sel.tl | apply In.tl)) ?_ | exact MSub.refl _ | refine MSub.drop .hd ?_)))⟩
      | zero =>
        have hcut := ht'.cut (lo := lw) (hi := j + 1) (sz := 11) (by omega) (by omega)
        have hl2 : ((L.flatMap encN).drop (lw * 11)).take ((j + 1 - lw) * 11) = x.2.ns.flatMap encN := by
          rw [flat_drop encN_len, flat_take encN_len, ← List.drop_take, e6]
        have hl3 : (x.2.ns.flatMap encN).length = (j + 1 - lw) * 11 := by rw [flat_length' encN_len, hnl]
        rw [hl2] at hcut
        rw [Nat.zero_max]
        repeat' (first
          | ((with_reducible apply wl_buildSlice0); exact rfl; intro gb)
          | ((with_reducible apply wl_v); exact rfl; (with_reducible apply v_slice (lo := lw) (hi := j + 1)); exact rfl; exact ⟨_, rfl⟩; exact ⟨_, rfl⟩; omega; omega)
          | ((with_reducible apply wl_appendR (n' := 0) (c := 0) (A := some _) (m := j + 1 - lw) (news := x.2.ns.flatMap encN)); exact rfl; exact rfl; exact rfl; (repeat first | exact .hd | apply Sel.tl | apply In.tl); (intro w' hm; exact hcut.of_w0 hm); exact hl3; exact encNs_one _; omega; (simp only [maxLen]; omega); intro A4 c4 h4)
          | ((with_reducible apply wl_v); exact rfl; (first | ((with_reducible apply vop_ok); exact rfl) | ((with_reducible apply v_len); exact rfl) | ((with_reducible apply v_lens); exact rfl) | ((with_reducible apply v_load_box); exact rfl; (repeat first | exact .hd | apply Sel.tl | apply In.tl); exact rfl) | ((with_reducible apply v_eqlb); exact rfl; exact rfl) | ((with_reducible apply v_neqb); exact rfl; exact rfl) | ((with_reducible apply v_loadw_box); exact rfl; (repeat first | exact .hd | apply Sel.tl | apply In.tl); exact rfl) | ((with_reducible apply v_loadn_box); exact rfl; (repeat first | exact .hd | apply Sel.tl | apply In.tl); exact rfl; exact rfl)))
          | ((with_reducible apply wl_gyes); exact rfl; exact rfl)
          | ((with_reducible apply wl_gno_b); exact rfl; exact rfl; exact rfl; exact rfl)
          | ((with_reducible apply wl_gno_u); exact rfl; exact rfl; exact rfl)
          | ((with_reducible apply wl_buildSlice); exact rfl; exact rfl; exact rfl; exact rfl; exact rfl; exact rfl; exact rfl; intro _)
          | ((with_reducible apply wl_gsplit) <;> first | exact rfl | (intro hb; (replace hb := Tidy.out hb; try (exfalso; omega))))
          | (with_reducible first | apply wl_nil | apply thn_n | apply w_seq | apply w_region | apply w_ret | apply w_skip | apply w_exit | apply w_block | apply thn_r | apply thn_e | apply blk_n | apply blk_r | apply blk_e)
          | ((with_reducible apply w_cond_true); exact rfl)
          | ((with_reducible apply w_cond_false); exact rfl)
          | ((with_reducible apply w_cond) <;> first | exact rfl | (intro hb; (replace hb := Tidy.out hb; try (exfalso; omega))))
          | ((with_reducible apply blk_x); exact rfl)
          | ((with_reducible apply wl_v); exact rfl; (with_reducible apply v_succN); exact rfl; exact rfl; (simp only [maxLen] at *; omega))
          | ((with_reducible apply wl_v); exact rfl; (with_reducible apply v_1addN); exact rfl; exact rfl; (simp only [maxLen] at *; omega))
          | ((with_reducible apply wl_v); exact rfl; (with_reducible apply v_addN); exact rfl; exact rfl; (simp only [maxLen] at *; omega))
          | ((with_reducible apply wl_v); exact rfl; (with_reducible apply v_predN); exact rfl; exact rfl; omega; (simp only [maxLen] at *; omega))
          | ((with_reducible apply wl_v); exact rfl; (with_reducible apply v_subN); exact rfl; exact rfl; omega; (simp only [maxLen] at *; omega)))
        exact ret2 (.inl rfl) Try.results23 rfl rfl (H' := [.own A4 40 11 (0 + (j + 1 - lw)) c4 ([] ++ x.2.ns.flatMap encN)]) (by (repeat (first | exact MSub.nil _ | refine MSub.pick (by (repeat first | exact .hd | apply Sel.tl | apply In.tl)) ?_ | exact MSub.refl _ | refine MSub.drop .hd ?_))) ⟨A4, c4, by rw [hnl, Nat.zero_add], by rw [hnl, Nat.zero_add]; rfl⟩
    · have hK' : K = ([], 3) := by
        rw [← hK]; unfold subE
        rw [if_neg (by omega), if_pos (by omega)]
      subst hK'
      repeat' (first
        | ((with_reducible apply wl_callp); exact rfl; exact rfl; (intro w' hm; exact hck w' _ hm))
        | ((with_reducible apply wl_v); exact rfl; (first | ((with_reducible apply vop_ok); exact rfl) | ((with_reducible apply v_len); exact rfl) | ((with_reducible apply v_lens); exact rfl) | ((with_reducible apply v_load_box); exact rfl; (repeat first | exact .hd | apply Sel.tl | apply In.tl); exact rfl) | ((with_reducible apply v_eqlb); exact rfl; exact rfl) | ((with_reducible apply v_neqb); exact rfl; exact rfl) | ((with_reducible apply v_loadw_box); exact rfl; (repeat first | exact .hd | apply Sel.tl | apply In.tl); exact rfl) | ((with_reducible apply v_loadn_box); exact rfl; (repeat first | exact .hd | apply Sel.tl | apply In.tl); exact rfl; exact rfl)))
        | ((with_reducible apply wl_gyes); exact rfl; exact rfl)
        | ((with_reducible apply wl_gno_b); exact rfl; exact rfl; exact rfl; exact rfl)
        | ((with_reducible apply wl_gno_u); exact rfl; exact rfl; exact rfl)
        | ((with_reducible apply wl_buildSlice); exact rfl; exact rfl; exact rfl; exact rfl; exact rfl; exact rfl; exact rfl; intro _)
        | ((with_reducible apply wl_gsplit) <;> first | exact rfl | (intro hb; (replace hb := Tidy.out hb; try (exfalso; omega))))
        | (with_reducible first | apply wl_nil | apply thn_n | apply w_seq | apply w_region | apply w_ret | apply w_skip | apply w_exit | apply w_block | apply thn_r | apply thn_e | apply blk_n | apply blk_r | apply blk_e)
        | ((with_reducible apply w_cond_true); exact rfl)
        | ((with_reducible apply w_cond_false); exact rfl)
        | ((with_reducible apply w_cond) <;> first | exact rfl | (intro hb; (replace hb := Tidy.out hb; try (exfalso; omega))))
        | ((with_reducible apply blk_x); exact rfl))
      all_goals exact ret2 (.inl rfl) Try.results23 rfl rfl (H' := [.own none 40 11 0 0 []]) (by (repeat (first | exact MSub.nil _ | refine MSub.pick (by (repeat first | exact .hd | apply Sel.tl | apply In.tl)) ?_ | exact MSub.refl _ | refine MSub.drop .hd ?_))) ⟨none, 0, rfl, rfl⟩
  · have hK' : K = ([], checkE L) := by
      rw [← hK]; unfold subE
      rw [if_pos hc]
    subst hK'
    repeat' (first
      | ((with_reducible apply wl_callp); exact rfl; exact rfl; (intro w' hm; exact hck w' _ hm))
      | ((with_reducible apply wl_v); exact rfl; (first | ((with_reducible apply vop_ok); exact rfl) | ((with_reducible apply v_len); exact rfl) | ((with_reducible apply v_lens); exact rfl) | ((with_reducible apply v_load_box); exact rfl; (repeat first | exact .hd | apply Sel.tl | apply In.tl); exact rfl) | ((with_reducible apply v_eqlb); exact rfl; exact rfl) | ((with_reducible apply v_neqb); exact rfl; exact rfl) | ((with_reducible apply v_loadw_box); exact rfl; (repeat first | exact .hd | apply Sel.tl | apply In.tl); exact rfl) | ((with_reducible apply v_loadn_box); exact rfl; (repeat first | exact .hd | apply Sel.tl | apply In.tl); exact rfl; exact rfl)))
      | ((with_reducible apply wl_gyes); exact rfl; exact rfl)
      | ((with_reducible apply wl_gno_b); exact rfl; exact rfl; exact rfl; exact rfl)
      | ((with_reducible apply wl_gno_u); exact rfl; exact rfl; exact rfl)
      | ((with_reducible apply wl_buildSlice); exact rfl; exact rfl; exact rfl; exact rfl; exact rfl; exact rfl; exact rfl; intro _)
      | ((with_reducible apply wl_gsplit) <;> first | exact rfl | (intro hb; (replace hb := Tidy.out hb; try (exfalso; omega))))
      | (with_reducible first | apply wl_nil | apply thn_n | apply w_seq | apply w_region | apply w_ret | apply w_skip | apply w_exit | apply w_block | apply thn_r | apply thn_e | apply blk_n | apply blk_r | apply blk_e)
      | ((with_reducible apply w_cond_true); exact rfl)
      | ((with_reducible apply w_cond_false); exact rfl)
      | ((with_reducible apply w_cond) <;> first | exact rfl | (intro hb; (replace hb := Tidy.out hb; try (exfalso; omega))))
      | ((with_reducible apply blk_x); exact rfl))
    exact ret2 (.inl rfl) Try.results23 rfl rfl (H' := [.own none 40 11 0 0 []]) (by (repeat (first | exact MSub.nil _ | refine MSub.pick (by (repeat first | exact .hd | apply Sel.tl | apply In.tl)) ?_ | exact MSub.refl _ | refine MSub.drop .hd ?_))) ⟨none, 0, rfl, rfl⟩
end Go.SL

/-
  What TreeMatches returns.
-/
namespace Go.SL
open Go Go.Proofs
attribute [local irreducible] W WL WQ WG WA VOp thn blk cutP retP FnAt FnIn

theorem wf_few {L : List Nd} (h : ∀ n ∈ L, wfN n) : ∀ n ∈ fewT L, wfN n := by
  intro n hn
  obtain ⟨m, hm, rfl⟩ := List.mem_map.1 hn
  exact h m (List.mem_of_mem_take hm)
theorem few_len (L : List Nd) : (fewT L).length ≤ 300 := by
  unfold fewT
  rw [List.length_map, List.length_take]
  omega

theorem EqualTree_same (L : List Nd) (a b : Value) (w : World) (h1 : Reads w a L.length (L.flatMap encN)) (h2 : Reads w b L.length (L.flatMap encN)) : Pure Try.prog 27 [a, b] w (.bool true) := by
  have h := EqualTree_at L L a b w h1 h2
  rwa [decide_eq_true rfl] at h
theorem intsV_intsI (ks : List Nat) : intsV ks = (ks.map fun (k : Nat) => (k : Int)).map (Value.int .i64) := by simp [intsV]
theorem EqualInts_same (ks : List Nat) (a b : Value) (w : World) (h1 : Reads w a ks.length (intsV ks)) (h2 : Reads w b ks.length (intsV ks)) : Pure Try.prog 26 [a, b] w (.bool true) := by
  rw [intsV_intsI] at h1 h2
  have h := EqualInts_at (ks.map fun (k : Nat) => (k : Int)) (ks.map fun (k : Nat) => (k : Int)) a b w (by simpa using h1) (by simpa using h2)
  rwa [decide_eq_true rfl] at h

set_option maxRecDepth 20000 in
set_option maxHeartbeats 1000000 in
theorem TreeMatches_at (L : List Nd) (hwf : ∀ n ∈ L, wfN n) (i : Int) (tv : Value) (w : World) (ht : Reads w tv L.length (L.flatMap encN)) : Pure Try.prog 3 [tv, .int .i64 i] w (.bool true) := by
  refine fn_at Try.func3 rfl Try.ntmps3 rfl ?_
  have hf1 := fun (w' : World) (H : List Blk) (hm : Mem w w' H) => Few_at L tv w' (ht.of_w0 hm)
  have hidem := fewT_idem L
  have hwf1 := wf_few hwf
  have hle := few_len L
  generalize fewT L = M at hf1 hidem hwf1 hle
  have hf3 := fun (w' : World) (A : Option Nat) (cap : Nat) (h : Reads w' (sl A M.length cap) M.length (M.flatMap encN)) => Few_at M _ w' h
  rw [hidem] at hf3
  have d1 := fun v w' h => Depth_at M v w' h
  have d2 := fun v w' h => refDepth_at M hwf1 v w' h
  have k1 := fun v w' h => Kids_at M i v w' h
  have k2 := fun v w' h => refKids_at M hwf1 i v w' h
  have s1 := fun v w' h => Sub_at M i v w' h (by omega)
  have s2 := fun v w' h => refSub_at M hwf1 i v w' h
  have c1 := fun v w' h => Check_at M v w' h
  have c2 := fun v w' h => refCheck_at M hwf1 v w' h
  generalize depthE M = D at d1 d2
  generalize kidsE M i = K at k1 k2
  generalize subE M i = U at s1 s2
  generalize checkE M = C at c1 c2
  repeat' (first
    | ((with_reducible apply wl_call (xs := [.tmp 21])); exact rfl; exact rfl; (intro w' h; exact hf1 w' _ h); (rintro v H' ⟨A1, cap1, rfl, rfl⟩))
    | ((with_reducible apply wl_call (xs := [.tmp 23])); exact rfl; exact rfl; (intro w' h; exact hf3 w' _ _ (Reads.of_own h (by (repeat first | exact .hd | apply Sel.tl | apply In.tl)))); (rintro v H' ⟨A2, cap2, rfl, rfl⟩))
    | ((with_reducible apply wl_v); exact rfl; (first | ((with_reducible apply vop_ok); exact rfl) | ((with_reducible apply v_len); exact rfl) | ((with_reducible apply v_lens); exact rfl) | ((with_reducible apply v_eqlb); exact rfl; exact rfl) | ((with_reducible apply v_neqb); exact rfl; exact rfl) | ((with_reducible apply v_build); exact rfl; exact rfl; exact rfl)))
    | ((with_reducible apply wl_gyes); exact rfl; exact rfl)
    | ((with_reducible apply wl_gno_b); exact rfl; exact rfl; exact rfl; exact rfl)
    | ((with_reducible apply wl_gno_u); exact rfl; exact rfl; exact rfl)
    | ((with_reducible apply wl_storen_box); exact rfl; exact rfl; (repeat first | exact .hd | apply Sel.tl | apply In.tl); exact rfl; exact rfl; exact rfl)
    | ((with_reducible apply wl_putn_box); exact rfl; exact rfl; (repeat first | exact .hd | apply Sel.tl | apply In.tl); exact rfl; exact rfl; exact rfl; exact rfl)
    | ((with_reducible apply wl_gsplit) <;> first | exact rfl | (intro hb; (replace hb := Tidy.out hb; try (exfalso; omega))))
    | (with_reducible first | apply wl_nil | apply thn_n | apply w_seq | apply w_region | apply w_ret | apply w_skip | apply w_exit | apply w_block | apply thn_r | apply thn_e | apply blk_n | apply blk_r | apply blk_e)
    | ((with_reducible apply w_cond_true); exact rfl)
    | ((with_reducible apply w_cond_false); exact rfl)
    | ((with_reducible apply w_cond) <;> first | exact rfl | (intro hb; (replace hb := Tidy.out hb; try (exfalso; omega))))
    | ((with_reducible apply blk_x); exact rfl))
  refine w_loopK [0, 1, 5] rfl (fun r : Nat => [(6, .int .i64 (r : Int))]) (fun _ => [.own A2 40 11 M.length cap2 (M.flatMap encN), .own A1 40 11 M.length cap1 (M.flatMap encN)]) (fun r => r ≤ 2) (fun r => 2 - r) 0 (by omega) (by (repeat (first | exact Sub.nil _ | refine Sub.cons rfl ?_))) (by (repeat (first | exact MSub.nil _ | refine MSub.pick (by (repeat first | exact .hd | apply Sel.tl | apply In.tl)) ?_ | exact MSub.refl _ | refine MSub.drop .hd ?_))) ?_
  intro r hr
  by_cases hr2 : r < 2
  · repeat' (first
      | ((with_reducible apply wl_callp); exact rfl; exact rfl; (intro w' h; exact d1 _ w' (Reads.of_own (A := A2) h (by (repeat first | exact .hd | apply Sel.tl | apply In.tl)))))
      | ((with_reducible apply wl_callp); exact rfl; exact rfl; (intro w' h; exact d2 _ w' (Reads.of_own (A := A1) h (by (repeat first | exact .hd | apply Sel.tl | apply In.tl)))))
      | ((with_reducible apply wl_call); exact rfl; exact rfl; (intro w' h; exact k1 _ w' (Reads.of_own (A := A2) h (by (repeat first | exact .hd | apply Sel.tl | apply In.tl)))); (rintro v H' ⟨A3, cap3, rfl, rfl⟩))
      | ((with_reducible apply wl_call); exact rfl; exact rfl; (intro w' h; exact k2 _ w' (Reads.of_own (A := A1) h (by (repeat first | exact .hd | apply Sel.tl | apply In.tl)))); (rintro v H' ⟨A4, cap4, rfl, rfl⟩))
      | ((with_reducible apply wl_call); exact rfl; exact rfl; (intro w' h; exact s1 _ w' (Reads.of_own (A := A2) h (by (repeat first | exact .hd | apply Sel.tl | apply In.tl)))); (rintro v H' ⟨A5, cap5, rfl, rfl⟩))
      | ((with_reducible apply wl_call); exact rfl; exact rfl; (intro w' h; exact s2 _ w' (Reads.of_own (A := A1) h (by (repeat first | exact .hd | apply Sel.tl | apply In.tl)))); (rintro v H' ⟨A6, cap6, rfl, rfl⟩))
      | ((with_reducible apply wl_callp); exact rfl; exact rfl; (intro w' h; exact c1 _ w' (Reads.of_own (A := A2) h (by (repeat first | exact .hd | apply Sel.tl | apply In.tl)))))
      | ((with_reducible apply wl_callp); exact rfl; exact rfl; (intro w' h; exact c2 _ w' (Reads.of_own (A := A1) h (by (repeat first | exact .hd | apply Sel.tl | apply In.tl)))))
      | ((with_reducible apply wl_callp); exact rfl; exact rfl; (intro w' h; exact EqualInts_same K.1 _ _ w' (Reads.of_own h (by (repeat first | exact .hd | apply Sel.tl | apply In.tl))) (Reads.of_own h (by (repeat first | exact .hd | apply Sel.tl | apply In.tl)))))
      | ((with_reducible apply wl_callp); exact rfl; exact rfl; (intro w' h; exact EqualTree_same U.1 _ _ w' (Reads.of_own h (by (repeat first | exact .hd | apply Sel.tl | apply In.tl))) (Reads.of_own h (by (repeat first | exact .hd | apply Sel.tl | apply In.tl)))))
      | ((with_reducible apply wl_callp); exact rfl; exact rfl; (intro w' h; exact EqualTree_same M _ _ w' (Reads.of_own h (by (repeat first | exact .hd | apply Sel.tl | apply In.tl))) (Reads.of_own h (by (repeat first | exact .hd | apply Sel.tl | apply In.tl)))))
      | ((with_reducible apply wl_v); exact rfl; (with_reducible apply v_neq_same); exact rfl; exact rfl)
      | ((with_reducible apply wl_v); exact rfl; (first | ((with_reducible apply vop_ok); exact rfl) | ((with_reducible apply v_len); exact rfl) | ((with_reducible apply v_lens); exact rfl) | ((with_reducible apply v_eqlb); exact rfl; exact rfl) | ((with_reducible apply v_neqb); exact rfl; exact rfl) | ((with_reducible apply v_build); exact rfl; exact rfl; exact rfl)))
      | ((with_reducible apply wl_gyes); exact rfl; exact rfl)
      | ((with_reducible apply wl_gno_b); exact rfl; exact rfl; exact rfl; exact rfl)
      | ((with_reducible apply wl_gno_u); exact rfl; exact rfl; exact rfl)
      | ((with_reducible apply wl_storen_box); exact rfl; exact rfl; (repeat first | exact .hd | apply Sel.tl | apply In.tl); exact rfl; exact rfl; exact rfl)
      | ((with_reducible apply wl_putn_box); exact rfl; exact rfl; (repeat first | exact .hd | apply Sel.tl | apply In.tl); exact rfl; exact rfl; exact rfl; exact rfl)
      | ((with_reducible apply wl_gsplit) <;> first | exact rfl | (intro hb; (replace hb := Tidy.out hb; try (exfalso; omega))))
      | (with_reducible first | apply wl_nil | apply thn_n | apply w_seq | apply w_region | apply w_ret | apply w_skip | apply w_exit | apply w_block | apply thn_r | apply thn_e | apply blk_n | apply blk_r | apply blk_e)
      | ((with_reducible apply w_cond_true); exact rfl)
      | ((with_reducible apply w_cond_false); exact rfl)
      | ((with_reducible apply w_cond) <;> first | exact rfl | (intro hb; (replace hb := Tidy.out hb; try (exfalso; omega))))
      | ((with_reducible apply blk_x); exact rfl))
    refine w_loopK [0, 1, 5, 6, 11, 15] rfl (fun x : Nat × List Value => [(19, .int .i64 (x.1 : Int))]) (fun x => [.own A3 3 1 K.1.length cap3 x.2, .own A5 40 11 U.1.length cap5 (U.1.flatMap encN), .own A2 40 11 M.length cap2 (M.flatMap encN), .own A1 40 11 M.length cap1 (M.flatMap encN)])
      (fun x => x.1 ≤ K.1.length ∧ x.2.length = K.1.length) (fun x => K.1.length - x.1) (0, intsV K.1) ⟨by omega, intsV_length _⟩ (by (repeat (first | exact Sub.nil _ | refine Sub.cons rfl ?_))) (by (repeat (first | exact MSub.nil _ | refine MSub.pick (by (repeat first | exact .hd | apply Sel.tl | apply In.tl)) ?_ | exact MSub.refl _ | refine MSub.drop .hd ?_))) ?_
    rintro ⟨z, xs⟩ ⟨hz, hxs⟩
    dsimp only at hz hxs ⊢
    refine w_row (A := A3) .hd fun q1 q2 q3 => ?_
    by_cases hzk : z < K.1.length
    · refine w_some (A := A3) .hd (by omega) fun g3 hA => ?_
      subst hA
      repeat' (first
        | ((with_reducible apply wl_v); exact rfl; (with_reducible apply v_indexAddr); exact rfl; exact rfl; omega)
        | ((with_reducible apply wl_store_own); exact rfl; exact rfl; (repeat first | exact .hd | apply Sel.tl | apply In.tl); exact rfl; omega)
        | ((with_reducible apply wl_v); exact rfl; (first | ((with_reducible apply vop_ok); exact rfl) | ((with_reducible apply v_len); exact rfl) | ((with_reducible apply v_lens); exact rfl) | ((with_reducible apply v_eqlb); exact rfl; exact rfl) | ((with_reducible apply v_neqb); exact rfl; exact rfl) | ((with_reducible apply v_build); exact rfl; exact rfl; exact rfl)))
        | ((with_reducible apply wl_gyes); exact rfl; exact rfl)
        | ((with_reducible apply wl_gno_b); exact rfl; exact rfl; exact rfl; exact rfl)
        | ((with_reducible apply wl_gno_u); exact rfl; exact rfl; exact rfl)
        | ((with_reducible apply wl_storen_box); exact rfl; exact rfl; (repeat first | exact .hd | apply Sel.tl | apply In.tl); exact rfl; exact rfl; exact rfl)
        | ((with_reducible apply wl_putn_box); exact rfl; exact rfl; (repeat first | exact .hd | apply Sel.tl | apply In.tl); exact rfl; exact rfl; exact rfl; exact rfl)
        | ((with_reducible apply wl_gsplit) <;> first | exact rfl | (intro hb; (replace hb := Tidy.out hb; try (exfalso; omega))))
        | (with_reducible first | apply wl_nil | apply thn_n | apply w_seq | apply w_region | apply w_ret | apply w_skip | apply w_exit | apply w_block | apply thn_r | apply thn_e | apply blk_n | apply blk_r | apply blk_e)
        | ((with_reducible apply w_cond_true); exact rfl)
        | ((with_reducible apply w_cond_false); exact rfl)
        | ((with_reducible apply w_cond) <;> first | exact rfl | (intro hb; (replace hb := Tidy.out hb; try (exfalso; omega))))
        | ((with_reducible apply blk_x); exact rfl)
        | ((with_reducible apply wl_v); exact rfl; (with_reducible apply v_succN); exact rfl; exact rfl; (simp only [maxLen] at *; omega))
        | ((with_reducible apply wl_v); exact rfl; (with_reducible apply v_1addN); exact rfl; exact rfl; (simp only [maxLen] at *; omega))
        | ((with_reducible apply wl_v); exact rfl; (with_reducible apply v_addN); exact rfl; exact rfl; (simp only [maxLen] at *; omega)))
      refine ⟨(z + 1, xs.set (0 + z * 1) (.int .i64 (-1))), ?_, (by first | omega | (dsimp only; omega)), (by (repeat (first | exact Sub.nil _ | refine Sub.cons rfl ?_))), (by (repeat (first | exact Sub.nil _ | refine Sub.cons rfl ?_))), (by (repeat (first | exact MSub.nil _ | refine MSub.pick (by (repeat first | exact .hd | apply Sel.tl | apply In.tl)) ?_ | exact MSub.refl _ | refine MSub.drop .hd ?_)))⟩
      exact ⟨hzk, by simpa using hxs⟩
    · repeat' (first
        | ((with_reducible apply wl_v); exact rfl; (first | ((with_reducible apply vop_ok); exact rfl) | ((with_reducible apply v_len); exact rfl) | ((with_reducible apply v_lens); exact rfl) | ((with_reducible apply v_eqlb); exact rfl; exact rfl) | ((with_reducible apply v_neqb); exact rfl; exact rfl) | ((with_reducible apply v_build); exact rfl; exact rfl; exact rfl)))
        | ((with_reducible apply wl_gyes); exact rfl; exact rfl)
        | ((with_reducible apply wl_gno_b); exact rfl; exact rfl; exact rfl; exact rfl)
        | ((with_reducible apply wl_gno_u); exact rfl; exact rfl; exact rfl)
        | ((with_reducible apply wl_storen_box); exact rfl; exact rfl; (repeat first | exact .hd | apply Sel.tl | apply In.tl); exact rfl; exact rfl; exact rfl)
        | ((with_reducible apply wl_putn_box); exact rfl; exact rfl; (repeat first | exact .hd | apply Sel.tl | apply In.tl); exact rfl; exact rfl; exact rfl; exact rfl)
        | ((with_reducible apply wl_gsplit) <;> first | exact rfl | (intro hb; (replace hb := Tidy.out hb; try (exfalso; omega))))
        | (with_reducible first | apply wl_nil | apply thn_n | apply w_seq | apply w_region | apply w_ret | apply w_skip | apply w_exit | apply w_block | apply thn_r | apply thn_e | apply blk_n | apply blk_r | apply blk_e)
        | ((with_reducible apply w_cond_true); exact rfl)
        | ((with_reducible apply w_cond_false); exact rfl)
        | ((with_reducible apply w_cond) <;> first | exact rfl | (intro hb; (replace hb := Tidy.out hb; try (exfalso; omega))))
        | ((with_reducible apply blk_x); exact rfl))
      refine w_loopK [0, 1, 5, 6, 15] rfl (fun x : Nat × List Value => [(20, .int .i64 (x.1 : Int))]) (fun x => [.own A5 40 11 U.1.length cap5 x.2, .own A2 40 11 M.length cap2 (M.flatMap encN), .own A1 40 11 M.length cap1 (M.flatMap encN)])
        (fun x => x.1 ≤ U.1.length ∧ x.2.length = U.1.length * 11) (fun x => U.1.length - x.1) (0, U.1.flatMap encN) ⟨by omega, flat_length' encN_len _⟩ (by (repeat (first | exact Sub.nil _ | refine Sub.cons rfl ?_))) (by (repeat (first | exact MSub.nil _ | refine MSub.pick (by (repeat first | exact .hd | apply Sel.tl | apply In.tl)) ?_ | exact MSub.refl _ | refine MSub.drop .hd ?_))) ?_
      rintro ⟨y, ys⟩ ⟨hy, hys⟩
      dsimp only at hy hys ⊢
      refine w_row (A := A5) .hd fun p1 p2 p3 => ?_
      by_cases hyk : y < U.1.length
      · refine w_some (A := A5) .hd (by omega) fun g5 hA => ?_
        subst hA
        repeat' (first
          | ((with_reducible apply wl_v); exact rfl; (with_reducible apply v_indexAddr); exact rfl; exact rfl; omega)
          | ((with_reducible apply wl_put_own (vs := encN ⟨0, zeroV, zeroR, 0, 0, 0⟩)); exact rfl; exact rfl; (repeat first | exact .hd | apply Sel.tl | apply In.tl); exact rfl; exact rfl; decide; omega)
          | ((with_reducible apply wl_v); exact rfl; (first | ((with_reducible apply vop_ok); exact rfl) | ((with_reducible apply v_len); exact rfl) | ((with_reducible apply v_lens); exact rfl) | ((with_reducible apply v_eqlb); exact rfl; exact rfl) | ((with_reducible apply v_neqb); exact rfl; exact rfl) | ((with_reducible apply v_build); exact rfl; exact rfl; exact rfl)))
          | ((with_reducible apply wl_gyes); exact rfl; exact rfl)
          | ((with_reducible apply wl_gno_b); exact rfl; exact rfl; exact rfl; exact rfl)
          | ((with_reducible apply wl_gno_u); exact rfl; exact rfl; exact rfl)
          | ((with_reducible apply wl_storen_box); exact rfl; exact rfl; (repeat first | exact .hd | apply Sel.tl | apply In.tl); exact rfl; exact rfl; exact rfl)
          | ((with_reducible apply wl_putn_box); exact rfl; exact rfl; (repeat first | exact .hd | apply Sel.tl | apply In.tl); exact rfl; exact rfl; exact rfl; exact rfl)
          | ((with_reducible apply wl_gsplit) <;> first | exact rfl | (intro hb; (replace hb := Tidy.out hb; try (exfalso; omega))))
          | (with_reducible first | apply wl_nil | apply thn_n | apply w_seq | apply w_region | apply w_ret | apply w_skip | apply w_exit | apply w_block | apply thn_r | apply thn_e | apply blk_n | apply blk_r | apply blk_e)
          | ((with_reducible apply w_cond_true); exact rfl)
          | ((with_reducible apply w_cond_false); exact rfl)
          | ((with_reducible apply w_cond) <;> first | exact rfl | (intro hb; (replace hb := Tidy.out hb; try (exfalso; omega))))
          | ((with_reducible apply blk_x); exact rfl)
          | ((with_reducible apply wl_v); exact rfl; (with_reducible apply v_succN); exact rfl; exact rfl; (simp only [maxLen] at *; omega))
          | ((with_reducible apply wl_v); exact rfl; (with_reducible apply v_1addN); exact rfl; exact rfl; (simp only [maxLen] at *; omega))
          | ((with_reducible apply wl_v); exact rfl; (with_reducible apply v_addN); exact rfl; exact rfl; (simp only [maxLen] at *; omega)))
        refine ⟨(y + 1, ys.take (0 + y * 11) ++ encN ⟨0, zeroV, zeroR, 0, 0, 0⟩ ++ ys.drop (0 + y * 11 + 11)), ?_, (by first | omega | (dsimp only; omega)), (by (repeat (first | exact Sub.nil _ | refine Sub.cons rfl ?_))), (by (repeat (first | exact Sub.nil _ | refine Sub.cons rfl ?_))), (by (repeat (first | exact MSub.nil _ | refine MSub.pick (by (repeat first | exact .hd | apply Sel.tl | apply In.tl)) ?_ | exact MSub.refl _ | refine MSub.drop .hd ?_)))⟩
        refine ⟨hyk, ?_⟩
        simp only [List.length_append, List.length_take, List.length_drop, encN_len]
        omega
      · repeat' (first
          | ((with_reducible apply wl_v); exact rfl; (first | ((with_reducible apply vop_ok); exact rfl) | ((with_reducible apply v_len); exact rfl) | ((with_reducible apply v_lens); exact rfl) | ((with_reducible apply v_eqlb); exact rfl; exact rfl) | ((with_reducible apply v_neqb); exact rfl; exact rfl) | ((with_reducible apply v_build); exact rfl; exact rfl; exact rfl)))
          | ((with_reducible apply wl_gyes); exact rfl; exact rfl)
          | ((with_reducible apply wl_gno_b); exact rfl; exact rfl; exact rfl; exact rfl)
          | ((with_reducible apply wl_gno_u); exact rfl; exact rfl; exact rfl)
          | ((with_reducible apply wl_storen_box); exact rfl; exact rfl; (repeat first | exact .hd | apply Sel.tl | apply In.tl); exact rfl; exact rfl; exact rfl)
          | ((with_reducible apply wl_putn_box); exact rfl; exact rfl; (repeat first | exact .hd | apply Sel.tl | apply In.tl); exact rfl; exact rfl; exact rfl; exact rfl)
          | ((with_reducible apply wl_gsplit) <;> first | exact rfl | (intro hb; (replace hb := Tidy.out hb; try (exfalso; omega))))
          | (with_reducible first | apply wl_nil | apply thn_n | apply w_seq | apply w_region | apply w_ret | apply w_skip | apply w_exit | apply w_block | apply thn_r | apply thn_e | apply blk_n | apply blk_r | apply blk_e)
          | ((with_reducible apply w_cond_true); exact rfl)
          | ((with_reducible apply w_cond_false); exact rfl)
          | ((with_reducible apply w_cond) <;> first | exact rfl | (intro hb; (replace hb := Tidy.out hb; try (exfalso; omega))))
          | ((with_reducible apply blk_x); exact rfl)
          | ((with_reducible apply wl_v); exact rfl; (with_reducible apply v_succN); exact rfl; exact rfl; (simp only [maxLen] at *; omega))
          | ((with_reducible apply wl_v); exact rfl; (with_reducible apply v_1addN); exact rfl; exact rfl; (simp only [maxLen] at *; omega))
          | ((with_reducible apply wl_v); exact rfl; (with_reducible apply v_addN); exact rfl; exact rfl; (simp only [maxLen] at *; omega)))
        refine ⟨r + 1, ?_, (by first | omega | (dsimp only; omega)), (by (repeat (first | exact Sub.nil _ | refine Sub.cons rfl ?_))), (by (repeat (first | exact Sub.nil _ | refine Sub.cons rfl ?_))), (by (repeat (first | exact MSub.nil _ | refine MSub.pick (by (repeat first | exact .hd | apply Sel.tl | apply In.tl)) ?_ | exact MSub.refl _ | refine MSub.drop .hd ?_)))⟩
        exact hr2
  · repeat' (first
      | ((with_reducible apply wl_callp); exact rfl; exact rfl; (intro w' h; exact awake_at w'))
      | ((with_reducible apply wl_v); exact rfl; (first | ((with_reducible apply vop_ok); exact rfl) | ((with_reducible apply v_len); exact rfl) | ((with_reducible apply v_lens); exact rfl) | ((with_reducible apply v_eqlb); exact rfl; exact rfl) | ((with_reducible apply v_neqb); exact rfl; exact rfl) | ((with_reducible apply v_build); exact rfl; exact rfl; exact rfl)))
      | ((with_reducible apply wl_gyes); exact rfl; exact rfl)
      | ((with_reducible apply wl_gno_b); exact rfl; exact rfl; exact rfl; exact rfl)
      | ((with_reducible apply wl_gno_u); exact rfl; exact rfl; exact rfl)
      | ((with_reducible apply wl_storen_box); exact rfl; exact rfl; (repeat first | exact .hd | apply Sel.tl | apply In.tl); exact rfl; exact rfl; exact rfl)
      | ((with_reducible apply wl_putn_box); exact rfl; exact rfl; (repeat first | exact .hd | apply Sel.tl | apply In.tl); exact rfl; exact rfl; exact rfl; exact rfl)
      | ((with_reducible apply wl_gsplit) <;> first | exact rfl | (intro hb; (replace hb := Tidy.out hb; try (exfalso; omega))))
      | (with_reducible first | apply wl_nil | apply thn_n | apply w_seq | apply w_region | apply w_ret | apply w_skip | apply w_exit | apply w_block | apply thn_r | apply thn_e | apply blk_n | apply blk_r | apply blk_e)
      | ((with_reducible apply w_cond_true); exact rfl)
      | ((with_reducible apply w_cond_false); exact rfl)
      | ((with_reducible apply w_cond) <;> first | exact rfl | (intro hb; (replace hb := Tidy.out hb; try (exfalso; omega))))
      | ((with_reducible apply blk_x); exact rfl))
    ((with_reducible apply ret1); exact .inl rfl; exact rfl; exact rfl; exact MSub.nil _)
    rfl
end Go.SL

/-
  What the document's Join returns.
-/
namespace Go.SL
open Go Go.Proofs
attribute [local irreducible] W WL WQ WG WA VOp thn blk cutP retP FnAt FnIn

/-- A tree of one node that is a range alone. -/
def aloneT (t : List Nd) : Bool :=
  match t with
  | [n] => decide (n.kind = 3) && refFields n
  | _ => false

theorem checkT_alone (t : List Nd) : (checkT t (decide ((t.length : Int) = 1))).1 = (if aloneT t then 0 else checkE t) := by
  unfold checkE
  by_cases hl : t.length = 1
  · obtain ⟨n, rfl⟩ : ∃ n, t = [n] := by
      match t, hl with
      | [n], _ => exact ⟨n, rfl⟩
    have e1 : decide ((([n] : List Nd).length : Int) = 1) = true := by simp
    have hk : kindAt [n] (([n] : List Nd).length - 1) = n.kind := rfl
    rw [e1]
    by_cases h3 : n.kind = 3
    · have hw : (walkT [n] [n] 0 [] []).1 = fieldsE n := by
        have hb : below n = 0 := by simp [below, h3]
        unfold walkT stepT
        by_cases hf : fieldsE n = 0
        · rw [if_neg (by simp [hf]), hb]
          simp [topOf, fitsFrom, depthOf, walkT, hf]
        · rw [if_pos hf]
      have hfe : fieldsE n = if refFields n then 0 else 2 := by
        unfold fieldsE refFields
        cases ha : kindOk n <;> cases hb : eqN n (want n) <;> simp [h3]
      have ha : aloneT [n] = refFields n := by simp [aloneT, h3]
      rw [ha]
      simp only [checkT, hk, h3]
      cases hr : refFields n
      · rw [hr] at hfe
        simp [hw, hfe]
      · rw [hr] at hfe
        simp [hw, hfe]
    · have ha : aloneT [n] = false := by simp [aloneT, h3]
      rw [ha]
      have hk0 : kindAt [n] 0 = n.kind := rfl
      simp [checkT, hk0, h3]
  · have ha : aloneT t = false := by
      match t, hl with
      | [], _ => rfl
      | [n], h => exact absurd rfl h
      | a :: b :: r, _ => rfl
    rw [ha, decide_eq_false (by omega)]
    rfl

set_option maxRecDepth 20000 in
set_option maxHeartbeats 1000000 in
theorem refJoin_at (root : Nd) (Ls : List (List Nd)) (hwr : wfN root) (hwf : ∀ L ∈ Ls, ∀ n ∈ L, wfN n) (lv : Value) (w : World) (hl : ReadsLL w lv Ls) :
    FnAt Try.prog 31 [.agg (encN root).toArray, lv] w fun v H => ∃ A cap, v = .tuple #[sl A (joinE root Ls).1.length cap, .int .i64 (joinE root Ls).2] ∧ H = [.own A 40 11 (joinE root Ls).1.length cap ((joinE root Ls).1.flatMap encN)] := by
  obtain ⟨vals, hvl, ⟨Al, cl, rfl, hl1, hl2, hl3⟩, hel⟩ := hl
  refine fn_at Try.func31 rfl Try.ntmps31 rfl ?_
  generalize hJ : joinE root Ls = J
  unfold joinE at hJ
  repeat' (first
    | ((with_reducible apply wl_v); exact rfl; (first | ((with_reducible apply vop_ok); exact rfl) | ((with_reducible apply v_fieldAddr); exact rfl) | ((with_reducible apply v_len); exact rfl) | ((with_reducible apply v_lens); exact rfl) | ((with_reducible apply v_load_box); exact rfl; (repeat first | exact .hd | apply Sel.tl | apply In.tl); exact rfl) | ((with_reducible apply v_eqlb); exact rfl; exact rfl) | ((with_reducible apply v_neqb); exact rfl; exact rfl) | ((with_reducible apply v_loadw_box); exact rfl; (repeat first | exact .hd | apply Sel.tl | apply In.tl); exact rfl) | ((with_reducible apply v_loadn_box); exact rfl; (repeat first | exact .hd | apply Sel.tl | apply In.tl); exact rfl; exact rfl)))
    | ((with_reducible apply wl_gyes); exact rfl; exact rfl)
    | ((with_reducible apply wl_gno_b); exact rfl; exact rfl; exact rfl; exact rfl)
    | ((with_reducible apply wl_gno_u); exact rfl; exact rfl; exact rfl)
    | ((with_reducible apply wl_boxs); exact rfl; exact rfl; intro _)
    | ((with_reducible apply wl_box1); exact rfl; exact rfl; exact rfl; intro _)
    | ((with_reducible apply wl_buildSlice); exact rfl; exact rfl; exact rfl; exact rfl; exact rfl; exact rfl; exact rfl; intro _)
    | ((with_reducible apply wl_gsplit) <;> first | exact rfl | (intro hb; (replace hb := Tidy.out hb; try (exfalso; omega))))
    | (with_reducible first | apply wl_nil | apply thn_n | apply w_seq | apply w_region | apply w_ret | apply w_skip | apply w_exit | apply w_block | apply thn_r | apply thn_e | apply blk_n | apply blk_r | apply blk_e)
    | ((with_reducible apply w_cond_true); exact rfl)
    | ((with_reducible apply w_cond_false); exact rfl)
    | ((with_reducible apply w_cond) <;> first | exact rfl | (intro hb; (replace hb := Tidy.out hb; try (exfalso; omega))))
    | ((with_reducible apply blk_x); exact rfl))
  rename_i g
  refine w_nilrow 40 11 ?_
  refine w_nilrow 40 11 ?_
  refine w_loopK [1, 2] rfl (fun x : Nat × List Nd × Option Nat × Nat => [(6, sl x.2.2.1 x.2.1.length x.2.2.2), (7, .int .i64 (x.1 : Int))]) (fun x => [.own x.2.2.1 40 11 x.2.1.length x.2.2.2 (x.2.1.flatMap encN), .own none 40 11 0 0 [], .box g 40 (encN root)])
    (fun x => x.1 ≤ Ls.length ∧ x.2.1.length ≤ 512 ∧ (∀ n ∈ x.2.1, wfN n) ∧ joinLoop Ls [] = joinLoop (Ls.drop x.1) x.2.1) (fun x => Ls.length - x.1) (0, [], none, 0) ⟨by omega, by simp, (fun _ h => by cases h), rfl⟩ (by (repeat (first | exact Sub.nil _ | refine Sub.cons rfl ?_))) (by (repeat (first | exact MSub.nil _ | refine MSub.pick (by (repeat first | exact .hd | apply Sel.tl | apply In.tl)) ?_ | exact MSub.refl _ | refine MSub.drop .hd ?_))) ?_
  rintro ⟨i, out, A, cap⟩ ⟨hi, ho, hwo, hrec⟩
  dsimp only at hi ho hwo hrec ⊢
  have hfl : (out.flatMap encN).length = out.length * 11 := flat_length' encN_len out
  by_cases hlt : i < Ls.length
  · obtain ⟨gl, ol, rfl, hrl⟩ := hl3 (by omega)
    have hx := List.getElem?_eq_getElem (show i < vals.length by omega)
    have hL := List.getElem?_eq_getElem hlt
    have hr1 := hrl.cellV i hx
    have hR := hel i _ _ hx hL
    have hR' := hR
    have hwL := hwf _ (List.getElem_mem hlt)
    rw [List.drop_eq_getElem_cons hlt, joinLoop, checkT_alone] at hrec
    generalize Ls[i] = L at hR hR' hrec hwL
    obtain ⟨Ax, cx, hv, hx1, hx2, hx3⟩ := hR
    rw [hv] at hr1 hR'
    have hck := fun (w' : World) (H : List Blk) (hm : Mem w w' H) => refCheck_at L hwL _ w' (hR'.of_w0 hm)
    have hsm : (if aloneT L then 0 else checkE L) = 0 → L.length ≤ 256 := fun h => checkT_small (t := L) (b := decide ((L.length : Int) = 1)) (by rw [checkT_alone]; exact h)
    have hfl2 : (L.flatMap encN).length = L.length * 11 := flat_length' encN_len L
    generalize hce : checkE L = ce at hck hrec hsm
    have hx4 : out.length + L.length ≤ 4000000 ∨ (if aloneT L then (0 : Int) else ce) ≠ 0 := by
      by_cases h : (if aloneT L then (0 : Int) else ce) = 0
      · have := hsm h; left; omega
      · exact .inr h
    by_cases h1 : L.length = 1
    · obtain ⟨n, hLn⟩ : ∃ n, L = [n] := by
        match L, h1 with
        | [n], _ => exact ⟨n, rfl⟩
      obtain ⟨gx, ox, rfl, hrx⟩ := hx3 (by omega)
      have hrn : Ro w gx (ox + 0 * 11) (encN n) := by subst hLn; exact hrx.elem encN_len 0 (by simp)
      have hal : aloneT L = (decide (n.kind = 3) && refFields n) := by subst hLn; rfl
      have hfc := fun w => refFields_at n (hwL n (by simp [hLn])).1 w
      generalize refFields n = rf at hal hfc
      clear hLn
      repeat' (first
        | ((with_reducible apply wl_v); exact rfl; (with_reducible apply v_indexAddr); exact rfl; exact rfl; exact hlt)
        | ((with_reducible apply wl_v); exact rfl; (with_reducible apply v_indexAddr (j := 0)); exact rfl; exact rfl; omega)
        | ((with_reducible apply wl_callp); exact rfl; exact rfl; (intro w hm; exact hfc w))
        | ((with_reducible apply wl_callp); exact rfl; exact rfl; (intro w' hm; exact hck w' _ hm))
        | ((with_reducible apply wl_appendR (A := A) (m := L.length)); exact rfl; exact rfl; exact rfl; (repeat first | exact .hd | apply Sel.tl | apply In.tl); (intro w' hm; exact hR'.of_w0 hm); exact hfl2; exact encNs_one L; omega; (simp only [maxLen] at *; omega); intro A4 c4 h4)
        | ((with_reducible apply wl_v); exact rfl; (first | ((with_reducible apply vop_ok); exact rfl) | ((with_reducible apply v_fieldAddr); exact rfl) | ((with_reducible apply v_len); exact rfl) | ((with_reducible apply v_lens); exact rfl) | ((with_reducible apply v_load_box); exact rfl; (repeat first | exact .hd | apply Sel.tl | apply In.tl); exact rfl) | ((with_reducible apply v_eqlb); exact rfl; exact rfl) | ((with_reducible apply v_neqb); exact rfl; exact rfl) | ((with_reducible apply v_loadw_box); exact rfl; (repeat first | exact .hd | apply Sel.tl | apply In.tl); exact rfl) | ((with_reducible apply v_loadn_box); exact rfl; (repeat first | exact .hd | apply Sel.tl | apply In.tl); exact rfl; exact rfl)))
        | ((with_reducible apply wl_gyes); exact rfl; exact rfl)
        | ((with_reducible apply wl_gno_b); exact rfl; exact rfl; exact rfl; exact rfl)
        | ((with_reducible apply wl_gno_u); exact rfl; exact rfl; exact rfl)
        | ((with_reducible apply wl_boxs); exact rfl; exact rfl; intro _)
        | ((with_reducible apply wl_box1); exact rfl; exact rfl; exact rfl; intro _)
        | ((with_reducible apply wl_buildSlice); exact rfl; exact rfl; exact rfl; exact rfl; exact rfl; exact rfl; exact rfl; intro _)
        | ((with_reducible apply wl_gsplit) <;> first | exact rfl | (intro hb; (replace hb := Tidy.out hb; try (exfalso; omega))))
        | (with_reducible first | apply wl_nil | apply thn_n | apply w_seq | apply w_region | apply w_ret | apply w_skip | apply w_exit | apply w_block | apply thn_r | apply thn_e | apply blk_n | apply blk_r | apply blk_e)
        | ((with_reducible apply w_cond_true); exact rfl)
        | ((with_reducible apply w_cond_false); exact rfl)
        | ((with_reducible apply w_cond) <;> first | exact rfl | (intro hb; (replace hb := Tidy.out hb; try (exfalso; omega))))
        | ((with_reducible apply blk_x); exact rfl)
        | ((with_reducible apply wl_v); exact rfl; (with_reducible apply v_succN); exact rfl; exact rfl; (simp only [maxLen] at *; omega))
        | ((with_reducible apply wl_v); exact rfl; (with_reducible apply v_1addN); exact rfl; exact rfl; (simp only [maxLen] at *; omega))
        | ((with_reducible apply wl_v); exact rfl; (with_reducible apply v_addN); exact rfl; exact rfl; (simp only [maxLen] at *; omega))
        | ((with_reducible apply wl_v); exact rfl; (with_reducible apply v_indexAddr); exact rfl; exact rfl; (first | assumption | omega))
        | ((with_reducible apply wl_v); exact rfl; (with_reducible apply v_loadw_ro); exact rfl; assumption; exact rfl)
        | ((with_reducible apply wl_v); exact rfl; (with_reducible apply v_load1_ro); exact rfl; assumption)
        | ((with_reducible apply wl_v); exact rfl; (with_reducible apply v_loadf_ro); exact rfl; assumption; exact rfl))
      all_goals first
        | (rw [show (if aloneT L then (0 : Int) else ce) = ce by simp_all, if_pos (by assumption)] at hrec
           rw [hrec, if_pos (by exact (by assumption : ce ≠ 0))] at hJ
           subst hJ
           exact ret2 (.inl rfl) Try.results31 rfl rfl (H' := [.own none 40 11 0 0 []]) (by (repeat (first | exact MSub.nil _ | refine MSub.pick (by (repeat first | exact .hd | apply Sel.tl | apply In.tl)) ?_ | exact MSub.refl _ | refine MSub.drop .hd ?_))) ⟨none, 0, rfl, rfl⟩)
        | (have hr0 : (if aloneT L then (0 : Int) else ce) = 0 := by simp_all
           have hs0 := hsm hr0
           rw [hr0, if_neg (by simp), if_pos (by omega)] at hrec
           have e1 : out.length + L.length = (out ++ L).length := List.length_append.symm
           have e2 : out.flatMap encN ++ L.flatMap encN = (out ++ L).flatMap encN := List.flatMap_append.symm
           rw [e1, e2]
           refine ⟨(i + 1, out ++ L, A4, c4), ?_, (by first | omega | (dsimp only; omega)), (by (repeat (first | exact Sub.nil _ | refine Sub.cons rfl ?_))), (by (repeat (first | exact Sub.nil _ | refine Sub.cons rfl ?_))), (by (repeat (first | exact MSub.nil _ | refine MSub.pick (by (repeat first | exact .hd | apply Sel.tl | apply In.tl)) ?_ | exact MSub.refl _ | refine MSub.drop .hd ?_)))⟩
           exact ⟨hlt, by rw [List.length_append]; omega, (fun n hn => by rcases List.mem_append.1 hn with hn | hn; (· exact hwo n hn); (· exact hwL n hn)), hrec⟩)
        | (have hr0 : (if aloneT L then (0 : Int) else ce) = 0 := by simp_all
           rw [hr0, if_neg (by simp), if_neg (by omega)] at hrec
           refine ⟨(i + 1, out, A, cap), ?_, (by first | omega | (dsimp only; omega)), (by (repeat (first | exact Sub.nil _ | refine Sub.cons rfl ?_))), (by (repeat (first | exact Sub.nil _ | refine Sub.cons rfl ?_))), (by (repeat (first | exact MSub.nil _ | refine MSub.pick (by (repeat first | exact .hd | apply Sel.tl | apply In.tl)) ?_ | exact MSub.refl _ | refine MSub.drop .hd ?_)))⟩
           exact ⟨hlt, ho, hwo, hrec⟩)
    · have hal : aloneT L = false := by
        match L, h1 with
        | [], _ => rfl
        | [n], h => exact absurd rfl h
        | a :: b :: r, _ => rfl
      have hs5 : ce = 0 → L.length ≤ 256 := fun h => hsm (by simp [hal, h])
      repeat' (first
        | ((with_reducible apply wl_v); exact rfl; (with_reducible apply v_indexAddr); exact rfl; exact rfl; exact hlt)
        | ((with_reducible apply wl_callp); exact rfl; exact rfl; (intro w' hm; exact hck w' _ hm))
        | ((with_reducible apply wl_appendR (A := A) (m := L.length)); exact rfl; exact rfl; exact rfl; (repeat first | exact .hd | apply Sel.tl | apply In.tl); (intro w' hm; exact hR'.of_w0 hm); exact hfl2; exact encNs_one L; omega; (simp only [maxLen] at *; omega); intro A4 c4 h4)
        | ((with_reducible apply wl_v); exact rfl; (first | ((with_reducible apply vop_ok); exact rfl) | ((with_reducible apply v_fieldAddr); exact rfl) | ((with_reducible apply v_len); exact rfl) | ((with_reducible apply v_lens); exact rfl) | ((with_reducible apply v_load_box); exact rfl; (repeat first | exact .hd | apply Sel.tl | apply In.tl); exact rfl) | ((with_reducible apply v_eqlb); exact rfl; exact rfl) | ((with_reducible apply v_neqb); exact rfl; exact rfl) | ((with_reducible apply v_loadw_box); exact rfl; (repeat first | exact .hd | apply Sel.tl | apply In.tl); exact rfl) | ((with_reducible apply v_loadn_box); exact rfl; (repeat first | exact .hd | apply Sel.tl | apply In.tl); exact rfl; exact rfl)))
        | ((with_reducible apply wl_gyes); exact rfl; exact rfl)
        | ((with_reducible apply wl_gno_b); exact rfl; exact rfl; exact rfl; exact rfl)
        | ((with_reducible apply wl_gno_u); exact rfl; exact rfl; exact rfl)
        | ((with_reducible apply wl_boxs); exact rfl; exact rfl; intro _)
        | ((with_reducible apply wl_box1); exact rfl; exact rfl; exact rfl; intro _)
        | ((with_reducible apply wl_buildSlice); exact rfl; exact rfl; exact rfl; exact rfl; exact rfl; exact rfl; exact rfl; intro _)
        | ((with_reducible apply wl_gsplit) <;> first | exact rfl | (intro hb; (replace hb := Tidy.out hb; try (exfalso; omega))))
        | (with_reducible first | apply wl_nil | apply thn_n | apply w_seq | apply w_region | apply w_ret | apply w_skip | apply w_exit | apply w_block | apply thn_r | apply thn_e | apply blk_n | apply blk_r | apply blk_e)
        | ((with_reducible apply w_cond_true); exact rfl)
        | ((with_reducible apply w_cond_false); exact rfl)
        | ((with_reducible apply w_cond) <;> first | exact rfl | (intro hb; (replace hb := Tidy.out hb; try (exfalso; omega))))
        | ((with_reducible apply blk_x); exact rfl)
        | ((with_reducible apply wl_v); exact rfl; (with_reducible apply v_succN); exact rfl; exact rfl; (simp only [maxLen] at *; omega))
        | ((with_reducible apply wl_v); exact rfl; (with_reducible apply v_1addN); exact rfl; exact rfl; (simp only [maxLen] at *; omega))
        | ((with_reducible apply wl_v); exact rfl; (with_reducible apply v_addN); exact rfl; exact rfl; (simp only [maxLen] at *; omega))
        | ((with_reducible apply wl_v); exact rfl; (with_reducible apply v_indexAddr); exact rfl; exact rfl; (first | assumption | omega))
        | ((with_reducible apply wl_v); exact rfl; (with_reducible apply v_loadw_ro); exact rfl; assumption; exact rfl)
        | ((with_reducible apply wl_v); exact rfl; (with_reducible apply v_load1_ro); exact rfl; assumption)
        | ((with_reducible apply wl_v); exact rfl; (with_reducible apply v_loadf_ro); exact rfl; assumption; exact rfl))
      all_goals first
        | (rw [show (if aloneT L then (0 : Int) else ce) = ce by simp_all, if_pos (by assumption)] at hrec
           rw [hrec, if_pos (by exact (by assumption : ce ≠ 0))] at hJ
           subst hJ
           exact ret2 (.inl rfl) Try.results31 rfl rfl (H' := [.own none 40 11 0 0 []]) (by (repeat (first | exact MSub.nil _ | refine MSub.pick (by (repeat first | exact .hd | apply Sel.tl | apply In.tl)) ?_ | exact MSub.refl _ | refine MSub.drop .hd ?_))) ⟨none, 0, rfl, rfl⟩)
        | (have hr0 : (if aloneT L then (0 : Int) else ce) = 0 := by simp_all
           have hs0 := hsm hr0
           rw [hr0, if_neg (by simp), if_pos (by omega)] at hrec
           have e1 : out.length + L.length = (out ++ L).length := List.length_append.symm
           have e2 : out.flatMap encN ++ L.flatMap encN = (out ++ L).flatMap encN := List.flatMap_append.symm
           rw [e1, e2]
           refine ⟨(i + 1, out ++ L, A4, c4), ?_, (by first | omega | (dsimp only; omega)), (by (repeat (first | exact Sub.nil _ | refine Sub.cons rfl ?_))), (by (repeat (first | exact Sub.nil _ | refine Sub.cons rfl ?_))), (by (repeat (first | exact MSub.nil _ | refine MSub.pick (by (repeat first | exact .hd | apply Sel.tl | apply In.tl)) ?_ | exact MSub.refl _ | refine MSub.drop .hd ?_)))⟩
           exact ⟨hlt, by rw [List.length_append]; omega, (fun n hn => by rcases List.mem_append.1 hn with hn | hn; (· exact hwo n hn); (· exact hwL n hn)), hrec⟩)
        | (have hr0 : (if aloneT L then (0 : Int) else ce) = 0 := by simp_all
           rw [hr0, if_neg (by simp), if_neg (by omega)] at hrec
           refine ⟨(i + 1, out, A, cap), ?_, (by first | omega | (dsimp only; omega)), (by (repeat (first | exact Sub.nil _ | refine Sub.cons rfl ?_))), (by (repeat (first | exact Sub.nil _ | refine Sub.cons rfl ?_))), (by (repeat (first | exact MSub.nil _ | refine MSub.pick (by (repeat first | exact .hd | apply Sel.tl | apply In.tl)) ?_ | exact MSub.refl _ | refine MSub.drop .hd ?_)))⟩
           exact ⟨hlt, ho, hwo, hrec⟩)
  · have e : i = Ls.length := by omega
    subst e
    rw [List.drop_length, joinLoop] at hrec
    have e1 : out.length + 1 = (out ++ [root]).length := by simp
    have e2 : out.flatMap encN ++ encN root = (out ++ [root]).flatMap encN := by simp
    rw [hrec, if_neg (by simp)] at hJ
    have hck := refCheck_at (out ++ [root]) (fun n hn => by
      rcases List.mem_append.1 hn with hn | hn
      · exact hwo n hn
      · rw [List.mem_singleton.1 hn]; exact hwr)
    dsimp only at hJ
    generalize checkE (out ++ [root]) = ce at hck hJ
    repeat' (first
      | ((with_reducible apply wl_append); exact rfl; exact rfl; exact rfl; (repeat first | exact .hd | apply Sel.tl | apply In.tl); (intro w hm; exact hm.cells_own (by (repeat first | exact .hd | apply Sel.tl | apply In.tl))); exact rfl; (simp [Value.oneCell', sl]); omega; (simp only [maxLen]; omega); (intro A4 c4 h4))
      | ((with_reducible apply wl_callp); exact rfl; exact rfl; (intro w' hm; exact hck _ w' (by rw [← e1, ← e2]; exact Reads.of_own (A := A4) hm (by (repeat first | exact .hd | apply Sel.tl | apply In.tl)))))
      | ((with_reducible apply wl_v); exact rfl; (first | ((with_reducible apply vop_ok); exact rfl) | ((with_reducible apply v_fieldAddr); exact rfl) | ((with_reducible apply v_len); exact rfl) | ((with_reducible apply v_lens); exact rfl) | ((with_reducible apply v_load_box); exact rfl; (repeat first | exact .hd | apply Sel.tl | apply In.tl); exact rfl) | ((with_reducible apply v_eqlb); exact rfl; exact rfl) | ((with_reducible apply v_neqb); exact rfl; exact rfl) | ((with_reducible apply v_loadw_box); exact rfl; (repeat first | exact .hd | apply Sel.tl | apply In.tl); exact rfl) | ((with_reducible apply v_loadn_box); exact rfl; (repeat first | exact .hd | apply Sel.tl | apply In.tl); exact rfl; exact rfl)))
      | ((with_reducible apply wl_gyes); exact rfl; exact rfl)
      | ((with_reducible apply wl_gno_b); exact rfl; exact rfl; exact rfl; exact rfl)
      | ((with_reducible apply wl_gno_u); exact rfl; exact rfl; exact rfl)
      | ((with_reducible apply wl_boxs); exact rfl; exact rfl; intro _)
      | ((with_reducible apply wl_box1); exact rfl; exact rfl; exact rfl; intro _)
      | ((with_reducible apply wl_buildSlice); exact rfl; exact rfl; exact rfl; exact rfl; exact rfl; exact rfl; exact rfl; intro _)
      | ((with_reducible apply wl_gsplit) <;> first | exact rfl | (intro hb; (replace hb := Tidy.out hb; try (exfalso; omega))))
      | (with_reducible first | apply wl_nil | apply thn_n | apply w_seq | apply w_region | apply w_ret | apply w_skip | apply w_exit | apply w_block | apply thn_r | apply thn_e | apply blk_n | apply blk_r | apply blk_e)
      | ((with_reducible apply w_cond_true); exact rfl)
      | ((with_reducible apply w_cond_false); exact rfl)
      | ((with_reducible apply w_cond) <;> first | exact rfl | (intro hb; (replace hb := Tidy.out hb; try (exfalso; omega))))
      | ((with_reducible apply blk_x); exact rfl))
    · rw [if_pos hb] at hJ
      subst hJ
      exact ret2 (.inl rfl) Try.results31 rfl rfl (H' := [.own none 40 11 0 0 []]) (by (repeat (first | exact MSub.nil _ | refine MSub.pick (by (repeat first | exact .hd | apply Sel.tl | apply In.tl)) ?_ | exact MSub.refl _ | refine MSub.drop .hd ?_))) ⟨none, 0, rfl, rfl⟩
    · rw [if_neg (by omega)] at hJ
      subst hJ
      rw [e1]
      exact ret2 (.inl rfl) Try.results31 rfl rfl (H' := [.own A4 40 11 (out ++ [root]).length c4 (out.flatMap encN ++ encN root)]) (by (repeat (first | exact MSub.nil _ | refine MSub.pick (by (repeat first | exact .hd | apply Sel.tl | apply In.tl)) ?_ | exact MSub.refl _ | refine MSub.drop .hd ?_))) ⟨A4, c4, rfl, by rw [e2]⟩
end Go.SL

/-
  What is known of the tree of each node, and of trees that are joined. No program in sight.
-/
namespace Go.SL
open Go

theorem whole_good {T : STree} (hT : Good T) : ∃ h, Whole T.ns T h := by
  obtain ⟨h, hw⟩ := hT.walk1
  obtain ⟨S, e, hW⟩ := whole_of hw
  have : S = T := (List.cons.inj e).1.symm
  subst this
  exact ⟨h, hW⟩

theorem kindAt_last {T : STree} (h : 0 < T.ns.length) : kindAt T.ns (T.ns.length - 1) = T.kind := by
  rw [STree.kind, List.getLast?_eq_getElem?]
  rfl

theorem checkT_good {T : STree} {h : Hist} (hW : Whole T.ns T h) (hl : T.ns.length ≤ 256) (b : Bool) : checkT T.ns b = (if b = false ∧ T.kind = 3 then 4 else 0, visitsOf h) := by
  have h1 : walkT T.ns T.ns 0 [] [] = (0, visitsOf h) := by rw [walkT_walkF, hW.walk]
  unfold checkT
  rw [if_neg (by omega), if_neg (by have := hW.pos; omega), h1, if_neg (by simp), kindAt_last hW.pos]
  split <;> rfl

theorem lastD_visits {L : List Nd} {S : STree} {H : Hist} (hW : Whole L S H) : lastD (visitsOf H) = S.d := by
  obtain ⟨top, h1⟩ := hW.last
  have hl : (visitsOf H).length = L.length := by rw [visitsOf_length, hW.inv.len]
  rw [lastD, List.getLast?_eq_getElem?, hl, visitsOf_get, h1]
  rfl

theorem depthE_good {T : STree} (hT : Good T) (hl : T.ns.length ≤ 256) : depthE T.ns = if T.kind = 3 then (0, 4) else ((T.d : Int), 0) := by
  obtain ⟨h, hW⟩ := whole_good hT
  have h1 := checkT_good hW hl false
  unfold depthE checkE
  rw [h1, lastD_visits hW]
  by_cases h3 : T.kind = 3 <;> simp [h3]

theorem checkE_good {T : STree} (hT : Good T) (hl : T.ns.length ≤ 256) : checkE T.ns = if T.kind = 3 then 4 else 0 := by
  obtain ⟨h, hW⟩ := whole_good hT
  have h1 := checkT_good hW hl false
  unfold checkE
  rw [h1]
  by_cases h3 : T.kind = 3 <;> simp [h3]

theorem depthE_whole {L : List Nd} {S : STree} {H : Hist} (hW : Whole L S H) (hc : checkE L = 0) (ht : checkT L false = (0, visitsOf H)) : depthE L = ((S.d : Int), 0) := by
  unfold depthE
  rw [if_neg (by omega), ht, lastD_visits hW]

/-- A range alone. -/
theorem good_range {T : STree} (hT : Good T) (h3 : T.kind = 3) : ∃ n, T.ns = [n] ∧ n.kind = 3 ∧ fieldsE n = 0 := by
  cases hT with
  | mk n top hg hf hb hfit hd =>
    rw [nodeF_kind] at h3
    have : below n = 0 := by simp [below, h3]
    have ht : top = [] := List.eq_nil_of_length_eq_zero (by omega)
    subst ht
    exact ⟨n, rfl, h3, hf⟩

theorem checkT_part {T : STree} (hT : Good T) (hl : T.ns.length ≤ 256) : (checkT T.ns (decide ((T.ns.length : Int) = 1))).1 = 0 := by
  rw [checkT_alone]
  by_cases h3 : T.kind = 3
  · obtain ⟨n, e, hk, hf⟩ := good_range hT h3
    have : aloneT T.ns = true := by
      rw [e]
      simp [aloneT, hk, (fieldsE_ok hf).1]
    rw [this]
    rfl
  · rw [checkE_good hT hl, if_neg h3]
    split <;> rfl

theorem joinLoop_good : ∀ (ts : List STree) (out : List Nd), (∀ T ∈ ts, Good T) → out.length + (flatS ts).length ≤ 256 → joinLoop (ts.map STree.ns) out = (out ++ flatS ts, 0)
  | [], out, _, _ => by simp [joinLoop, flatS]
  | T :: r, out, hg, hl => by
    rw [flatS_cons, List.length_append] at hl
    rw [List.map_cons, joinLoop, checkT_part (hg T List.mem_cons_self) (by omega), if_neg (by simp), if_pos (by omega), joinLoop_good r _ (fun S hS => hg S (List.mem_cons_of_mem _ hS)) (by rw [List.length_append]; omega), flatS_cons, List.append_assoc]

/-- The tree of a node is what its parts come to when they are joined. -/
theorem joinE_good {n : Nd} {top : List STree} (hG : Good (nodeF n top)) (ht : ∀ T ∈ top, Good T) (hl : (nodeF n top).ns.length ≤ 256) (h3 : n.kind ≠ 3) : joinE n (top.map STree.ns) = ((nodeF n top).ns, 0) := by
  have h1 := joinLoop_good top [] ht (by rw [nodeF_len] at hl; simp; omega)
  rw [List.nil_append] at h1
  have h2 : flatS top ++ [n] = (nodeF n top).ns := rfl
  unfold joinE
  rw [h1]
  dsimp only
  rw [if_neg (by simp), h2, checkE_good hG hl, nodeF_kind, if_neg h3, if_neg (by simp)]

/-- The root number k below a node. -/
theorem roots_get {o : Nat} : ∀ {l : List STree} {k : Nat} (h : k < l.length), (rootsFrom o l)[k]? = some (o + (flatS (l.take k)).length + l[k].ns.length - 1)
  | [], k, h => by simp at h
  | S :: r, 0, _ => by simp [rootsFrom, flatS]
  | S :: r, k + 1, h => by
    have := roots_get (o := o + S.ns.length) (l := r) (k := k) (by simpa using h)
    simp only [rootsFrom, List.getElem?_cons_succ, this, List.take_succ_cons, flatS_cons, List.length_append, List.getElem_cons_succ]
    congr 1
    omega

theorem kid_tree {L : List Nd} {S : STree} {H : Hist} (hW : Whole L S H) {i : Nat} {x : List STree × STree} (hx : H[i]? = some x) {k : Nat} (hk : k < x.1.length) :
    ∃ top r, (kidsH i x)[k]? = some r ∧ H[r]? = some (top, x.1[k]) := by
  have h1 := roots_get (o := lo i x) hk
  have h2 : x.1 = x.1.take k ++ x.1[k] :: x.1.drop (k + 1) := by rw [← List.drop_eq_getElem_cons hk, List.take_append_drop]
  obtain ⟨top, h3⟩ := hW.rootOk.kid i x hx _ _ _ h2
  exact ⟨top, _, h1, h3⟩

theorem kids_last {L : List Nd} {S : STree} {H : Hist} (hW : Whole L S H) {i : Nat} {x : List STree × STree} (hx : H[i]? = some x) (hk : 0 < x.1.length) : (kidsH i x)[x.1.length - 1]? = some (i - 1) := by
  obtain ⟨m, _, e2, e3, _, e5, _⟩ := hW.inv.node i x hx
  have h1 := roots_get (o := lo i x) (l := x.1) (k := x.1.length - 1) (by omega)
  have h2 : x.2.ns.length = (flatS x.1).length + 1 := by rw [e2, nodeF_len]
  have h3 : (flatS x.1).length = (flatS (x.1.take (x.1.length - 1))).length + (x.1[x.1.length - 1]'(by omega)).ns.length := by
    conv => lhs; rw [← List.take_append_drop (x.1.length - 1) x.1, List.drop_eq_getElem_cons (by omega : x.1.length - 1 < x.1.length)]
    rw [flatS_append, flatS_cons, List.length_append, List.length_append, show x.1.length - 1 + 1 = x.1.length by omega, List.drop_length]
    simp [flatS]
  have h4 := (e3 _ (List.getElem_mem (by omega : x.1.length - 1 < x.1.length))).pos
  rw [kidsH, h1]
  simp only [lo] at h1 ⊢
  congr 1
  omega

/-! ### Who is below whom -/

def kidsL (H : Hist) (j : Nat) : List Nat := ((H[j]?).map (kidsH j)).getD []
/-- Is k directly below one of the first i nodes? -/
def ownB (H : Hist) (i k : Nat) : Bool := (List.range i).any fun j => (kidsL H j).contains k
theorem ownB_succ (H : Hist) (i k : Nat) : ownB H (i + 1) k = (ownB H i k || (kidsL H i).contains k) := by
  simp [ownB, List.range_succ]
theorem ownB_iff {H : Hist} {i k : Nat} : ownB H i k = true ↔ ∃ j y, j < i ∧ H[j]? = some y ∧ k ∈ kidsH j y := by
  simp only [ownB, List.any_eq_true, List.mem_range, List.contains_eq_mem, decide_eq_true_eq]
  constructor
  · rintro ⟨j, hj, hk⟩
    unfold kidsL at hk
    cases hy : H[j]? with
    | none => rw [hy] at hk; simp at hk
    | some y => rw [hy] at hk; exact ⟨j, y, hj, hy, by simpa using hk⟩
  · rintro ⟨j, y, hj, hy, hk⟩
    exact ⟨j, hj, by simpa [kidsL, hy] using hk⟩
theorem ownB_all {L : List Nd} {S : STree} {H : Hist} (hW : Whole L S H) {k : Nat} (hk : k < L.length) : ownB H L.length k = decide (k < L.length - 1) := by
  have hr : rootsFrom 0 [S] = [L.length - 1] := by simp [rootsFrom, hW.ns]
  rw [Bool.eq_iff_iff, ownB_iff, decide_eq_true_eq]
  constructor
  · rintro ⟨j, y, hj, hy, hkk⟩
    have h1 := hW.inv.apart j y hy k hkk
    rw [hr] at h1
    simp at h1
    omega
  · intro h
    rcases hW.inv.up k (by rw [hW.inv.len]; exact hk) with h1 | ⟨j, y, hy, h2⟩
    · rw [hr] at h1
      simp at h1
      omega
    · exact ⟨j, y, by rw [← hW.inv.len]; exact (List.getElem?_eq_some_iff.1 hy).1, hy, h2⟩

/-- A kid of node i is no kid of an earlier node, nor an earlier kid of node i. -/
theorem kid_new {L : List Nd} {S : STree} {H : Hist} (hW : Whole L S H) {i : Nat} {x : List STree × STree} (hx : H[i]? = some x) {c r : Nat} (hc : (kidsH i x)[c]? = some r) : ownB H i r = false ∧ r ∉ (kidsH i x).take c := by
  have hm := List.mem_of_getElem? hc
  constructor
  · cases hb : ownB H i r
    · rfl
    · obtain ⟨j, y, hj, hy, hk⟩ := ownB_iff.1 hb
      have := hW.inv.one i j x y hx hy r hm hk
      omega
  · intro h
    have hinc := (kidsH_rise hW hx).1
    obtain ⟨hlt, he⟩ := List.getElem?_eq_some_iff.1 hc
    obtain ⟨d, hd, hde⟩ := List.mem_take_iff_getElem.1 h
    have := List.pairwise_iff_getElem.1 hinc d c (by omega) hlt (by omega)
    omega
end Go.SL

/-
  What is known of trees that were joined. No program in sight.
-/
namespace Go.SL
open Go

theorem checkT_ok_good {t : List Nd} {b : Bool} (h : (checkT t b).1 = 0) : t.length ≤ 256 ∧ ∃ T, Good T ∧ T.ns = t := by
  refine ⟨checkT_small h, ?_⟩
  unfold checkT at h
  split at h
  · cases h
  split at h
  · cases h
  split at h
  · rename_i h1
    exact absurd h h1
  rename_i h1
  have h2 : (walkT t t 0 [] []).1 = 0 := by omega
  rw [walkT_walkF] at h2
  dsimp only at h2
  have hw : walkF t [] [] = (0, (walkF t [] []).2.1, (walkF t [] []).2.2) := by rw [← h2]
  obtain ⟨S, _, hW⟩ := whole_of hw
  exact ⟨S, hW.good, hW.ns⟩

theorem joinLoop_ok : ∀ (ts : List (List Nd)) (out : List Nd), (joinLoop ts out).2 = 0 → (∃ Ts : List STree, Ts.map STree.ns = ts ∧ ∀ T ∈ Ts, Good T ∧ T.ns.length ≤ 256) ∧ out.length ≤ (joinLoop ts out).1.length ∧ ((joinLoop ts out).1.length ≤ 256 → (joinLoop ts out).1 = out ++ ts.flatten)
  | [], out, _ => ⟨⟨[], rfl, fun _ h => by cases h⟩, by simp [joinLoop], fun _ => by simp [joinLoop]⟩
  | t :: r, out, h => by
    rw [joinLoop] at h ⊢
    split at h
    · rename_i h1
      exact absurd h h1
    rename_i h1
    rw [if_neg h1]
    obtain ⟨hl, T, hT, e⟩ := checkT_ok_good (t := t) (b := decide ((t.length : Int) = 1)) (by omega)
    obtain ⟨⟨Ts, e1, h2⟩, h3, h4⟩ := joinLoop_ok r _ h
    refine ⟨⟨T :: Ts, by simp [e, e1], fun U hU => ?_⟩, ?_, fun h5 => ?_⟩
    · rcases List.mem_cons.1 hU with rfl | hU
      · exact ⟨hT, by rw [e]; exact hl⟩
      · exact h2 U hU
    · refine Nat.le_trans ?_ h3
      split
      · rw [List.length_append]; omega
      · exact Nat.le_refl _
    · rw [h4 h5]
      have h6 : out.length ≤ 256 := by
        refine Nat.le_trans ?_ (Nat.le_trans h3 h5)
        split
        · rw [List.length_append]; omega
        · exact Nat.le_refl _
      rw [if_pos h6, List.flatten_cons, List.append_assoc]

theorem joinLoop_err : ∀ (ts : List (List Nd)) (out : List Nd), (joinLoop ts out).2 ≠ 0 → (joinLoop ts out).1 = []
  | [], out, h => absurd rfl h
  | t :: r, out, h => by
    rw [joinLoop] at h ⊢
    split at h
    · rename_i h1
      rw [if_pos h1]
    · rename_i h1
      rw [if_neg h1]
      exact joinLoop_err r _ h

theorem joinE_err {r : Nd} {Ls : List (List Nd)} (h : (joinE r Ls).2 ≠ 0) : (joinE r Ls).1 = [] := by
  unfold joinE at h ⊢
  split at h
  · rename_i h1
    rw [if_pos h1]
    exact joinLoop_err _ _ h1
  · rename_i h1
    rw [if_neg h1]
    split at h
    · rename_i h2
      rw [if_pos h2]
    · exact absurd rfl h

theorem walk_flat {Ts : List STree} (h : ∀ T ∈ Ts, Good T) : ∀ (rest : List Nd) (st : List STree) (h0 : Hist), ∃ h1, walkF (flatS Ts ++ rest) st h0 = walkF rest (st ++ Ts) h1 := by
  induction Ts with
  | nil => intro rest st h0; exact ⟨h0, by simp [flatS]⟩
  | cons T r ih =>
    intro rest st h0
    obtain ⟨H, _, f⟩ := (h T List.mem_cons_self).walk
    obtain ⟨h1, e⟩ := ih (fun U hU => h U (List.mem_cons_of_mem _ hU)) rest (st ++ [T]) (h0 ++ H)
    exact ⟨h1, by rw [flatS_cons, List.append_assoc, f, e, List.append_assoc, List.singleton_append]⟩

/-- What was joined without an error: the trees below its root are those that were joined. -/
theorem joinE_ok {r : Nd} {Ls : List (List Nd)} (h : (joinE r Ls).2 = 0) : ∃ (Ts : List STree) (H : Hist), Ts.map STree.ns = Ls ∧ (∀ T ∈ Ts, Good T ∧ T.ns.length ≤ 256) ∧ (joinE r Ls).1 = flatS Ts ++ [r] ∧ checkE (joinE r Ls).1 = 0 ∧
    Whole (joinE r Ls).1 (nodeF r Ts) H ∧ checkT (joinE r Ls).1 false = (0, visitsOf H) ∧ H[(joinE r Ls).1.length - 1]? = some (Ts, nodeF r Ts) := by
  unfold joinE at h ⊢
  split at h
  · rename_i h1
    exact absurd h h1
  rename_i h1
  split at h
  · rename_i h2
    exact absurd h h2
  rename_i h2
  rw [if_neg h1, if_neg h2]
  have hz : checkE ((joinLoop Ls []).1 ++ [r]) = 0 := by omega
  obtain ⟨⟨Ts, e1, hg⟩, _, h4⟩ := joinLoop_ok Ls [] (by omega)
  obtain ⟨hl, S, H, hW, hk3, hct⟩ := check_whole hz
  have hout := h4 (by rw [List.length_append] at hl; omega)
  have hfl : Ls.flatten = flatS Ts := by rw [← e1, flatS, List.flatMap_def]
  rw [List.nil_append, hfl] at hout
  rw [hout] at hz hl hW hct ⊢
  dsimp only
  -- the last step
  obtain ⟨hh, hwk⟩ := walk_flat (fun T hT => (hg T hT).1) [r] [] []
  rw [hW.walk, List.nil_append] at hwk
  obtain ⟨l, top, hs, hw2⟩ := walkF_cons hwk.symm
  rw [walkF] at hw2
  simp only [Prod.mk.injEq] at hw2
  obtain ⟨_, hst, _⟩ := hw2
  obtain ⟨_, hlt⟩ := stepF_below hs
  have hl0 : l = [] := by
    have := congrArg List.length hst
    simp at this
    exact this
  subst hl0
  rw [List.nil_append] at hst hlt
  subst hlt
  have hS : S = nodeF r Ts := (List.cons.inj hst).1.symm
  subst hS
  obtain ⟨top, hlast⟩ := hW.last
  refine ⟨Ts, H, e1, hg, rfl, hz, hW, hct, ?_⟩
  -- the history's last entry is the last step
  obtain ⟨hh2, hwk2⟩ := walk_flat (fun T hT => (hg T hT).1) [r] [] []
  rw [hW.walk, List.nil_append, walkF, hs] at hwk2
  simp only [walkF, Prod.mk.injEq] at hwk2
  obtain ⟨_, _, e⟩ := hwk2
  have hHl := hW.inv.len
  rw [e] at hHl ⊢
  rw [← hHl]
  simp

theorem max_le_foldl (l : List STree) (d : Nat) : l.foldl (fun d S => max d (S.d + 1)) (d + 1) = l.foldl (fun d S => max d S.d) d + 1 := by
  induction l generalizing d with
  | nil => rfl
  | cons S r ih =>
    rw [List.foldl_cons, List.foldl_cons, show max (d + 1) (S.d + 1) = max d S.d + 1 by omega, ih]

/-- The depth of a node is one more than the deepest tree below it. -/
theorem depthF_max (top : List STree) : depthF top = top.foldl (fun d S => max d S.d) 0 + 1 := max_le_foldl top 0

theorem Good.deep {T : STree} (h : Good T) : 1 ≤ T.d := by
  cases h with
  | mk n top _ _ _ _ _ =>
    simp only [nodeF, depthF_max]
    omega
theorem Good.le32 {T : STree} (h : Good T) : T.d ≤ 32 := by
  cases h with
  | mk n top _ _ _ _ hd => exact hd
theorem Good.range1 {T : STree} (h : Good T) (h3 : T.kind = 3) : T.d = 1 := by
  cases h with
  | mk n top hg hf hb hfit hd =>
    rw [nodeF_kind] at h3
    have : Go.SL.below n = 0 := by simp [Go.SL.below, h3]
    have ht : top = [] := List.eq_nil_of_length_eq_zero (by omega)
    subst ht
    rfl
end Go.SL

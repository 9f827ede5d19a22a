/-
  The document's Name, Function, Arity and Wide.
-/
import Derived.Test.YtfkklicpnoeclaaW11
namespace Go.SL
open Go Go.Proofs
attribute [local irreducible] W WL WQ WG WA VOp thn blk retP FnAt FnIn

def refNameE (fn : Int) : ByteArray := if 51 ≤ fn then emptyB else (emptyB :: namesL).getD fn.toNat emptyB

theorem wrap_i64 {a : Int} (h1 : 0 ≤ a) (h2 : a ≤ 255) : IntKind.i64.wrap a = a := I64.wrap ⟨by omega, by omega⟩

set_option maxRecDepth 20000 in
theorem refName_at (fn : Int) (h0 : 0 ≤ fn) (h1 : fn ≤ 255) (w : World) : Pure Try.prog 37 [.int .u8 fn] w (.string (refNameE fn)) := by
  obtain ⟨j, rfl⟩ := Int.eq_ofNat_of_zero_le h0
  refine fn_at Try.func37 rfl Try.ntmps37 rfl ?_
  have hg : ∀ h : j < 51, ((emptyB :: namesL).map Value.string)[0 + j * 1]? = some (.string ((emptyB :: namesL).getD j emptyB)) := by
    intro h
    have : j < (emptyB :: namesL).length := h
    rw [show 0 + j * 1 = j by omega]
    simp only [List.getElem?_map, List.getD_eq_getElem?_getD, List.getElem?_eq_getElem this]
    rfl
  repeat' (first
    | ((with_reducible apply wl_v); exact rfl; (with_reducible apply v_conv_id); exact rfl; exact wrap_i64 h0 h1)
    | ((with_reducible apply wl_v); exact rfl; (with_reducible apply v_indexAddr (j := j)); exact rfl; exact rfl; omega)
    | ((with_reducible apply wl_v); exact rfl; (with_reducible apply v_load_own); exact rfl; (repeat first | exact .hd | apply Sel.tl | apply In.tl); exact hg (by omega))
    | ((with_reducible apply wl_v); exact rfl; (first | ((with_reducible apply vop_ok); exact rfl) | ((with_reducible apply v_len); exact rfl) | ((with_reducible apply v_lens); exact rfl) | ((with_reducible apply v_load_box); exact rfl; (repeat first | exact .hd | apply Sel.tl | apply In.tl); exact rfl) | ((with_reducible apply v_loadw_box); exact rfl; (repeat first | exact .hd | apply Sel.tl | apply In.tl); exact rfl) | ((with_reducible apply v_loadn_box); exact rfl; (repeat first | exact .hd | apply Sel.tl | apply In.tl); exact rfl; exact rfl)))
    | ((with_reducible apply wl_buildSlice); exact rfl; exact rfl; exact rfl; exact rfl; exact rfl; exact rfl; exact rfl; intro _)
    | (with_reducible first | apply wl_nil | apply thn_n | apply w_seq | apply w_region | apply w_ret | apply w_skip | apply w_exit | apply w_block | apply thn_r | apply thn_e | apply blk_n | apply blk_r | apply blk_e)
    | ((with_reducible apply w_cond_true); exact rfl)
    | ((with_reducible apply w_cond_false); exact rfl)
    | ((with_reducible apply w_cond) <;> first | exact rfl | (intro hb; (replace hb := Tidy.out hb; try (exfalso; omega))))
    | ((with_reducible apply blk_x); exact rfl))
  · ((with_reducible apply ret1); exact .inl rfl; exact rfl; exact rfl; exact MSub.nil _)
    rw [refNameE, if_pos (by omega)]
    rfl
  · ((with_reducible apply ret1); exact .inl rfl; exact rfl; exact rfl; exact MSub.nil _)
    rw [refNameE, if_neg (by omega)]
    rfl

theorem refName_pos {i : Nat} (h : i < 50) : refNameE ((i : Int) + 1) = namesL[i]'h := by
  have h2 : i < namesL.length := h
  rw [refNameE, if_neg (by omega), show ((i : Int) + 1).toNat = i + 1 by omega]
  simp [h2]
  rfl

set_option maxRecDepth 20000 in
theorem refFunction_at (b : ByteArray) (w : World) : Pure Try.prog 36 [.string b] w (.tuple #[.int .u8 (functionE b).1, .int .i64 (functionE b).2]) := by
  refine fn_at Try.func36 rfl Try.ntmps36 rfl ?_
  repeat' (first
    | ((with_reducible apply wl_v); exact rfl; (first | ((with_reducible apply vop_ok); exact rfl) | ((with_reducible apply v_eqlb); exact rfl; exact rfl) | ((with_reducible apply v_neqb); exact rfl; exact rfl)))
    | (with_reducible first | apply wl_nil | apply thn_n | apply w_seq | apply w_region | apply w_ret | apply w_skip | apply w_exit | apply w_block | apply thn_r | apply thn_e | apply blk_n | apply blk_r | apply blk_e)
    | ((with_reducible apply w_cond_true); exact rfl)
    | ((with_reducible apply w_cond_false); exact rfl)
    | ((with_reducible apply w_cond) <;> first | exact rfl | (intro hb; (replace hb := Tidy.out hb; try (exfalso; omega))))
    | ((with_reducible apply blk_x); exact rfl))
  refine w_loop (fun i : Nat => [(0, .string b), (4, .int .u8 ((i : Int) + 1))]) (fun _ => []) (fun i => i ≤ 50 ∧ idxFrom namesL b 0 = idxFrom (namesL.drop i) b (i : Int)) (fun i => 50 - i) 0 ⟨by omega, rfl⟩ ?_ ?_ ?_
  · (repeat (first | exact Sub.nil _ | refine Sub.cons rfl ?_))
  · (repeat (first | exact MSub.nil _ | refine MSub.pick (by (repeat first | exact .hd | apply Sel.tl | apply In.tl)) ?_ | exact MSub.refl _ | refine MSub.drop .hd ?_))
  · rintro i ⟨hi, hrec⟩
    by_cases hlt : i < 50
    · have hl : i < namesL.length := hlt
      have hr : ∀ w, Pure Try.prog 37 [.int .u8 ((i : Int) + 1)] w (.string (namesL[i]'hl)) := fun w => refName_pos hlt ▸ refName_at _ (by omega) (by omega) w
      rw [List.drop_eq_getElem_cons hl, idxFrom] at hrec
      repeat' (first
        | ((with_reducible apply wl_callp); exact rfl; exact rfl; (intro w hm; exact hr w))
        | ((with_reducible apply wl_v); exact rfl; (with_reducible apply v_addw_id (c := ((i + 1 : Nat) : Int) + 1)); exact rfl; exact rfl; exact wrap_u8 (by omega) (by omega))
        | ((with_reducible apply wl_v); exact rfl; (first | ((with_reducible apply vop_ok); exact rfl) | ((with_reducible apply v_eqlb); exact rfl; exact rfl) | ((with_reducible apply v_neqb); exact rfl; exact rfl)))
        | (with_reducible first | apply wl_nil | apply thn_n | apply w_seq | apply w_region | apply w_ret | apply w_skip | apply w_exit | apply w_block | apply thn_r | apply thn_e | apply blk_n | apply blk_r | apply blk_e)
        | ((with_reducible apply w_cond_true); exact rfl)
        | ((with_reducible apply w_cond_false); exact rfl)
        | ((with_reducible apply w_cond) <;> first | exact rfl | (intro hb; (replace hb := Tidy.out hb; try (exfalso; omega))))
        | ((with_reducible apply blk_x); exact rfl))
      · refine ret2 (.inl rfl) Try.results36 rfl rfl (.nil _) ?_
        rw [functionE, hrec, if_pos hb.symm, if_neg (by omega)]
      · refine ⟨i + 1, ⟨by omega, ?_⟩, by omega, ?_, ?_⟩
        · rw [hrec, if_neg (fun h => hb h.symm)]
          rfl
        · (repeat (first | exact Sub.nil _ | refine Sub.cons rfl ?_))
        · (repeat (first | exact MSub.nil _ | refine MSub.pick (by (repeat first | exact .hd | apply Sel.tl | apply In.tl)) ?_ | exact MSub.refl _ | refine MSub.drop .hd ?_))
    · have e : i = 50 := by omega
      subst e
      repeat' (first
        | ((with_reducible apply wl_v); exact rfl; (first | ((with_reducible apply vop_ok); exact rfl) | ((with_reducible apply v_eqlb); exact rfl; exact rfl) | ((with_reducible apply v_neqb); exact rfl; exact rfl)))
        | (with_reducible first | apply wl_nil | apply thn_n | apply w_seq | apply w_region | apply w_ret | apply w_skip | apply w_exit | apply w_block | apply thn_r | apply thn_e | apply blk_n | apply blk_r | apply blk_e)
        | ((with_reducible apply w_cond_true); exact rfl)
        | ((with_reducible apply w_cond_false); exact rfl)
        | ((with_reducible apply w_cond) <;> first | exact rfl | (intro hb; (replace hb := Tidy.out hb; try (exfalso; omega))))
        | ((with_reducible apply blk_x); exact rfl))
      refine ret2 (.inl rfl) Try.results36 rfl rfl (.nil _) ?_
      rw [functionE, hrec]
      rfl

def refArityE (fn : Int) : Int × Int :=
  if fn = 5 ∨ fn = 6 ∨ fn = 7 ∨ fn = 25 ∨ fn = 39 ∨ fn = 40 ∨ fn = 18 ∨ fn = 19 ∨ fn = 45 ∨ fn = 44 then (2, 2)
  else if fn = 20 ∨ fn = 41 ∨ fn = 43 then (2, 3)
  else if fn = 32 ∨ fn = 33 then (1, 2)
  else if fn = 34 then (3, 3)
  else if fn = 21 ∨ fn = 22 ∨ fn = 23 ∨ fn = 38 ∨ fn = 9 ∨ fn = 10 ∨ fn = 11 ∨ fn = 12 ∨ fn = 14 ∨ fn = 15 ∨ fn = 16 ∨ fn = 17 then (1, 16)
  else if fn = 30 then (2, 16)
  else (1, 1)

set_option maxRecDepth 10000 in
theorem refArity_at (fn : Int) (w : World) : Pure Try.prog 38 [.int .u8 fn] w (.tuple #[.int .i64 (refArityE fn).1, .int .i64 (refArityE fn).2]) := by
  refine fn_at Try.func38 rfl Try.ntmps38 rfl ?_
  repeat' (first
    | ((with_reducible apply wl_v); exact rfl; (first | ((with_reducible apply vop_ok); exact rfl) | ((with_reducible apply v_eqlb); exact rfl; exact rfl) | ((with_reducible apply v_neqb); exact rfl; exact rfl)))
    | (with_reducible first | apply wl_nil | apply thn_n | apply w_seq | apply w_region | apply w_ret | apply w_skip | apply w_exit | apply w_block | apply thn_r | apply thn_e | apply blk_n | apply blk_r | apply blk_e)
    | ((with_reducible apply w_cond_true); exact rfl)
    | ((with_reducible apply w_cond_false); exact rfl)
    | ((with_reducible apply w_cond) <;> first | exact rfl | (intro hb; (replace hb := Tidy.out hb; try (exfalso; omega))))
    | ((with_reducible apply blk_x); exact rfl))
  all_goals (((with_reducible apply ret2); exact .inl rfl; exact rfl; exact rfl; exact rfl; exact MSub.nil _); simp_all [refArityE])

def refWideE (fn i : Int) : Bool :=
  if i < 0 ∨ (refArityE fn).2 ≤ i then false
  else if fn = 9 ∨ fn = 10 ∨ fn = 11 ∨ fn = 12 ∨ fn = 14 ∨ fn = 15 ∨ fn = 16 ∨ fn = 17 then true
  else if fn = 13 ∨ fn = 18 ∨ fn = 19 ∨ fn = 45 ∨ fn = 43 then decide (i = 0)
  else if fn = 44 then decide (i = 1)
  else decide (46 ≤ fn) && decide (fn ≤ 50)

set_option maxRecDepth 10000 in
theorem refWide_at (fn i : Int) (w : World) : Pure Try.prog 39 [.int .u8 fn, .int .i64 i] w (.bool (refWideE fn i)) := by
  refine fn_at Try.func39 rfl Try.ntmps39 rfl ?_
  repeat' (first
    | ((with_reducible apply wl_callp); exact rfl; exact rfl; (intro w hm; exact refArity_at fn w))
    | ((with_reducible apply wl_v); exact rfl; (first | ((with_reducible apply vop_ok); exact rfl) | ((with_reducible apply v_eqlb); exact rfl; exact rfl) | ((with_reducible apply v_neqb); exact rfl; exact rfl)))
    | ((with_reducible apply wl_gyes); exact rfl; exact rfl)
    | ((with_reducible apply wl_gno_b); exact rfl; exact rfl; exact rfl; exact rfl)
    | ((with_reducible apply wl_gno_u); exact rfl; exact rfl; exact rfl)
    | ((with_reducible apply wl_gsplit) <;> first | exact rfl | (intro hb; (replace hb := Tidy.out hb; try (exfalso; omega))))
    | (with_reducible first | apply wl_nil | apply thn_n | apply w_seq | apply w_region | apply w_ret | apply w_skip | apply w_exit | apply w_block | apply thn_r | apply thn_e | apply blk_n | apply blk_r | apply blk_e)
    | ((with_reducible apply w_cond_true); exact rfl)
    | ((with_reducible apply w_cond_false); exact rfl)
    | ((with_reducible apply w_cond) <;> first | exact rfl | (intro hb; (replace hb := Tidy.out hb; try (exfalso; omega))))
    | ((with_reducible apply blk_x); exact rfl))
  all_goals (((with_reducible apply ret1); exact .inl rfl; exact rfl; exact rfl; exact MSub.nil _); ((try simp only [← Int.not_lt] at *); simp_all [refWideE, -Int.not_lt, -Int.not_le, ← Int.not_lt]))

end Go.SL

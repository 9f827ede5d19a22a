/-
  law12.awake returns true.
-/
import Derived.Test.YtfkklicpnoeclaaW31
namespace Go.SL
open Go Go.Proofs
attribute [local irreducible] W WL WQ WG WA VOp thn blk cutP retP FnAt FnIn Held

def aT : List Nd := [k2, k3, j7, k6]
def aR1 : Rct := ⟨1, 1, 1, 1⟩
def aR2 : Rct := ⟨1, 1, 2, 2⟩
def aCall : Us := ⟨aR2, 2, 46⟩
def aU : List Us := [⟨aR1, -1, 0⟩, aCall]
def aM : List Nd := [⟨2, zeroV, ⟨2, 3, 2, 3⟩, 0, 0, 0⟩, ⟨3, zeroV, ⟨2, 3, 3, 4⟩, 0, 0, 0⟩, j7, k6]
theorem b_uses : usesE aT = (aU, 0) := by decide +kernel
theorem b_calls : callsE aT = ([aCall], 0) := by decide +kernel
theorem b_t1 : touchesE aT ⟨2, 2, 3, 3⟩ = (true, 0) := by decide +kernel
theorem b_t2 : touchesE aT ⟨3, 1, 3, 1⟩ = (false, 0) := by decide +kernel
theorem b_m1 : moveE aT 1 2 = (aM, 0) := by decide +kernel
theorem b_m2 : moveE aT (-1) 0 = ([], 3) := by decide +kernel

section
variable (w : World) (tv : Value) (h : Reads w tv 4 (aT.flatMap encN))
include h
theorem c_uses : FnAt Try.prog 40 [tv] w fun v H => ∃ A cap, v = .tuple #[sl A 2 cap, .int .i64 0] ∧ H = [.own A 68 6 2 cap (aU.flatMap encU)] := by
  have := Uses_at aT tv w h (by decide)
  rw [b_uses] at this
  exact this
theorem c_calls : FnAt Try.prog 42 [tv] w fun v H => ∃ A cap, v = .tuple #[sl A 1 cap, .int .i64 0] ∧ H = [.own A 68 6 1 cap ([aCall].flatMap encU)] := by
  have := Calls_at aT tv w h (by decide)
  rw [b_calls] at this
  exact this
theorem c_t1 : Pure Try.prog 44 [tv, .agg (encR ⟨2, 2, 3, 3⟩).toArray] w (.tuple #[.bool true, .int .i64 0]) := by
  have := Touches_at aT ⟨2, 2, 3, 3⟩ tv w h (by decide)
  rw [b_t1] at this
  exact this
theorem c_t2 : Pure Try.prog 44 [tv, .agg (encR ⟨3, 1, 3, 1⟩).toArray] w (.tuple #[.bool false, .int .i64 0]) := by
  have := Touches_at aT ⟨3, 1, 3, 1⟩ tv w h (by decide)
  rw [b_t2] at this
  exact this
theorem c_m1 : FnAt Try.prog 48 [tv, .int .i64 1, .int .i64 2] w fun v H => ∃ A cap, v = .tuple #[sl A 4 cap, .int .i64 0] ∧ H = [.own A 40 11 4 cap (aM.flatMap encN)] := by
  have := Move_at aT 1 2 tv w h (by decide)
  rw [b_m1] at this
  exact this
theorem c_m2 : FnAt Try.prog 48 [tv, .int .i64 (-1), .int .i64 0] w fun v H => ∃ A cap, v = .tuple #[sl A 0 cap, .int .i64 3] ∧ H = [.own A 40 11 0 cap []] := by
  have := Move_at aT (-1) 0 tv w h (by decide)
  rw [b_m2] at this
  exact this
end
theorem c_e1 (w : World) (a b : Value) (h1 : Reads w a 2 (aU.flatMap encU)) (h2 : Reads w b 2 (aU.flatMap encU)) : Pure Try.prog 46 [a, b] w (.bool true) := by
  have := EqualUses_at aU aU a b w h1 h2
  rw [decide_eq_true rfl] at this
  exact this
theorem c_e2 (w : World) (a b : Value) (h1 : Reads w a 1 ([aCall].flatMap encU)) (h2 : Reads w b 1 ([aCall].flatMap encU)) : Pure Try.prog 46 [a, b] w (.bool true) := by
  have := EqualUses_at [aCall] [aCall] a b w h1 h2
  rw [decide_eq_true rfl] at this
  exact this
theorem v_eqlRt {w0 : World} {s : Slots} {H : List Blk} {ty t' : TypeId} {x y : Operand} (a : Rct) (hx : ev s x = some (.agg (encR a).toArray)) (hy : ev s y = some (.agg (encR a).toArray)) : VOp Try.prog w0 s H (.binOp .eql 38 x y t') ty (.bool true) := by
  have h := v_eqlR (w0 := w0) (H := H) (ty := ty) (t' := t') hx hy
  rwa [eqR_iff.2 rfl] at h

set_option maxRecDepth 20000 in
set_option maxHeartbeats 4000000 in
theorem awake12_at (w : World) : Pure Try.prog 47 [] w (.bool true) := by
  refine fn_at Try.func47 rfl Try.ntmps47 rfl ?_
  repeat' (first
    | ((with_reducible apply wl_call); exact rfl; exact rfl; (intro w' hm; exact c_uses w' _ (Reads.of_row hm (by (repeat first | exact .hd | apply Sel.tl | apply In.tl)))); (rintro v H' ⟨A1, cap1, rfl, rfl⟩))
    | ((with_reducible apply wl_call); exact rfl; exact rfl; (intro w' hm; exact c_calls w' _ (Reads.of_row hm (by (repeat first | exact .hd | apply Sel.tl | apply In.tl)))); (rintro v H' ⟨A2, cap2, rfl, rfl⟩))
    | ((with_reducible apply wl_callp); exact rfl; exact rfl; (intro w' hm; exact c_t1 w' _ (Reads.of_row hm (by (repeat first | exact .hd | apply Sel.tl | apply In.tl)))))
    | ((with_reducible apply wl_callp); exact rfl; exact rfl; (intro w' hm; exact c_t2 w' _ (Reads.of_row hm (by (repeat first | exact .hd | apply Sel.tl | apply In.tl)))))
    | ((with_reducible apply wl_call); exact rfl; exact rfl; (intro w' hm; exact c_m1 w' _ (Reads.of_row hm (by (repeat first | exact .hd | apply Sel.tl | apply In.tl)))); (rintro v H' ⟨A3, cap3, rfl, rfl⟩; refine wl_some .hd (by decide) ?_; rintro g3 rfl))
    | ((with_reducible apply wl_call); exact rfl; exact rfl; (intro w' hm; exact c_m2 w' _ (Reads.of_row hm (by (repeat first | exact .hd | apply Sel.tl | apply In.tl)))); (rintro v H' ⟨A4, cap4, rfl, rfl⟩))
    | ((with_reducible apply wl_callp); exact rfl; exact rfl; (intro w' hm; exact c_e1 w' _ _ (Reads.of_own hm (by (repeat first | exact .hd | apply Sel.tl | apply In.tl))) (Reads.of_row hm (by (repeat first | exact .hd | apply Sel.tl | apply In.tl)))))
    | ((with_reducible apply wl_callp); exact rfl; exact rfl; (intro w' hm; exact c_e2 w' _ _ (Reads.of_own hm (by (repeat first | exact .hd | apply Sel.tl | apply In.tl))) (Reads.of_row hm (by (repeat first | exact .hd | apply Sel.tl | apply In.tl)))))
    | ((with_reducible apply wl_v (d := 106)); exact rfl; (with_reducible apply v_indexAddr (j := 0)); exact rfl; exact rfl; decide)
    | ((with_reducible apply wl_v (d := 114)); exact rfl; (with_reducible apply v_indexAddr (j := 1)); exact rfl; exact rfl; decide)
    | ((with_reducible apply wl_v (d := 108)); exact rfl; (with_reducible apply v_loads_own (ys := encR ⟨2, 3, 2, 3⟩)); exact rfl; (repeat first | exact .hd | apply Sel.tl | apply In.tl); exact rfl; exact rfl)
    | ((with_reducible apply wl_v (d := 116)); exact rfl; (with_reducible apply v_loads_own (ys := encR ⟨2, 3, 3, 4⟩)); exact rfl; (repeat first | exact .hd | apply Sel.tl | apply In.tl); exact rfl; exact rfl)
    | ((with_reducible apply wl_v (d := 110)); exact rfl; (with_reducible apply v_eqlRt ⟨2, 3, 2, 3⟩); exact rfl; exact rfl)
    | ((with_reducible apply wl_v (d := 118)); exact rfl; (with_reducible apply v_eqlRt ⟨2, 3, 3, 4⟩); exact rfl; exact rfl)
    | ((with_reducible apply wl_v); exact rfl; (first | ((with_reducible apply vop_ok); exact rfl) | ((with_reducible apply v_fieldAddr); exact rfl) | ((with_reducible apply v_len); exact rfl) | ((with_reducible apply v_lens); exact rfl) | ((with_reducible apply v_load_box); exact rfl; (repeat first | exact .hd | apply Sel.tl | apply In.tl); exact rfl) | ((with_reducible apply v_eqlb); exact rfl; exact rfl) | ((with_reducible apply v_neqb); exact rfl; exact rfl) | ((with_reducible apply v_loadw_box); exact rfl; (repeat first | exact .hd | apply Sel.tl | apply In.tl); exact rfl) | ((with_reducible apply v_loadn_box); exact rfl; (repeat first | exact .hd | apply Sel.tl | apply In.tl); exact rfl; exact rfl) | ((with_reducible apply v_build); exact rfl; exact rfl; exact rfl)))
    | ((with_reducible apply wl_gyes); exact rfl; exact rfl)
    | ((with_reducible apply wl_gno_b); exact rfl; exact rfl; exact rfl; exact rfl)
    | ((with_reducible apply wl_gno_u); exact rfl; exact rfl; exact rfl)
    | ((with_reducible apply wl_alloc); exact rfl; intro _)
    | ((with_reducible apply wl_storen_box); exact rfl; exact rfl; (repeat first | exact .hd | apply Sel.tl | apply In.tl); exact rfl; exact rfl; exact rfl)
    | ((with_reducible apply wl_putn_box); exact rfl; exact rfl; (repeat first | exact .hd | apply Sel.tl | apply In.tl); exact rfl; exact rfl; exact rfl; exact rfl)
    | ((with_reducible apply wl_buildSlice); exact rfl; exact rfl; exact rfl; exact rfl; exact rfl; exact rfl; exact rfl; intro _)
    | ((with_reducible apply wl_gsplit) <;> first | exact rfl | (intro hb; (replace hb := Tidy.out hb; try (exfalso; omega))))
    | (with_reducible first | apply wl_nil | apply thn_n | apply w_seq | apply w_region | apply w_ret | apply w_skip | apply w_exit | apply w_block | apply thn_r | apply thn_e | apply blk_n | apply blk_r | apply blk_e | apply wl_app_c | apply wl_app_n)
    | ((with_reducible apply w_cond_true); exact rfl)
    | ((with_reducible apply w_cond_false); exact rfl)
    | ((with_reducible apply w_cond) <;> first | exact rfl | (intro hb; (replace hb := Tidy.out hb; try (exfalso; omega))))
    | ((with_reducible apply blk_x); exact rfl))
  ((with_reducible apply ret1); exact .inl rfl; exact rfl; exact rfl; exact MSub.nil _)
  rfl
end Go.SL

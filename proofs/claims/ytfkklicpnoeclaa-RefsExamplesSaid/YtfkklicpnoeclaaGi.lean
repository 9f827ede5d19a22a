/-
  Lemmas and walks, packed: W27 W28 W29 W30 Tr5 W31 W32.
-/
import Derived.Test.YtfkklicpnoeclaaGd
import Derived.Test.YtfkklicpnoeclaaGb
set_option linter.unusedSimpArgs false
set_option linter.unusedVariables false
/-
  Uses: their cells and comparison; what packages refs and rect say of nodes and ranges.
-/
namespace Go.SL
open Go Go.Proofs

structure Us where
  rect : Rct
  node : Int
  fn : Int
def encU (u : Us) : List Value := [.int .i64 u.rect.c1, .int .i64 u.rect.r1, .int .i64 u.rect.c2, .int .i64 u.rect.r2, .int .i64 u.node, .int .u8 u.fn]
theorem encU_len (u : Us) : (encU u).length = 6 := rfl
def eqU (a b : Us) : Bool := eqR a.rect b.rect && (decide (a.node = b.node) && decide (a.fn = b.fn))
theorem eqU_iff {a b : Us} : eqU a b = true ↔ a = b := by
  obtain ⟨a1, a2, a3⟩ := a
  obtain ⟨b1, b2, b3⟩ := b
  simp [eqU, eqR_iff]
instance : DecidableEq Us := fun a b => decidable_of_iff (eqU a b = true) eqU_iff
theorem eqU_dec (a b : Us) : eqU a b = decide (a = b) := by
  cases h : eqU a b
  · symm; rw [decide_eq_false_iff_not, ← eqU_iff, h]; simp
  · symm; rw [decide_eq_true_eq, ← eqU_iff, h]

theorem run_eqU (w : World) (d : Nat) (a b : Us) : (Op.equalIn (d + 5) 68 (.agg (encU a).toArray) (.agg (encU b).toArray)).run Try.prog w = .ok (eqU a b) w := by
  rw [run_equalIn_agg w (d + 4) 68 _ _ (by rw [Program.fieldsOf, Try.underlying68]) Try.stoodInHeld68]
  simp only [Program.fieldsOf, Try.underlying68]
  have hr : ∀ w, (Op.equalIn (d + 4) 38 (.agg #[.int .i64 a.rect.c1, .int .i64 a.rect.r1, .int .i64 a.rect.c2, .int .i64 a.rect.r2]) (.agg #[.int .i64 b.rect.c1, .int .i64 b.rect.r1, .int .i64 b.rect.c2, .int .i64 b.rect.r2])).run Try.prog w = .ok (eqR a.rect b.rect) w := fun w => run_eqR w (d + 1) a.rect b.rect
  simp [Op.eqFields, encU, part, go_sem, beqI, eqU, hr]
  by_cases h3 : eqR a.rect b.rect = true <;> by_cases h4 : a.node = b.node <;> by_cases h5 : a.fn = b.fn <;> simp [h3, h4, h5]
theorem v_neqU {w0 : World} {s : Slots} {H : List Blk} {ty t' : TypeId} {x y : Operand} {a b : Us} (hx : ev s x = some (.agg (encU a).toArray)) (hy : ev s y = some (.agg (encU b).toArray)) : VOp Try.prog w0 s H (.binOp .neq 68 x y t') ty (.bool (!eqU a b)) := fun ρ w _ _ _ _ hρ _ => by
  have h := run_eqU w 9995 a b
  simp only [Nat.reduceAdd] at h
  simp only [execOp, hρ x _ hx, hρ y _ hy, Sem.run_bind, run_eqGuard_agg w _ _ _ _ _ _ Try.eqGuardType68, Result.andThen_ok, run_neq_struct, h, Sem.run_pure]

attribute [local irreducible] W WL WQ WG WA VOp thn blk cutP retP FnAt FnIn

set_option maxRecDepth 20000 in
theorem EqualUses_at (L M : List Us) (lv mv : Value) (w : World) (hl : Reads w lv L.length (L.flatMap encU)) (hm : Reads w mv M.length (M.flatMap encU)) :
    Pure Try.prog 46 [lv, mv] w (.bool (decide (L = M))) := by
  obtain ⟨Al, cl, rfl, hl1, hl2, hl3⟩ := hl
  obtain ⟨Am, cm, rfl, hm1, hm2, hm3⟩ := hm
  refine fn_at Try.func46 rfl Try.ntmps46 rfl ?_
  by_cases hlen : L.length = M.length
  · repeat' (first
      | ((with_reducible apply wl_v); exact rfl; (first | ((with_reducible apply vop_ok); exact rfl) | ((with_reducible apply v_len); exact rfl) | ((with_reducible apply v_lens); exact rfl) | ((with_reducible apply v_load_box); exact rfl; (repeat first | exact .hd | apply Sel.tl | apply In.tl); exact rfl) | ((with_reducible apply v_eqlb); exact rfl; exact rfl) | ((with_reducible apply v_neqb); exact rfl; exact rfl) | ((with_reducible apply v_loadw_box); exact rfl; (repeat first | exact .hd | apply Sel.tl | apply In.tl); exact rfl) | ((with_reducible apply v_loadn_box); exact rfl; (repeat first | exact .hd | apply Sel.tl | apply In.tl); exact rfl; exact rfl)))
      | (with_reducible first | apply wl_nil | apply thn_n | apply w_seq | apply w_region | apply w_ret | apply w_skip | apply w_exit | apply w_block | apply thn_r | apply thn_e | apply blk_n | apply blk_r | apply blk_e)
      | ((with_reducible apply w_cond_true); exact rfl)
      | ((with_reducible apply w_cond_false); exact rfl)
      | ((with_reducible apply w_cond) <;> first | exact rfl | (intro hb; (replace hb := Tidy.out hb; try (exfalso; omega))))
      | ((with_reducible apply blk_x); exact rfl))
    refine w_loop (fun i : Nat => [(0, .slice Al L.length cl), (1, .slice Am M.length cm), (5, .int .i64 (i : Int))]) (fun _ => []) (fun i => i ≤ L.length ∧ decide (L = M) = decide (L.drop i = M.drop i)) (fun i => L.length - i) 0 ⟨by omega, rfl⟩ ?_ ?_ ?_
    · (repeat (first | exact Sub.nil _ | refine Sub.cons rfl ?_))
    · (repeat (first | exact MSub.nil _ | refine MSub.pick (by (repeat first | exact .hd | apply Sel.tl | apply In.tl)) ?_ | exact MSub.refl _ | refine MSub.drop .hd ?_))
    · rintro i ⟨hi, hrec⟩
      by_cases hlt : i < L.length
      · have hlt2 : i < M.length := by omega
        obtain ⟨gl, ol, rfl, hrl⟩ := hl3 (by omega)
        obtain ⟨gm, om, rfl, hrm⟩ := hm3 (by omega)
        have he1 := hrl.elem encU_len i hlt
        have he2 := hrm.elem encU_len i hlt2
        rw [eq_drop hlt hlt2, ← eqU_dec] at hrec
        repeat' (first
          | ((with_reducible apply wq_v); exact rfl; (with_reducible apply v_indexAddr); exact rfl; exact rfl; (first | exact hlt | exact hlt2))
          | ((with_reducible apply wq_v); exact rfl; (with_reducible apply v_loadw_ro); exact rfl; (first | exact he1 | exact he2); exact rfl)
          | ((with_reducible apply wq_v); exact rfl; (with_reducible apply v_neqU); exact rfl; exact rfl)
          | ((with_reducible apply wl_v); exact rfl; (with_reducible apply v_succN); exact rfl; exact rfl; (simp only [maxLen] at *; omega))
          | ((with_reducible first | apply wl_v | apply wq_v); exact rfl; (first | ((with_reducible apply vop_ok); exact rfl) | ((with_reducible apply v_len); exact rfl) | ((with_reducible apply v_lens); exact rfl) | ((with_reducible apply v_load_box); exact rfl; (repeat first | exact .hd | apply Sel.tl | apply In.tl); exact rfl) | ((with_reducible apply v_eqlb); exact rfl; exact rfl) | ((with_reducible apply v_neqb); exact rfl; exact rfl) | ((with_reducible apply v_loadw_box); exact rfl; (repeat first | exact .hd | apply Sel.tl | apply In.tl); exact rfl) | ((with_reducible apply v_loadn_box); exact rfl; (repeat first | exact .hd | apply Sel.tl | apply In.tl); exact rfl; exact rfl)))
          | (with_reducible first | apply wl_nil | apply thn_n | apply w_seq | apply w_region | apply w_ret | apply w_skip | apply w_exit | apply w_block | apply thn_r | apply thn_e | apply blk_n | apply blk_r | apply blk_e | apply wq_nil)
          | ((with_reducible apply w_cond_true); exact rfl)
          | ((with_reducible apply w_cond_false); exact rfl)
          | ((with_reducible apply w_cond) <;> first | exact rfl | (intro hb; (replace hb := Tidy.out hb; try (exfalso; omega))))
          | ((with_reducible apply blk_x); exact rfl)
          | ((with_reducible apply w_draw); kernel_rfl; kernel_rfl))
        · ((with_reducible apply ret1); exact .inl rfl; exact rfl; exact rfl; exact MSub.nil _)
          rw [hrec, hb]
          rfl
        · refine ⟨i + 1, ⟨by omega, ?_⟩, by omega, ?_, ?_⟩
          · rw [hrec, hb]
            rfl
          · (repeat (first | exact Sub.nil _ | refine Sub.cons rfl ?_))
          · (repeat (first | exact MSub.nil _ | refine MSub.pick (by (repeat first | exact .hd | apply Sel.tl | apply In.tl)) ?_ | exact MSub.refl _ | refine MSub.drop .hd ?_))
      · have e : i = L.length := by omega
        subst e
        repeat' (first
          | ((with_reducible apply wl_v); exact rfl; (first | ((with_reducible apply vop_ok); exact rfl) | ((with_reducible apply v_len); exact rfl) | ((with_reducible apply v_lens); exact rfl) | ((with_reducible apply v_load_box); exact rfl; (repeat first | exact .hd | apply Sel.tl | apply In.tl); exact rfl) | ((with_reducible apply v_eqlb); exact rfl; exact rfl) | ((with_reducible apply v_neqb); exact rfl; exact rfl) | ((with_reducible apply v_loadw_box); exact rfl; (repeat first | exact .hd | apply Sel.tl | apply In.tl); exact rfl) | ((with_reducible apply v_loadn_box); exact rfl; (repeat first | exact .hd | apply Sel.tl | apply In.tl); exact rfl; exact rfl)))
          | (with_reducible first | apply wl_nil | apply thn_n | apply w_seq | apply w_region | apply w_ret | apply w_skip | apply w_exit | apply w_block | apply thn_r | apply thn_e | apply blk_n | apply blk_r | apply blk_e)
          | ((with_reducible apply w_cond_true); exact rfl)
          | ((with_reducible apply w_cond_false); exact rfl)
          | ((with_reducible apply w_cond) <;> first | exact rfl | (intro hb; (replace hb := Tidy.out hb; try (exfalso; omega))))
          | ((with_reducible apply blk_x); exact rfl))
        ((with_reducible apply ret1); exact .inl rfl; exact rfl; exact rfl; exact MSub.nil _)
        rw [hrec, List.drop_length, hlen, List.drop_length]
        rfl
  · repeat' (first
      | ((with_reducible apply wl_v); exact rfl; (first | ((with_reducible apply vop_ok); exact rfl) | ((with_reducible apply v_len); exact rfl) | ((with_reducible apply v_lens); exact rfl) | ((with_reducible apply v_load_box); exact rfl; (repeat first | exact .hd | apply Sel.tl | apply In.tl); exact rfl) | ((with_reducible apply v_eqlb); exact rfl; exact rfl) | ((with_reducible apply v_neqb); exact rfl; exact rfl) | ((with_reducible apply v_loadw_box); exact rfl; (repeat first | exact .hd | apply Sel.tl | apply In.tl); exact rfl) | ((with_reducible apply v_loadn_box); exact rfl; (repeat first | exact .hd | apply Sel.tl | apply In.tl); exact rfl; exact rfl)))
      | (with_reducible first | apply wl_nil | apply thn_n | apply w_seq | apply w_region | apply w_ret | apply w_skip | apply w_exit | apply w_block | apply thn_r | apply thn_e | apply blk_n | apply blk_r | apply blk_e)
      | ((with_reducible apply w_cond_true); exact rfl)
      | ((with_reducible apply w_cond_false); exact rfl)
      | ((with_reducible apply w_cond) <;> first | exact rfl | (intro hb; (replace hb := Tidy.out hb; try (exfalso; omega))))
      | ((with_reducible apply blk_x); exact rfl))
    ((with_reducible apply ret1); exact .inl rfl; exact rfl; exact rfl; exact MSub.nil _)
    rw [decide_eq_false]
    intro e
    exact hlen (congrArg List.length e)

def rangesF (n : Nd) : Bool := decide (n.kind = 2) || decide (n.kind = 3)
theorem ranges_at (n : Nd) (w : World) : Pure Try.prog 72 [.agg (encN n).toArray] w (.bool (rangesF n)) := by
  refine fn_at Try.func72 rfl Try.ntmps72 rfl ?_
  repeat' (first
    | ((with_reducible apply wl_v); exact rfl; (first | ((with_reducible apply vop_ok); exact rfl) | ((with_reducible apply v_fieldAddr); exact rfl) | ((with_reducible apply v_load_box); exact rfl; (repeat first | exact .hd | apply Sel.tl | apply In.tl); exact rfl) | ((with_reducible apply v_eqlb); exact rfl; exact rfl) | ((with_reducible apply v_neqb); exact rfl; exact rfl) | ((with_reducible apply v_loadw_box); exact rfl; (repeat first | exact .hd | apply Sel.tl | apply In.tl); exact rfl) | ((with_reducible apply v_loadn_box); exact rfl; (repeat first | exact .hd | apply Sel.tl | apply In.tl); exact rfl; exact rfl)))
    | ((with_reducible apply wl_gyes); exact rfl; exact rfl)
    | ((with_reducible apply wl_gno_b); exact rfl; exact rfl; exact rfl; exact rfl)
    | ((with_reducible apply wl_gno_u); exact rfl; exact rfl; exact rfl)
    | ((with_reducible apply wl_boxs); exact rfl; exact rfl; intro _)
    | ((with_reducible apply wl_box1); exact rfl; exact rfl; exact rfl; intro _)
    | ((with_reducible apply wl_gsplit) <;> first | exact rfl | (intro hb; (replace hb := Tidy.out hb; try (exfalso; omega))))
    | (with_reducible first | apply wl_nil | apply thn_n | apply w_seq | apply w_region | apply w_ret | apply w_skip | apply w_exit | apply w_block | apply thn_r | apply thn_e | apply blk_n | apply blk_r | apply blk_e)
    | ((with_reducible apply w_cond_true); exact rfl)
    | ((with_reducible apply w_cond_false); exact rfl)
    | ((with_reducible apply w_cond) <;> first | exact rfl | (intro hb; (replace hb := Tidy.out hb; try (exfalso; omega))))
    | ((with_reducible apply blk_x); exact rfl))
  all_goals
    ((with_reducible apply ret1); exact .inl rfl; exact rfl; exact rfl; exact MSub.nil _)
    simp [rangesF, *]

theorem encR_len (r : Rct) : (encR r).length = 4 := rfl
set_option maxRecDepth 20000 in
theorem all_at (L : List Rct) (lv : Value) (w : World) (hl : Reads w lv L.length (L.flatMap encR)) : Pure Try.prog 75 [lv] w (.bool (L.all rectOk)) := by
  obtain ⟨Al, cl, rfl, hl1, hl2, hl3⟩ := hl
  refine fn_at Try.func75 rfl Try.ntmps75 rfl ?_
  repeat' (first
    | ((with_reducible apply wl_v); exact rfl; (first | ((with_reducible apply vop_ok); exact rfl) | ((with_reducible apply v_len); exact rfl) | ((with_reducible apply v_lens); exact rfl) | ((with_reducible apply v_load_box); exact rfl; (repeat first | exact .hd | apply Sel.tl | apply In.tl); exact rfl) | ((with_reducible apply v_eqlb); exact rfl; exact rfl) | ((with_reducible apply v_neqb); exact rfl; exact rfl) | ((with_reducible apply v_loadw_box); exact rfl; (repeat first | exact .hd | apply Sel.tl | apply In.tl); exact rfl) | ((with_reducible apply v_loadn_box); exact rfl; (repeat first | exact .hd | apply Sel.tl | apply In.tl); exact rfl; exact rfl)))
    | ((with_reducible apply wl_alloc); exact rfl; intro _)
    | ((with_reducible apply wl_storen_box); exact rfl; exact rfl; (repeat first | exact .hd | apply Sel.tl | apply In.tl); exact rfl; exact rfl; exact rfl)
    | ((with_reducible apply wl_putn_box); exact rfl; exact rfl; (repeat first | exact .hd | apply Sel.tl | apply In.tl); exact rfl; exact rfl; exact rfl; exact rfl)
    | (with_reducible first | apply wl_nil | apply thn_n | apply w_seq | apply w_region | apply w_ret | apply w_skip | apply w_exit | apply w_block | apply thn_r | apply thn_e | apply blk_n | apply blk_r | apply blk_e)
    | ((with_reducible apply w_cond_true); exact rfl)
    | ((with_reducible apply w_cond_false); exact rfl)
    | ((with_reducible apply w_cond) <;> first | exact rfl | (intro hb; (replace hb := Tidy.out hb; try (exfalso; omega))))
    | ((with_reducible apply blk_x); exact rfl))
  refine w_loop (fun i : Nat => [(5, .slice Al L.length cl), (6, .int .i64 (L.length : Int)), (7, .int .i64 (i : Int))]) (fun _ => []) (fun i => i ≤ L.length ∧ L.all rectOk = (L.drop i).all rectOk) (fun i => L.length - i) 0 ⟨by omega, rfl⟩ ?_ ?_ ?_
  · (repeat (first | exact Sub.nil _ | refine Sub.cons rfl ?_))
  · (repeat (first | exact MSub.nil _ | refine MSub.pick (by (repeat first | exact .hd | apply Sel.tl | apply In.tl)) ?_ | exact MSub.refl _ | refine MSub.drop .hd ?_))
  · rintro i ⟨hi, hrec⟩
    by_cases hlt : i < L.length
    · obtain ⟨gl, ol, rfl, hrl⟩ := hl3 (by omega)
      have he1 := hrl.elem encR_len i hlt
      rw [List.drop_eq_getElem_cons hlt, List.all_cons] at hrec
      generalize L[i] = r at hrec he1
      repeat' (first
        | ((with_reducible apply wl_callp); exact rfl; exact rfl; (intro w hm; exact rect_at r w))
        | ((with_reducible apply wl_v); exact rfl; (first | ((with_reducible apply vop_ok); exact rfl) | ((with_reducible apply v_len); exact rfl) | ((with_reducible apply v_lens); exact rfl) | ((with_reducible apply v_load_box); exact rfl; (repeat first | exact .hd | apply Sel.tl | apply In.tl); exact rfl) | ((with_reducible apply v_eqlb); exact rfl; exact rfl) | ((with_reducible apply v_neqb); exact rfl; exact rfl) | ((with_reducible apply v_loadw_box); exact rfl; (repeat first | exact .hd | apply Sel.tl | apply In.tl); exact rfl) | ((with_reducible apply v_loadn_box); exact rfl; (repeat first | exact .hd | apply Sel.tl | apply In.tl); exact rfl; exact rfl)))
        | ((with_reducible apply wl_alloc); exact rfl; intro _)
        | ((with_reducible apply wl_storen_box); exact rfl; exact rfl; (repeat first | exact .hd | apply Sel.tl | apply In.tl); exact rfl; exact rfl; exact rfl)
        | ((with_reducible apply wl_putn_box); exact rfl; exact rfl; (repeat first | exact .hd | apply Sel.tl | apply In.tl); exact rfl; exact rfl; exact rfl; exact rfl)
        | (with_reducible first | apply wl_nil | apply thn_n | apply w_seq | apply w_region | apply w_ret | apply w_skip | apply w_exit | apply w_block | apply thn_r | apply thn_e | apply blk_n | apply blk_r | apply blk_e)
        | ((with_reducible apply w_cond_true); exact rfl)
        | ((with_reducible apply w_cond_false); exact rfl)
        | ((with_reducible apply w_cond) <;> first | exact rfl | (intro hb; (replace hb := Tidy.out hb; try (exfalso; omega))))
        | ((with_reducible apply blk_x); exact rfl)
        | ((with_reducible apply wl_v); exact rfl; (with_reducible apply v_succN); exact rfl; exact rfl; (simp only [maxLen] at *; omega))
        | ((with_reducible apply wl_v); exact rfl; (with_reducible apply v_1addN); exact rfl; exact rfl; (simp only [maxLen] at *; omega))
        | ((with_reducible apply wl_v); exact rfl; (with_reducible apply v_addN); exact rfl; exact rfl; (simp only [maxLen] at *; omega))
        | ((with_reducible apply wl_v); exact rfl; (with_reducible apply v_indexAddr); exact rfl; exact rfl; (first | assumption | omega))
        | ((with_reducible apply wl_v); exact rfl; (with_reducible apply v_loadw_ro); exact rfl; assumption; exact rfl)
        | ((with_reducible apply wl_v); exact rfl; (with_reducible apply v_load1_ro); exact rfl; assumption)
        | ((with_reducible apply wl_v); exact rfl; (with_reducible apply v_loadf_ro); exact rfl; assumption; exact rfl))
      · ((with_reducible apply ret1); exact .inl rfl; exact rfl; exact rfl; exact MSub.nil _)
        rw [hrec]
        cases hq : rectOk r <;> simp [rectE, hq] at hb ⊢
      · refine ⟨i + 1, ⟨by omega, ?_⟩, by omega, ?_, ?_⟩
        · rw [hrec]
          cases hq : rectOk r <;> simp [rectE, hq] at hb ⊢
        · (repeat (first | exact Sub.nil _ | refine Sub.cons rfl ?_))
        · (repeat (first | exact MSub.nil _ | refine MSub.pick (by (repeat first | exact .hd | apply Sel.tl | apply In.tl)) ?_ | exact MSub.refl _ | refine MSub.drop .hd ?_))
    · have e : i = L.length := by omega
      subst e
      repeat' (first
        | ((with_reducible apply wl_v); exact rfl; (first | ((with_reducible apply vop_ok); exact rfl) | ((with_reducible apply v_len); exact rfl) | ((with_reducible apply v_lens); exact rfl) | ((with_reducible apply v_load_box); exact rfl; (repeat first | exact .hd | apply Sel.tl | apply In.tl); exact rfl) | ((with_reducible apply v_eqlb); exact rfl; exact rfl) | ((with_reducible apply v_neqb); exact rfl; exact rfl) | ((with_reducible apply v_loadw_box); exact rfl; (repeat first | exact .hd | apply Sel.tl | apply In.tl); exact rfl) | ((with_reducible apply v_loadn_box); exact rfl; (repeat first | exact .hd | apply Sel.tl | apply In.tl); exact rfl; exact rfl)))
        | ((with_reducible apply wl_alloc); exact rfl; intro _)
        | ((with_reducible apply wl_storen_box); exact rfl; exact rfl; (repeat first | exact .hd | apply Sel.tl | apply In.tl); exact rfl; exact rfl; exact rfl)
        | ((with_reducible apply wl_putn_box); exact rfl; exact rfl; (repeat first | exact .hd | apply Sel.tl | apply In.tl); exact rfl; exact rfl; exact rfl; exact rfl)
        | (with_reducible first | apply wl_nil | apply thn_n | apply w_seq | apply w_region | apply w_ret | apply w_skip | apply w_exit | apply w_block | apply thn_r | apply thn_e | apply blk_n | apply blk_r | apply blk_e)
        | ((with_reducible apply w_cond_true); exact rfl)
        | ((with_reducible apply w_cond_false); exact rfl)
        | ((with_reducible apply w_cond) <;> first | exact rfl | (intro hb; (replace hb := Tidy.out hb; try (exfalso; omega))))
        | ((with_reducible apply blk_x); exact rfl))
      ((with_reducible apply ret1); exact .inl rfl; exact rfl; exact rfl; exact MSub.nil _)
      rw [hrec, List.drop_length]
      rfl

def meetM (a b : Rct) : Rct := ⟨if a.c1 < b.c1 then b.c1 else a.c1, if a.r1 < b.r1 then b.r1 else a.r1, if b.c2 < a.c2 then b.c2 else a.c2, if b.r2 < a.r2 then b.r2 else a.r2⟩
def meetR (a b : Rct) : Rct × Bool := if [a, b, meetM a b].all rectOk = true then (meetM a b, true) else (zeroR, false)
set_option maxRecDepth 20000 in
theorem Meet_at (a b : Rct) (w : World) : Pure Try.prog 51 [.agg (encR a).toArray, .agg (encR b).toArray] w (.tuple #[.agg (encR (meetR a b).1).toArray, .bool (meetR a b).2]) := by
  refine fn_at Try.func51 rfl Try.ntmps51 rfl ?_
  have hall := fun (lv : Value) (w : World) => all_at [a, b, meetM a b] lv w
  unfold meetR
  generalize [a, b, meetM a b].all rectOk = q at hall
  repeat' (first
    | ((with_reducible apply wl_callp); exact rfl; exact rfl; (intro w hm; exact hall _ w (Reads.of_row hm (by (repeat first | exact .hd | apply Sel.tl | apply In.tl)))))
    | ((with_reducible apply wl_v); exact rfl; (first | ((with_reducible apply vop_ok); exact rfl) | ((with_reducible apply v_fieldAddr); exact rfl) | ((with_reducible apply v_load_box); exact rfl; (repeat first | exact .hd | apply Sel.tl | apply In.tl); exact rfl) | ((with_reducible apply v_max); exact rfl; exact rfl) | ((with_reducible apply v_min); exact rfl; exact rfl) | ((with_reducible apply v_loadw_box); exact rfl; (repeat first | exact .hd | apply Sel.tl | apply In.tl); exact rfl) | ((with_reducible apply v_loadn_box); exact rfl; (repeat first | exact .hd | apply Sel.tl | apply In.tl); exact rfl; exact rfl) | ((with_reducible apply v_build); exact rfl; exact rfl; exact rfl)))
    | ((with_reducible apply wl_boxs); exact rfl; exact rfl; intro _)
    | ((with_reducible apply wl_box1); exact rfl; exact rfl; exact rfl; intro _)
    | ((with_reducible apply wl_alloc); exact rfl; intro _)
    | ((with_reducible apply wl_storen_box); exact rfl; exact rfl; (repeat first | exact .hd | apply Sel.tl | apply In.tl); exact rfl; exact rfl; exact rfl)
    | ((with_reducible apply wl_putn_box); exact rfl; exact rfl; (repeat first | exact .hd | apply Sel.tl | apply In.tl); exact rfl; exact rfl; exact rfl; exact rfl)
    | ((with_reducible apply wl_buildSlice); exact rfl; exact rfl; exact rfl; exact rfl; exact rfl; exact rfl; exact rfl; intro _)
    | (with_reducible first | apply wl_nil | apply thn_n | apply w_seq | apply w_region | apply w_ret | apply w_skip | apply w_exit | apply w_block | apply thn_r | apply thn_e | apply blk_n | apply blk_r | apply blk_e)
    | ((with_reducible apply w_cond_true); exact rfl)
    | ((with_reducible apply w_cond_false); exact rfl)
    | ((with_reducible apply w_cond) <;> first | exact rfl | (intro hb; (replace hb := Tidy.out hb; try (exfalso; omega))))
    | ((with_reducible apply blk_x); exact rfl))
  · refine retct (.inl rfl) Try.results51 rfl (by (repeat first | exact .hd | apply Sel.tl | apply In.tl)) rfl rfl (MSub.nil _) ?_
    simp [hb, zeroR, encR]
  · refine retct (.inl rfl) Try.results51 rfl (by (repeat first | exact .hd | apply Sel.tl | apply In.tl)) rfl rfl (MSub.nil _) ?_
    simp [hb, meetM, encR]
end Go.SL

/-
  The iterator of package refs hands yield the uses of a tree, in order.
-/
namespace Go.SL
open Go Go.Proofs
attribute [local irreducible] W WL WQ WG WA VOp thn blk cutP retP FnAt FnIn WLI

def useOf (n : Nd) (i : Nat) (r : List Nd) : Us := match r with
  | m :: _ => if m.kind = 7 ∧ 46 ≤ m.fn then ⟨n.rect, ((i + 1 : Nat) : Int), m.fn⟩ else ⟨n.rect, -1, 0⟩
  | [] => ⟨n.rect, -1, 0⟩
def usesFrom : List Nd → Nat → List Us
  | [], _ => []
  | n :: r, i => bif rangesF n then useOf n i r :: usesFrom r (i + 1) else usesFrom r (i + 1)
def usesF (L : List Nd) : List Us := usesFrom L 0

set_option maxRecDepth 20000 in
set_option maxHeartbeats 4000000 in
theorem uses_seq (L : List Nd) (tv : Value) (w0 : World) (ht : Reads w0 tv L.length (L.flatMap encN)) (hlen : L.length ≤ 1000000) (g : Nat) :
    Seqs Try.prog 81 [.pointer (some ⟨g, 0, none⟩)] w0 [.box g 22 [tv]] (usesF L) (fun u => [.agg (encU u).toArray]) := by
  obtain ⟨Al, cl, rfl, hl1, hl2, hl3⟩ := ht
  intro l I J H0 hy h0
  refine FnIn.msub (H' := .box g 22 [.slice Al L.length cl] :: H0) ?_ (MSub.rot (MSub.refl _))
  refine fn_in Try.func81 rfl Try.ntmps81 rfl ?_
  repeat' (first
    | ((with_reducible apply wl_v); exact rfl; (first | ((with_reducible apply vop_ok); exact rfl) | ((with_reducible apply v_fieldAddr); exact rfl) | ((with_reducible apply v_len); exact rfl) | ((with_reducible apply v_lens); exact rfl) | ((with_reducible apply v_load_box); exact rfl; (repeat first | exact .hd | apply Sel.tl | apply In.tl); exact rfl) | ((with_reducible apply v_eqlb); exact rfl; exact rfl) | ((with_reducible apply v_neqb); exact rfl; exact rfl) | ((with_reducible apply v_loadw_box); exact rfl; (repeat first | exact .hd | apply Sel.tl | apply In.tl); exact rfl) | ((with_reducible apply v_loadn_box); exact rfl; (repeat first | exact .hd | apply Sel.tl | apply In.tl); exact rfl; exact rfl) | ((with_reducible apply v_build); exact rfl; exact rfl; exact rfl)))
    | ((with_reducible apply wl_gyes); exact rfl; exact rfl)
    | ((with_reducible apply wl_gno_b); exact rfl; exact rfl; exact rfl; exact rfl)
    | ((with_reducible apply wl_gno_u); exact rfl; exact rfl; exact rfl)
    | ((with_reducible apply wl_alloc); exact rfl; intro _)
    | ((with_reducible apply wl_storen_box); exact rfl; exact rfl; (repeat first | exact .hd | apply Sel.tl | apply In.tl); exact rfl; exact rfl; exact rfl)
    | ((with_reducible apply wl_putn_box); exact rfl; exact rfl; (repeat first | exact .hd | apply Sel.tl | apply In.tl); exact rfl; exact rfl; exact rfl; exact rfl)
    | ((with_reducible apply wl_gsplit) <;> first | exact rfl | (intro hb; (replace hb := Tidy.out hb; try (exfalso; omega))))
    | (with_reducible first | apply wl_nil | apply thn_n | apply w_seq | apply w_region | apply w_ret | apply w_skip | apply w_exit | apply w_block | apply thn_r | apply thn_e | apply blk_n | apply blk_r | apply blk_e)
    | ((with_reducible apply w_cond_true); exact rfl)
    | ((with_reducible apply w_cond_false); exact rfl)
    | ((with_reducible apply w_cond) <;> first | exact rfl | (intro hb; (replace hb := Tidy.out hb; try (exfalso; omega))))
    | ((with_reducible apply blk_x); exact rfl))
  refine w_loop (fun y : Nat × List Us × List Blk => [(0, .func (.yield l) #[] #[]), (1, .pointer (some ⟨g, 0, none⟩)), (6, .slice Al L.length cl), (7, .int .i64 (L.length : Int)), (8, .int .i64 (y.1 : Int))])
    (fun y => .box g 22 [.slice Al L.length cl] :: y.2.2)
    (fun y => y.1 ≤ L.length ∧ usesF L = y.2.1 ++ usesFrom (L.drop y.1) y.1 ∧ I y.2.1 y.2.2) (fun y => L.length - y.1) (0, [], H0) ⟨by omega, rfl, h0⟩ ?_ ?_ ?_
  · (repeat (first | exact Sub.nil _ | refine Sub.cons rfl ?_))
  · exact MSub.refl _
  rintro ⟨i, pre, H1⟩ ⟨hi, hus, hI⟩
  dsimp only at hi hus hI ⊢
  by_cases hlt : i < L.length
  · obtain ⟨gl, ol, rfl, hrl⟩ := hl3 (by omega)
    have he := hrl.elem encN_len i hlt
    rw [List.drop_eq_getElem_cons hlt, usesFrom] at hus
    generalize hn : L[i] = n at hus he
    have hran := fun w => ranges_at n w
    have next : ∀ (us : List Us) (HU : List Blk), usesF L = us ++ usesFrom (L.drop (i + 1)) (i + 1) → I us HU → i + 1 ≤ L.length ∧ usesF L = us ++ usesFrom (L.drop (i + 1)) (i + 1) ∧ I us HU := fun us HU h1 h2 => ⟨hlt, h1, h2⟩
    generalize rangesF n = q at hus hran
    cases q
    · rw [cond_false] at hus
      repeat' (first
        | ((with_reducible apply wl_callp); exact rfl; exact rfl; (intro w hm; exact hran w))
        | ((with_reducible apply wl_v); exact rfl; (first | ((with_reducible apply vop_ok); exact rfl) | ((with_reducible apply v_fieldAddr); exact rfl) | ((with_reducible apply v_len); exact rfl) | ((with_reducible apply v_lens); exact rfl) | ((with_reducible apply v_load_box); exact rfl; (repeat first | exact .hd | apply Sel.tl | apply In.tl); exact rfl) | ((with_reducible apply v_eqlb); exact rfl; exact rfl) | ((with_reducible apply v_neqb); exact rfl; exact rfl) | ((with_reducible apply v_loadw_box); exact rfl; (repeat first | exact .hd | apply Sel.tl | apply In.tl); exact rfl) | ((with_reducible apply v_loadn_box); exact rfl; (repeat first | exact .hd | apply Sel.tl | apply In.tl); exact rfl; exact rfl) | ((with_reducible apply v_build); exact rfl; exact rfl; exact rfl)))
        | ((with_reducible apply wl_gyes); exact rfl; exact rfl)
        | ((with_reducible apply wl_gno_b); exact rfl; exact rfl; exact rfl; exact rfl)
        | ((with_reducible apply wl_gno_u); exact rfl; exact rfl; exact rfl)
        | ((with_reducible apply wl_alloc); exact rfl; intro _)
        | ((with_reducible apply wl_storen_box); exact rfl; exact rfl; (repeat first | exact .hd | apply Sel.tl | apply In.tl); exact rfl; exact rfl; exact rfl)
        | ((with_reducible apply wl_putn_box); exact rfl; exact rfl; (repeat first | exact .hd | apply Sel.tl | apply In.tl); exact rfl; exact rfl; exact rfl; exact rfl)
        | ((with_reducible apply wl_gsplit) <;> first | exact rfl | (intro hb; (replace hb := Tidy.out hb; try (exfalso; omega))))
        | (with_reducible first | apply wl_nil | apply thn_n | apply w_seq | apply w_region | apply w_ret | apply w_skip | apply w_exit | apply w_block | apply thn_r | apply thn_e | apply blk_n | apply blk_r | apply blk_e)
        | ((with_reducible apply w_cond_true); exact rfl)
        | ((with_reducible apply w_cond_false); exact rfl)
        | ((with_reducible apply w_cond) <;> first | exact rfl | (intro hb; (replace hb := Tidy.out hb; try (exfalso; omega))))
        | ((with_reducible apply blk_x); exact rfl)
        | ((with_reducible apply wl_v); exact rfl; (with_reducible apply v_succN); exact rfl; exact rfl; (simp only [maxLen] at *; omega))
        | ((with_reducible apply wl_v); exact rfl; (with_reducible apply v_1addN); exact rfl; exact rfl; (simp only [maxLen] at *; omega))
        | ((with_reducible apply wl_v); exact rfl; (with_reducible apply v_addN); exact rfl; exact rfl; (simp only [maxLen] at *; omega))
        | ((with_reducible apply wl_v); exact rfl; (with_reducible apply v_indexAddr); exact rfl; exact rfl; (first | assumption | omega))
        | ((with_reducible apply wl_v); exact rfl; (with_reducible apply v_loadw_ro); exact rfl; assumption; exact rfl)
        | ((with_reducible apply wl_v); exact rfl; (with_reducible apply v_load1_ro); exact rfl; assumption)
        | ((with_reducible apply wl_v); exact rfl; (with_reducible apply v_loadf_ro); exact rfl; assumption; exact rfl))
      refine ⟨(i + 1, pre, H1), next _ _ hus hI, (by dsimp only; omega), ?_, ?_⟩
      · (repeat (first | exact Sub.nil _ | refine Sub.cons rfl ?_))
      · (repeat (first | exact MSub.nil _ | refine MSub.pick (by (repeat first | exact .hd | apply Sel.tl | apply In.tl)) ?_ | exact MSub.refl _ | refine MSub.drop .hd ?_))
    rw [cond_true] at hus
    by_cases hn1 : i + 1 < L.length
    · have he1 := hrl.elem encN_len (i + 1) hn1
      have hd := List.drop_eq_getElem_cons hn1
      generalize L[i + 1] = m at he1 hd
      by_cases hrel : m.kind = 7 ∧ 46 ≤ m.fn
      · have hu : useOf n i (L.drop (i + 1)) = ⟨n.rect, ((i + 1 : Nat) : Int), m.fn⟩ := by rw [hd]; simp only [useOf, if_pos hrel]
        rw [hu] at hus
        repeat' (first
          | ((with_reducible apply wl_callp); exact rfl; exact rfl; (intro w hm; exact hran w))
          | ((with_reducible apply w_regionI (id := 7)))
          | ((with_reducible apply w_drawB (id := 6) (T := 68) (fun D => [.int .i64 n.rect.c1, .int .i64 n.rect.r1, .int .i64 n.rect.c2, .int .i64 n.rect.r2, .int .i64 (bif D 9 then ((i + 1 : Nat) : Int) else -1), .int .u8 (bif D 11 then m.fn else 0)]) (xs' := [.int .i64 n.rect.c1, .int .i64 n.rect.r1, .int .i64 n.rect.c2, .int .i64 n.rect.r2, .int .i64 ((i + 1 : Nat) : Int), .int .u8 m.fn])); kernel_rfl; kernel_rfl; exact .hd; exact rfl; (intro D hD; simp only [hD 9 (by decide), hD 11 (by decide), cond_true]))
          | ((with_reducible apply wg_v); exact rfl; (intro D ht; first | ((with_reducible apply v_succN); exact rfl; exact rfl; (simp only [maxLen] at *; omega)) | ((with_reducible apply v_indexAddr); exact rfl; exact rfl; (first | assumption | omega)) | ((with_reducible apply v_loadf_ro); exact rfl; assumption; exact rfl)); exact fun _ => rfl)
          | ((with_reducible apply wl_v); exact rfl; (first | ((with_reducible apply vop_ok); exact rfl) | ((with_reducible apply v_fieldAddr); exact rfl) | ((with_reducible apply v_len); exact rfl) | ((with_reducible apply v_lens); exact rfl) | ((with_reducible apply v_load_box); exact rfl; (repeat first | exact .hd | apply Sel.tl | apply In.tl); exact rfl) | ((with_reducible apply v_eqlb); exact rfl; exact rfl) | ((with_reducible apply v_neqb); exact rfl; exact rfl) | ((with_reducible apply v_loadw_box); exact rfl; (repeat first | exact .hd | apply Sel.tl | apply In.tl); exact rfl) | ((with_reducible apply v_loadn_box); exact rfl; (repeat first | exact .hd | apply Sel.tl | apply In.tl); exact rfl; exact rfl) | ((with_reducible apply v_build); exact rfl; exact rfl; exact rfl)))
          | ((with_reducible apply wli_v); exact rfl; exact rfl; (first | ((with_reducible apply vop_ok); exact rfl) | ((with_reducible apply v_fieldAddr); exact rfl) | ((with_reducible apply v_len); exact rfl) | ((with_reducible apply v_lens); exact rfl) | ((with_reducible apply v_load_box); exact rfl; (repeat first | exact .hd | apply Sel.tl | apply In.tl); exact rfl) | ((with_reducible apply v_eqlb); exact rfl; exact rfl) | ((with_reducible apply v_neqb); exact rfl; exact rfl) | ((with_reducible apply v_loadw_box); exact rfl; (repeat first | exact .hd | apply Sel.tl | apply In.tl); exact rfl) | ((with_reducible apply v_loadn_box); exact rfl; (repeat first | exact .hd | apply Sel.tl | apply In.tl); exact rfl; exact rfl) | ((with_reducible apply v_build); exact rfl; exact rfl; exact rfl)))
          | ((with_reducible apply wl_gyes); exact rfl; exact rfl)
          | ((with_reducible apply wl_gno_b); exact rfl; exact rfl; exact rfl; exact rfl)
          | ((with_reducible apply wl_gno_u); exact rfl; exact rfl; exact rfl)
          | ((with_reducible apply wl_alloc); exact rfl; intro _)
          | ((with_reducible apply wl_storen_box); exact rfl; exact rfl; (repeat first | exact .hd | apply Sel.tl | apply In.tl); exact rfl; exact rfl; exact rfl)
          | ((with_reducible apply wl_putn_box); exact rfl; exact rfl; (repeat first | exact .hd | apply Sel.tl | apply In.tl); exact rfl; exact rfl; exact rfl; exact rfl)
          | ((with_reducible apply wl_gsplit) <;> first | exact rfl | (intro hb; (replace hb := Tidy.out hb; try (exfalso; omega))))
          | (with_reducible first | apply wl_nil | apply thn_n | apply w_seq | apply w_region | apply w_ret | apply w_skip | apply w_exit | apply w_block | apply thn_r | apply thn_e | apply blk_n | apply blk_r | apply blk_e | apply wg_nil | apply wli_nil)
          | ((with_reducible apply w_cond_true); exact rfl)
          | ((with_reducible apply w_cond_false); exact rfl)
          | ((with_reducible apply w_cond) <;> first | exact rfl | (intro hb; (replace hb := Tidy.out hb; try (exfalso; omega))))
          | ((with_reducible apply blk_x); exact rfl)
          | ((with_reducible apply wl_v); exact rfl; (with_reducible apply v_succN); exact rfl; exact rfl; (simp only [maxLen] at *; omega))
          | ((with_reducible apply wl_v); exact rfl; (with_reducible apply v_1addN); exact rfl; exact rfl; (simp only [maxLen] at *; omega))
          | ((with_reducible apply wl_v); exact rfl; (with_reducible apply v_addN); exact rfl; exact rfl; (simp only [maxLen] at *; omega))
          | ((with_reducible apply wl_v); exact rfl; (with_reducible apply v_indexAddr); exact rfl; exact rfl; (first | assumption | omega))
          | ((with_reducible apply wl_v); exact rfl; (with_reducible apply v_loadw_ro); exact rfl; assumption; exact rfl)
          | ((with_reducible apply wl_v); exact rfl; (with_reducible apply v_load1_ro); exact rfl; assumption)
          | ((with_reducible apply wl_v); exact rfl; (with_reducible apply v_loadf_ro); exact rfl; assumption; exact rfl)
          | ((with_reducible apply wg_v); exact rfl; (intro D ht; (first | ((with_reducible apply vop_ok); exact rfl) | ((with_reducible apply v_fieldAddr); exact rfl) | ((with_reducible apply v_len); exact rfl) | ((with_reducible apply v_lens); exact rfl) | ((with_reducible apply v_load_box); exact rfl; (repeat first | exact .hd | apply Sel.tl | apply In.tl); exact rfl) | ((with_reducible apply v_eqlb); exact rfl; exact rfl) | ((with_reducible apply v_neqb); exact rfl; exact rfl) | ((with_reducible apply v_loadw_box); exact rfl; (repeat first | exact .hd | apply Sel.tl | apply In.tl); exact rfl) | ((with_reducible apply v_loadn_box); exact rfl; (repeat first | exact .hd | apply Sel.tl | apply In.tl); exact rfl; exact rfl) | ((with_reducible apply v_build); exact rfl; exact rfl; exact rfl))); exact fun _ => rfl)
          | (refine wg_put _ _ rfl rfl (fun D => .hd) rfl rfl rfl (fun _ => Nat.le_of_ble_eq_true rfl) (fun D ht => .refl _) ?_)
          | ((with_reducible apply wg_l (f := 60)); exact rfl; decide +kernel; exact rfl; (first | ((with_reducible apply vop_ok); exact rfl) | ((with_reducible apply v_fieldAddr); exact rfl) | ((with_reducible apply v_len); exact rfl) | ((with_reducible apply v_lens); exact rfl) | ((with_reducible apply v_load_box); exact rfl; (repeat first | exact .hd | apply Sel.tl | apply In.tl); exact rfl) | ((with_reducible apply v_eqlb); exact rfl; exact rfl) | ((with_reducible apply v_neqb); exact rfl; exact rfl) | ((with_reducible apply v_loadw_box); exact rfl; (repeat first | exact .hd | apply Sel.tl | apply In.tl); exact rfl) | ((with_reducible apply v_loadn_box); exact rfl; (repeat first | exact .hd | apply Sel.tl | apply In.tl); exact rfl; exact rfl) | ((with_reducible apply v_build); exact rfl; exact rfl; exact rfl))))
        (with_reducible apply wli_yieldB)
        · exact rfl
        · exact rfl
        · exact rfl
        · exact MSub.app3
        · exact fun w hm => hy pre ⟨n.rect, ((i + 1 : Nat) : Int), m.fn⟩ _ hus H1 _ hI w hm
        intro bb H2 hq
        cases bb
        · repeat' (first
            | ((with_reducible apply wl_v); exact rfl; (first | ((with_reducible apply vop_ok); exact rfl) | ((with_reducible apply v_fieldAddr); exact rfl) | ((with_reducible apply v_len); exact rfl) | ((with_reducible apply v_lens); exact rfl) | ((with_reducible apply v_load_box); exact rfl; (repeat first | exact .hd | apply Sel.tl | apply In.tl); exact rfl) | ((with_reducible apply v_eqlb); exact rfl; exact rfl) | ((with_reducible apply v_neqb); exact rfl; exact rfl) | ((with_reducible apply v_loadw_box); exact rfl; (repeat first | exact .hd | apply Sel.tl | apply In.tl); exact rfl) | ((with_reducible apply v_loadn_box); exact rfl; (repeat first | exact .hd | apply Sel.tl | apply In.tl); exact rfl; exact rfl) | ((with_reducible apply v_build); exact rfl; exact rfl; exact rfl)))
            | ((with_reducible apply wli_v); exact rfl; exact rfl; (first | ((with_reducible apply vop_ok); exact rfl) | ((with_reducible apply v_fieldAddr); exact rfl) | ((with_reducible apply v_len); exact rfl) | ((with_reducible apply v_lens); exact rfl) | ((with_reducible apply v_load_box); exact rfl; (repeat first | exact .hd | apply Sel.tl | apply In.tl); exact rfl) | ((with_reducible apply v_eqlb); exact rfl; exact rfl) | ((with_reducible apply v_neqb); exact rfl; exact rfl) | ((with_reducible apply v_loadw_box); exact rfl; (repeat first | exact .hd | apply Sel.tl | apply In.tl); exact rfl) | ((with_reducible apply v_loadn_box); exact rfl; (repeat first | exact .hd | apply Sel.tl | apply In.tl); exact rfl; exact rfl) | ((with_reducible apply v_build); exact rfl; exact rfl; exact rfl)))
            | ((with_reducible apply wl_gyes); exact rfl; exact rfl)
            | ((with_reducible apply wl_gno_b); exact rfl; exact rfl; exact rfl; exact rfl)
            | ((with_reducible apply wl_gno_u); exact rfl; exact rfl; exact rfl)
            | ((with_reducible apply wl_alloc); exact rfl; intro _)
            | ((with_reducible apply wl_storen_box); exact rfl; exact rfl; (repeat first | exact .hd | apply Sel.tl | apply In.tl); exact rfl; exact rfl; exact rfl)
            | ((with_reducible apply wl_putn_box); exact rfl; exact rfl; (repeat first | exact .hd | apply Sel.tl | apply In.tl); exact rfl; exact rfl; exact rfl; exact rfl)
            | ((with_reducible apply wl_gsplit) <;> first | exact rfl | (intro hb; (replace hb := Tidy.out hb; try (exfalso; omega))))
            | (with_reducible first | apply wl_nil | apply thn_n | apply w_seq | apply w_region | apply w_ret | apply w_skip | apply w_exit | apply w_block | apply thn_r | apply thn_e | apply blk_n | apply blk_r | apply blk_e | apply wli_nil)
            | ((with_reducible apply w_cond_true); exact rfl)
            | ((with_reducible apply w_cond_false); exact rfl)
            | ((with_reducible apply w_cond) <;> first | exact rfl | (intro hb; (replace hb := Tidy.out hb; try (exfalso; omega))))
            | ((with_reducible apply blk_x); exact rfl))
          exact ret0 (by first | exact .inl rfl | exact .inr rfl) Try.results81 (H' := H2 ++ [.box g 22 [.slice (some ⟨gl, ol, none⟩) L.length cl]]) MSub.app3r ⟨H2, .inr ⟨_, hq⟩, MSub.refl _⟩
        · repeat' (first
            | ((with_reducible apply wl_v); exact rfl; (first | ((with_reducible apply vop_ok); exact rfl) | ((with_reducible apply v_fieldAddr); exact rfl) | ((with_reducible apply v_len); exact rfl) | ((with_reducible apply v_lens); exact rfl) | ((with_reducible apply v_load_box); exact rfl; (repeat first | exact .hd | apply Sel.tl | apply In.tl); exact rfl) | ((with_reducible apply v_eqlb); exact rfl; exact rfl) | ((with_reducible apply v_neqb); exact rfl; exact rfl) | ((with_reducible apply v_loadw_box); exact rfl; (repeat first | exact .hd | apply Sel.tl | apply In.tl); exact rfl) | ((with_reducible apply v_loadn_box); exact rfl; (repeat first | exact .hd | apply Sel.tl | apply In.tl); exact rfl; exact rfl) | ((with_reducible apply v_build); exact rfl; exact rfl; exact rfl)))
            | ((with_reducible apply wli_v); exact rfl; exact rfl; (first | ((with_reducible apply vop_ok); exact rfl) | ((with_reducible apply v_fieldAddr); exact rfl) | ((with_reducible apply v_len); exact rfl) | ((with_reducible apply v_lens); exact rfl) | ((with_reducible apply v_load_box); exact rfl; (repeat first | exact .hd | apply Sel.tl | apply In.tl); exact rfl) | ((with_reducible apply v_eqlb); exact rfl; exact rfl) | ((with_reducible apply v_neqb); exact rfl; exact rfl) | ((with_reducible apply v_loadw_box); exact rfl; (repeat first | exact .hd | apply Sel.tl | apply In.tl); exact rfl) | ((with_reducible apply v_loadn_box); exact rfl; (repeat first | exact .hd | apply Sel.tl | apply In.tl); exact rfl; exact rfl) | ((with_reducible apply v_build); exact rfl; exact rfl; exact rfl)))
            | ((with_reducible apply wl_gyes); exact rfl; exact rfl)
            | ((with_reducible apply wl_gno_b); exact rfl; exact rfl; exact rfl; exact rfl)
            | ((with_reducible apply wl_gno_u); exact rfl; exact rfl; exact rfl)
            | ((with_reducible apply wl_alloc); exact rfl; intro _)
            | ((with_reducible apply wl_storen_box); exact rfl; exact rfl; (repeat first | exact .hd | apply Sel.tl | apply In.tl); exact rfl; exact rfl; exact rfl)
            | ((with_reducible apply wl_putn_box); exact rfl; exact rfl; (repeat first | exact .hd | apply Sel.tl | apply In.tl); exact rfl; exact rfl; exact rfl; exact rfl)
            | ((with_reducible apply wl_gsplit) <;> first | exact rfl | (intro hb; (replace hb := Tidy.out hb; try (exfalso; omega))))
            | (with_reducible first | apply wl_nil | apply thn_n | apply w_seq | apply w_region | apply w_ret | apply w_skip | apply w_exit | apply w_block | apply thn_r | apply thn_e | apply blk_n | apply blk_r | apply blk_e | apply wli_nil)
            | ((with_reducible apply w_cond_true); exact rfl)
            | ((with_reducible apply w_cond_false); exact rfl)
            | ((with_reducible apply w_cond) <;> first | exact rfl | (intro hb; (replace hb := Tidy.out hb; try (exfalso; omega))))
            | ((with_reducible apply blk_x); exact rfl)
            | ((with_reducible apply wl_v); exact rfl; (with_reducible apply v_succN); exact rfl; exact rfl; (simp only [maxLen] at *; omega))
            | ((with_reducible apply wl_v); exact rfl; (with_reducible apply v_1addN); exact rfl; exact rfl; (simp only [maxLen] at *; omega))
            | ((with_reducible apply wl_v); exact rfl; (with_reducible apply v_addN); exact rfl; exact rfl; (simp only [maxLen] at *; omega)))
          refine ⟨(i + 1, _, H2), next _ _ (hus.trans (by rw [List.append_assoc]; rfl)) hq, (by dsimp only; omega), ?_, ?_⟩
          · (repeat (first | exact Sub.nil _ | refine Sub.cons rfl ?_))
          · exact MSub.app3'

      · have hu : useOf n i (L.drop (i + 1)) = ⟨n.rect, -1, 0⟩ := by rw [hd]; simp only [useOf, if_neg hrel]
        rw [hu] at hus
        repeat' (first
          | ((with_reducible apply wl_callp); exact rfl; exact rfl; (intro w hm; exact hran w))
          | ((with_reducible apply w_regionI (id := 7)))
          | ((with_reducible apply wl_v); exact rfl; (first | ((with_reducible apply vop_ok); exact rfl) | ((with_reducible apply v_fieldAddr); exact rfl) | ((with_reducible apply v_len); exact rfl) | ((with_reducible apply v_lens); exact rfl) | ((with_reducible apply v_load_box); exact rfl; (repeat first | exact .hd | apply Sel.tl | apply In.tl); exact rfl) | ((with_reducible apply v_eqlb); exact rfl; exact rfl) | ((with_reducible apply v_neqb); exact rfl; exact rfl) | ((with_reducible apply v_loadw_box); exact rfl; (repeat first | exact .hd | apply Sel.tl | apply In.tl); exact rfl) | ((with_reducible apply v_loadn_box); exact rfl; (repeat first | exact .hd | apply Sel.tl | apply In.tl); exact rfl; exact rfl) | ((with_reducible apply v_build); exact rfl; exact rfl; exact rfl)))
          | ((with_reducible apply wli_v); exact rfl; exact rfl; (first | ((with_reducible apply vop_ok); exact rfl) | ((with_reducible apply v_fieldAddr); exact rfl) | ((with_reducible apply v_len); exact rfl) | ((with_reducible apply v_lens); exact rfl) | ((with_reducible apply v_load_box); exact rfl; (repeat first | exact .hd | apply Sel.tl | apply In.tl); exact rfl) | ((with_reducible apply v_eqlb); exact rfl; exact rfl) | ((with_reducible apply v_neqb); exact rfl; exact rfl) | ((with_reducible apply v_loadw_box); exact rfl; (repeat first | exact .hd | apply Sel.tl | apply In.tl); exact rfl) | ((with_reducible apply v_loadn_box); exact rfl; (repeat first | exact .hd | apply Sel.tl | apply In.tl); exact rfl; exact rfl) | ((with_reducible apply v_build); exact rfl; exact rfl; exact rfl)))
          | ((with_reducible apply wl_gyes); exact rfl; exact rfl)
          | ((with_reducible apply wl_gno_b); exact rfl; exact rfl; exact rfl; exact rfl)
          | ((with_reducible apply wl_gno_u); exact rfl; exact rfl; exact rfl)
          | ((with_reducible apply wl_alloc); exact rfl; intro _)
          | ((with_reducible apply wl_storen_box); exact rfl; exact rfl; (repeat first | exact .hd | apply Sel.tl | apply In.tl); exact rfl; exact rfl; exact rfl)
          | ((with_reducible apply wl_putn_box); exact rfl; exact rfl; (repeat first | exact .hd | apply Sel.tl | apply In.tl); exact rfl; exact rfl; exact rfl; exact rfl)
          | ((with_reducible apply wl_gsplit) <;> first | exact rfl | (intro hb; (replace hb := Tidy.out hb; try (exfalso; omega))))
          | (with_reducible first | apply wl_nil | apply thn_n | apply w_seq | apply w_region | apply w_ret | apply w_skip | apply w_exit | apply w_block | apply thn_r | apply thn_e | apply blk_n | apply blk_r | apply blk_e | apply wli_nil)
          | ((with_reducible apply w_cond_true); exact rfl)
          | ((with_reducible apply w_cond_false); exact rfl)
          | ((with_reducible apply w_cond) <;> first | exact rfl | (intro hb; (replace hb := Tidy.out hb; try (exfalso; omega))))
          | ((with_reducible apply blk_x); exact rfl)
          | ((with_reducible apply wl_v); exact rfl; (with_reducible apply v_succN); exact rfl; exact rfl; (simp only [maxLen] at *; omega))
          | ((with_reducible apply wl_v); exact rfl; (with_reducible apply v_1addN); exact rfl; exact rfl; (simp only [maxLen] at *; omega))
          | ((with_reducible apply wl_v); exact rfl; (with_reducible apply v_addN); exact rfl; exact rfl; (simp only [maxLen] at *; omega))
          | ((with_reducible apply wl_v); exact rfl; (with_reducible apply v_indexAddr); exact rfl; exact rfl; (first | assumption | omega))
          | ((with_reducible apply wl_v); exact rfl; (with_reducible apply v_loadw_ro); exact rfl; assumption; exact rfl)
          | ((with_reducible apply wl_v); exact rfl; (with_reducible apply v_load1_ro); exact rfl; assumption)
          | ((with_reducible apply wl_v); exact rfl; (with_reducible apply v_loadf_ro); exact rfl; assumption; exact rfl))
        all_goals
          (with_reducible apply wli_yieldB)
          · exact rfl
          · exact rfl
          · exact rfl
          · exact MSub.app3
          · exact fun w hm => hy pre ⟨n.rect, -1, 0⟩ _ hus H1 _ hI w hm
          intro bb H2 hq
          cases bb
          · repeat' (first
              | ((with_reducible apply wl_v); exact rfl; (first | ((with_reducible apply vop_ok); exact rfl) | ((with_reducible apply v_fieldAddr); exact rfl) | ((with_reducible apply v_len); exact rfl) | ((with_reducible apply v_lens); exact rfl) | ((with_reducible apply v_load_box); exact rfl; (repeat first | exact .hd | apply Sel.tl | apply In.tl); exact rfl) | ((with_reducible apply v_eqlb); exact rfl; exact rfl) | ((with_reducible apply v_neqb); exact rfl; exact rfl) | ((with_reducible apply v_loadw_box); exact rfl; (repeat first | exact .hd | apply Sel.tl | apply In.tl); exact rfl) | ((with_reducible apply v_loadn_box); exact rfl; (repeat first | exact .hd | apply Sel.tl | apply In.tl); exact rfl; exact rfl) | ((with_reducible apply v_build); exact rfl; exact rfl; exact rfl)))
              | ((with_reducible apply wli_v); exact rfl; exact rfl; (first | ((with_reducible apply vop_ok); exact rfl) | ((with_reducible apply v_fieldAddr); exact rfl) | ((with_reducible apply v_len); exact rfl) | ((with_reducible apply v_lens); exact rfl) | ((with_reducible apply v_load_box); exact rfl; (repeat first | exact .hd | apply Sel.tl | apply In.tl); exact rfl) | ((with_reducible apply v_eqlb); exact rfl; exact rfl) | ((with_reducible apply v_neqb); exact rfl; exact rfl) | ((with_reducible apply v_loadw_box); exact rfl; (repeat first | exact .hd | apply Sel.tl | apply In.tl); exact rfl) | ((with_reducible apply v_loadn_box); exact rfl; (repeat first | exact .hd | apply Sel.tl | apply In.tl); exact rfl; exact rfl) | ((with_reducible apply v_build); exact rfl; exact rfl; exact rfl)))
              | ((with_reducible apply wl_gyes); exact rfl; exact rfl)
              | ((with_reducible apply wl_gno_b); exact rfl; exact rfl; exact rfl; exact rfl)
              | ((with_reducible apply wl_gno_u); exact rfl; exact rfl; exact rfl)
              | ((with_reducible apply wl_alloc); exact rfl; intro _)
              | ((with_reducible apply wl_storen_box); exact rfl; exact rfl; (repeat first | exact .hd | apply Sel.tl | apply In.tl); exact rfl; exact rfl; exact rfl)
              | ((with_reducible apply wl_putn_box); exact rfl; exact rfl; (repeat first | exact .hd | apply Sel.tl | apply In.tl); exact rfl; exact rfl; exact rfl; exact rfl)
              | ((with_reducible apply wl_gsplit) <;> first | exact rfl | (intro hb; (replace hb := Tidy.out hb; try (exfalso; omega))))
              | (with_reducible first | apply wl_nil | apply thn_n | apply w_seq | apply w_region | apply w_ret | apply w_skip | apply w_exit | apply w_block | apply thn_r | apply thn_e | apply blk_n | apply blk_r | apply blk_e | apply wli_nil)
              | ((with_reducible apply w_cond_true); exact rfl)
              | ((with_reducible apply w_cond_false); exact rfl)
              | ((with_reducible apply w_cond) <;> first | exact rfl | (intro hb; (replace hb := Tidy.out hb; try (exfalso; omega))))
              | ((with_reducible apply blk_x); exact rfl))
            exact ret0 (by first | exact .inl rfl | exact .inr rfl) Try.results81 (H' := H2 ++ [.box g 22 [.slice (some ⟨gl, ol, none⟩) L.length cl]]) MSub.app3r ⟨H2, .inr ⟨_, hq⟩, MSub.refl _⟩
          · repeat' (first
              | ((with_reducible apply wl_v); exact rfl; (first | ((with_reducible apply vop_ok); exact rfl) | ((with_reducible apply v_fieldAddr); exact rfl) | ((with_reducible apply v_len); exact rfl) | ((with_reducible apply v_lens); exact rfl) | ((with_reducible apply v_load_box); exact rfl; (repeat first | exact .hd | apply Sel.tl | apply In.tl); exact rfl) | ((with_reducible apply v_eqlb); exact rfl; exact rfl) | ((with_reducible apply v_neqb); exact rfl; exact rfl) | ((with_reducible apply v_loadw_box); exact rfl; (repeat first | exact .hd | apply Sel.tl | apply In.tl); exact rfl) | ((with_reducible apply v_loadn_box); exact rfl; (repeat first | exact .hd | apply Sel.tl | apply In.tl); exact rfl; exact rfl) | ((with_reducible apply v_build); exact rfl; exact rfl; exact rfl)))
              | ((with_reducible apply wli_v); exact rfl; exact rfl; (first | ((with_reducible apply vop_ok); exact rfl) | ((with_reducible apply v_fieldAddr); exact rfl) | ((with_reducible apply v_len); exact rfl) | ((with_reducible apply v_lens); exact rfl) | ((with_reducible apply v_load_box); exact rfl; (repeat first | exact .hd | apply Sel.tl | apply In.tl); exact rfl) | ((with_reducible apply v_eqlb); exact rfl; exact rfl) | ((with_reducible apply v_neqb); exact rfl; exact rfl) | ((with_reducible apply v_loadw_box); exact rfl; (repeat first | exact .hd | apply Sel.tl | apply In.tl); exact rfl) | ((with_reducible apply v_loadn_box); exact rfl; (repeat first | exact .hd | apply Sel.tl | apply In.tl); exact rfl; exact rfl) | ((with_reducible apply v_build); exact rfl; exact rfl; exact rfl)))
              | ((with_reducible apply wl_gyes); exact rfl; exact rfl)
              | ((with_reducible apply wl_gno_b); exact rfl; exact rfl; exact rfl; exact rfl)
              | ((with_reducible apply wl_gno_u); exact rfl; exact rfl; exact rfl)
              | ((with_reducible apply wl_alloc); exact rfl; intro _)
              | ((with_reducible apply wl_storen_box); exact rfl; exact rfl; (repeat first | exact .hd | apply Sel.tl | apply In.tl); exact rfl; exact rfl; exact rfl)
              | ((with_reducible apply wl_putn_box); exact rfl; exact rfl; (repeat first | exact .hd | apply Sel.tl | apply In.tl); exact rfl; exact rfl; exact rfl; exact rfl)
              | ((with_reducible apply wl_gsplit) <;> first | exact rfl | (intro hb; (replace hb := Tidy.out hb; try (exfalso; omega))))
              | (with_reducible first | apply wl_nil | apply thn_n | apply w_seq | apply w_region | apply w_ret | apply w_skip | apply w_exit | apply w_block | apply thn_r | apply thn_e | apply blk_n | apply blk_r | apply blk_e | apply wli_nil)
              | ((with_reducible apply w_cond_true); exact rfl)
              | ((with_reducible apply w_cond_false); exact rfl)
              | ((with_reducible apply w_cond) <;> first | exact rfl | (intro hb; (replace hb := Tidy.out hb; try (exfalso; omega))))
              | ((with_reducible apply blk_x); exact rfl)
              | ((with_reducible apply wl_v); exact rfl; (with_reducible apply v_succN); exact rfl; exact rfl; (simp only [maxLen] at *; omega))
              | ((with_reducible apply wl_v); exact rfl; (with_reducible apply v_1addN); exact rfl; exact rfl; (simp only [maxLen] at *; omega))
              | ((with_reducible apply wl_v); exact rfl; (with_reducible apply v_addN); exact rfl; exact rfl; (simp only [maxLen] at *; omega)))
            refine ⟨(i + 1, _, H2), next _ _ (hus.trans (by rw [List.append_assoc]; rfl)) hq, (by dsimp only; omega), ?_, ?_⟩
            · (repeat (first | exact Sub.nil _ | refine Sub.cons rfl ?_))
            · exact MSub.app3'

    · have hu : useOf n i (L.drop (i + 1)) = ⟨n.rect, -1, 0⟩ := by rw [List.drop_of_length_le (by omega)]; rfl
      rw [hu] at hus
      repeat' (first
        | ((with_reducible apply wl_callp); exact rfl; exact rfl; (intro w hm; exact hran w))
        | ((with_reducible apply w_regionI (id := 7)))
        | ((with_reducible apply wl_v); exact rfl; (first | ((with_reducible apply vop_ok); exact rfl) | ((with_reducible apply v_fieldAddr); exact rfl) | ((with_reducible apply v_len); exact rfl) | ((with_reducible apply v_lens); exact rfl) | ((with_reducible apply v_load_box); exact rfl; (repeat first | exact .hd | apply Sel.tl | apply In.tl); exact rfl) | ((with_reducible apply v_eqlb); exact rfl; exact rfl) | ((with_reducible apply v_neqb); exact rfl; exact rfl) | ((with_reducible apply v_loadw_box); exact rfl; (repeat first | exact .hd | apply Sel.tl | apply In.tl); exact rfl) | ((with_reducible apply v_loadn_box); exact rfl; (repeat first | exact .hd | apply Sel.tl | apply In.tl); exact rfl; exact rfl) | ((with_reducible apply v_build); exact rfl; exact rfl; exact rfl)))
        | ((with_reducible apply wli_v); exact rfl; exact rfl; (first | ((with_reducible apply vop_ok); exact rfl) | ((with_reducible apply v_fieldAddr); exact rfl) | ((with_reducible apply v_len); exact rfl) | ((with_reducible apply v_lens); exact rfl) | ((with_reducible apply v_load_box); exact rfl; (repeat first | exact .hd | apply Sel.tl | apply In.tl); exact rfl) | ((with_reducible apply v_eqlb); exact rfl; exact rfl) | ((with_reducible apply v_neqb); exact rfl; exact rfl) | ((with_reducible apply v_loadw_box); exact rfl; (repeat first | exact .hd | apply Sel.tl | apply In.tl); exact rfl) | ((with_reducible apply v_loadn_box); exact rfl; (repeat first | exact .hd | apply Sel.tl | apply In.tl); exact rfl; exact rfl) | ((with_reducible apply v_build); exact rfl; exact rfl; exact rfl)))
        | ((with_reducible apply wl_gyes); exact rfl; exact rfl)
        | ((with_reducible apply wl_gno_b); exact rfl; exact rfl; exact rfl; exact rfl)
        | ((with_reducible apply wl_gno_u); exact rfl; exact rfl; exact rfl)
        | ((with_reducible apply wl_alloc); exact rfl; intro _)
        | ((with_reducible apply wl_storen_box); exact rfl; exact rfl; (repeat first | exact .hd | apply Sel.tl | apply In.tl); exact rfl; exact rfl; exact rfl)
        | ((with_reducible apply wl_putn_box); exact rfl; exact rfl; (repeat first | exact .hd | apply Sel.tl | apply In.tl); exact rfl; exact rfl; exact rfl; exact rfl)
        | ((with_reducible apply wl_gsplit) <;> first | exact rfl | (intro hb; (replace hb := Tidy.out hb; try (exfalso; omega))))
        | (with_reducible first | apply wl_nil | apply thn_n | apply w_seq | apply w_region | apply w_ret | apply w_skip | apply w_exit | apply w_block | apply thn_r | apply thn_e | apply blk_n | apply blk_r | apply blk_e | apply wli_nil)
        | ((with_reducible apply w_cond_true); exact rfl)
        | ((with_reducible apply w_cond_false); exact rfl)
        | ((with_reducible apply w_cond) <;> first | exact rfl | (intro hb; (replace hb := Tidy.out hb; try (exfalso; omega))))
        | ((with_reducible apply blk_x); exact rfl)
        | ((with_reducible apply wl_v); exact rfl; (with_reducible apply v_succN); exact rfl; exact rfl; (simp only [maxLen] at *; omega))
        | ((with_reducible apply wl_v); exact rfl; (with_reducible apply v_1addN); exact rfl; exact rfl; (simp only [maxLen] at *; omega))
        | ((with_reducible apply wl_v); exact rfl; (with_reducible apply v_addN); exact rfl; exact rfl; (simp only [maxLen] at *; omega))
        | ((with_reducible apply wl_v); exact rfl; (with_reducible apply v_indexAddr); exact rfl; exact rfl; (first | assumption | omega))
        | ((with_reducible apply wl_v); exact rfl; (with_reducible apply v_loadw_ro); exact rfl; assumption; exact rfl)
        | ((with_reducible apply wl_v); exact rfl; (with_reducible apply v_load1_ro); exact rfl; assumption)
        | ((with_reducible apply wl_v); exact rfl; (with_reducible apply v_loadf_ro); exact rfl; assumption; exact rfl))
      (with_reducible apply wli_yieldB)
      · exact rfl
      · exact rfl
      · exact rfl
      · exact MSub.app3
      · exact fun w hm => hy pre ⟨n.rect, -1, 0⟩ _ hus H1 _ hI w hm
      intro bb H2 hq
      cases bb
      · repeat' (first
          | ((with_reducible apply wl_v); exact rfl; (first | ((with_reducible apply vop_ok); exact rfl) | ((with_reducible apply v_fieldAddr); exact rfl) | ((with_reducible apply v_len); exact rfl) | ((with_reducible apply v_lens); exact rfl) | ((with_reducible apply v_load_box); exact rfl; (repeat first | exact .hd | apply Sel.tl | apply In.tl); exact rfl) | ((with_reducible apply v_eqlb); exact rfl; exact rfl) | ((with_reducible apply v_neqb); exact rfl; exact rfl) | ((with_reducible apply v_loadw_box); exact rfl; (repeat first | exact .hd | apply Sel.tl | apply In.tl); exact rfl) | ((with_reducible apply v_loadn_box); exact rfl; (repeat first | exact .hd | apply Sel.tl | apply In.tl); exact rfl; exact rfl) | ((with_reducible apply v_build); exact rfl; exact rfl; exact rfl)))
          | ((with_reducible apply wli_v); exact rfl; exact rfl; (first | ((with_reducible apply vop_ok); exact rfl) | ((with_reducible apply v_fieldAddr); exact rfl) | ((with_reducible apply v_len); exact rfl) | ((with_reducible apply v_lens); exact rfl) | ((with_reducible apply v_load_box); exact rfl; (repeat first | exact .hd | apply Sel.tl | apply In.tl); exact rfl) | ((with_reducible apply v_eqlb); exact rfl; exact rfl) | ((with_reducible apply v_neqb); exact rfl; exact rfl) | ((with_reducible apply v_loadw_box); exact rfl; (repeat first | exact .hd | apply Sel.tl | apply In.tl); exact rfl) | ((with_reducible apply v_loadn_box); exact rfl; (repeat first | exact .hd | apply Sel.tl | apply In.tl); exact rfl; exact rfl) | ((with_reducible apply v_build); exact rfl; exact rfl; exact rfl)))
          | ((with_reducible apply wl_gyes); exact rfl; exact rfl)
          | ((with_reducible apply wl_gno_b); exact rfl; exact rfl; exact rfl; exact rfl)
          | ((with_reducible apply wl_gno_u); exact rfl; exact rfl; exact rfl)
          | ((with_reducible apply wl_alloc); exact rfl; intro _)
          | ((with_reducible apply wl_storen_box); exact rfl; exact rfl; (repeat first | exact .hd | apply Sel.tl | apply In.tl); exact rfl; exact rfl; exact rfl)
          | ((with_reducible apply wl_putn_box); exact rfl; exact rfl; (repeat first | exact .hd | apply Sel.tl | apply In.tl); exact rfl; exact rfl; exact rfl; exact rfl)
          | ((with_reducible apply wl_gsplit) <;> first | exact rfl | (intro hb; (replace hb := Tidy.out hb; try (exfalso; omega))))
          | (with_reducible first | apply wl_nil | apply thn_n | apply w_seq | apply w_region | apply w_ret | apply w_skip | apply w_exit | apply w_block | apply thn_r | apply thn_e | apply blk_n | apply blk_r | apply blk_e | apply wli_nil)
          | ((with_reducible apply w_cond_true); exact rfl)
          | ((with_reducible apply w_cond_false); exact rfl)
          | ((with_reducible apply w_cond) <;> first | exact rfl | (intro hb; (replace hb := Tidy.out hb; try (exfalso; omega))))
          | ((with_reducible apply blk_x); exact rfl))
        exact ret0 (by first | exact .inl rfl | exact .inr rfl) Try.results81 (H' := H2 ++ [.box g 22 [.slice (some ⟨gl, ol, none⟩) L.length cl]]) MSub.app3r ⟨H2, .inr ⟨_, hq⟩, MSub.refl _⟩
      · repeat' (first
          | ((with_reducible apply wl_v); exact rfl; (first | ((with_reducible apply vop_ok); exact rfl) | ((with_reducible apply v_fieldAddr); exact rfl) | ((with_reducible apply v_len); exact rfl) | ((with_reducible apply v_lens); exact rfl) | ((with_reducible apply v_load_box); exact rfl; (repeat first | exact .hd | apply Sel.tl | apply In.tl); exact rfl) | ((with_reducible apply v_eqlb); exact rfl; exact rfl) | ((with_reducible apply v_neqb); exact rfl; exact rfl) | ((with_reducible apply v_loadw_box); exact rfl; (repeat first | exact .hd | apply Sel.tl | apply In.tl); exact rfl) | ((with_reducible apply v_loadn_box); exact rfl; (repeat first | exact .hd | apply Sel.tl | apply In.tl); exact rfl; exact rfl) | ((with_reducible apply v_build); exact rfl; exact rfl; exact rfl)))
          | ((with_reducible apply wli_v); exact rfl; exact rfl; (first | ((with_reducible apply vop_ok); exact rfl) | ((with_reducible apply v_fieldAddr); exact rfl) | ((with_reducible apply v_len); exact rfl) | ((with_reducible apply v_lens); exact rfl) | ((with_reducible apply v_load_box); exact rfl; (repeat first | exact .hd | apply Sel.tl | apply In.tl); exact rfl) | ((with_reducible apply v_eqlb); exact rfl; exact rfl) | ((with_reducible apply v_neqb); exact rfl; exact rfl) | ((with_reducible apply v_loadw_box); exact rfl; (repeat first | exact .hd | apply Sel.tl | apply In.tl); exact rfl) | ((with_reducible apply v_loadn_box); exact rfl; (repeat first | exact .hd | apply Sel.tl | apply In.tl); exact rfl; exact rfl) | ((with_reducible apply v_build); exact rfl; exact rfl; exact rfl)))
          | ((with_reducible apply wl_gyes); exact rfl; exact rfl)
          | ((with_reducible apply wl_gno_b); exact rfl; exact rfl; exact rfl; exact rfl)
          | ((with_reducible apply wl_gno_u); exact rfl; exact rfl; exact rfl)
          | ((with_reducible apply wl_alloc); exact rfl; intro _)
          | ((with_reducible apply wl_storen_box); exact rfl; exact rfl; (repeat first | exact .hd | apply Sel.tl | apply In.tl); exact rfl; exact rfl; exact rfl)
          | ((with_reducible apply wl_putn_box); exact rfl; exact rfl; (repeat first | exact .hd | apply Sel.tl | apply In.tl); exact rfl; exact rfl; exact rfl; exact rfl)
          | ((with_reducible apply wl_gsplit) <;> first | exact rfl | (intro hb; (replace hb := Tidy.out hb; try (exfalso; omega))))
          | (with_reducible first | apply wl_nil | apply thn_n | apply w_seq | apply w_region | apply w_ret | apply w_skip | apply w_exit | apply w_block | apply thn_r | apply thn_e | apply blk_n | apply blk_r | apply blk_e | apply wli_nil)
          | ((with_reducible apply w_cond_true); exact rfl)
          | ((with_reducible apply w_cond_false); exact rfl)
          | ((with_reducible apply w_cond) <;> first | exact rfl | (intro hb; (replace hb := Tidy.out hb; try (exfalso; omega))))
          | ((with_reducible apply blk_x); exact rfl)
          | ((with_reducible apply wl_v); exact rfl; (with_reducible apply v_succN); exact rfl; exact rfl; (simp only [maxLen] at *; omega))
          | ((with_reducible apply wl_v); exact rfl; (with_reducible apply v_1addN); exact rfl; exact rfl; (simp only [maxLen] at *; omega))
          | ((with_reducible apply wl_v); exact rfl; (with_reducible apply v_addN); exact rfl; exact rfl; (simp only [maxLen] at *; omega)))
        refine ⟨(i + 1, _, H2), next _ _ (hus.trans (by rw [List.append_assoc]; rfl)) hq, (by dsimp only; omega), ?_, ?_⟩
        · (repeat (first | exact Sub.nil _ | refine Sub.cons rfl ?_))
        · exact MSub.app3'
  · have e : i = L.length := by omega
    subst e
    rw [List.drop_length, usesFrom, List.append_nil] at hus
    repeat' (first
      | ((with_reducible apply wl_v); exact rfl; (first | ((with_reducible apply vop_ok); exact rfl) | ((with_reducible apply v_fieldAddr); exact rfl) | ((with_reducible apply v_len); exact rfl) | ((with_reducible apply v_lens); exact rfl) | ((with_reducible apply v_load_box); exact rfl; (repeat first | exact .hd | apply Sel.tl | apply In.tl); exact rfl) | ((with_reducible apply v_eqlb); exact rfl; exact rfl) | ((with_reducible apply v_neqb); exact rfl; exact rfl) | ((with_reducible apply v_loadw_box); exact rfl; (repeat first | exact .hd | apply Sel.tl | apply In.tl); exact rfl) | ((with_reducible apply v_loadn_box); exact rfl; (repeat first | exact .hd | apply Sel.tl | apply In.tl); exact rfl; exact rfl) | ((with_reducible apply v_build); exact rfl; exact rfl; exact rfl)))
      | ((with_reducible apply wl_gyes); exact rfl; exact rfl)
      | ((with_reducible apply wl_gno_b); exact rfl; exact rfl; exact rfl; exact rfl)
      | ((with_reducible apply wl_gno_u); exact rfl; exact rfl; exact rfl)
      | ((with_reducible apply wl_alloc); exact rfl; intro _)
      | ((with_reducible apply wl_storen_box); exact rfl; exact rfl; (repeat first | exact .hd | apply Sel.tl | apply In.tl); exact rfl; exact rfl; exact rfl)
      | ((with_reducible apply wl_putn_box); exact rfl; exact rfl; (repeat first | exact .hd | apply Sel.tl | apply In.tl); exact rfl; exact rfl; exact rfl; exact rfl)
      | ((with_reducible apply wl_gsplit) <;> first | exact rfl | (intro hb; (replace hb := Tidy.out hb; try (exfalso; omega))))
      | (with_reducible first | apply wl_nil | apply thn_n | apply w_seq | apply w_region | apply w_ret | apply w_skip | apply w_exit | apply w_block | apply thn_r | apply thn_e | apply blk_n | apply blk_r | apply blk_e)
      | ((with_reducible apply w_cond_true); exact rfl)
      | ((with_reducible apply w_cond_false); exact rfl)
      | ((with_reducible apply w_cond) <;> first | exact rfl | (intro hb; (replace hb := Tidy.out hb; try (exfalso; omega))))
      | ((with_reducible apply blk_x); exact rfl))
    refine ret0 (.inr rfl) Try.results81 (H' := .box g 22 [.slice Al L.length cl] :: H1) (by (repeat (first | exact MSub.nil _ | refine MSub.pick (by (repeat first | exact .hd | apply Sel.tl | apply In.tl)) ?_ | exact MSub.refl _ | refine MSub.drop .hd ?_))) ⟨H1, .inl (hus ▸ hI), ?_⟩
    exact MSub.snoc .hd (MSub.refl _)
end Go.SL

/-
  What Uses, Calls and Touches of package refs return.
-/
namespace Go.SL
open Go Go.Proofs
attribute [local irreducible] W WL WQ WG WA VOp thn blk cutP retP FnAt FnIn WLI WR WT endB bodyB assignQ roundQ

theorem usesV_at (A : Option Addr) (m c : Nat) (w : World) : FnAt Try.prog 68 [.slice A m c] w fun v H => ∃ g, v = .func (.func 81) #[] #[.pointer (some ⟨g, 0, none⟩)] ∧ H = [.box g 22 [.slice A m c]] := by
  refine fn_at Try.func68 rfl Try.ntmps68 rfl ?_
  repeat' (first
    | ((with_reducible apply wl_v); exact rfl; (first | ((with_reducible apply vop_ok); exact rfl) | ((with_reducible apply v_makeFunc); exact rfl)))
    | ((with_reducible apply wl_boxs); exact rfl; exact rfl; intro _)
    | ((with_reducible apply wl_box1); exact rfl; exact rfl; exact rfl; intro _)
    | (with_reducible first | apply wl_nil | apply thn_n | apply w_seq | apply w_region | apply w_ret | apply w_skip | apply w_exit | apply w_block | apply thn_r | apply thn_e | apply blk_n | apply blk_r | apply blk_e)
    | ((with_reducible apply w_cond_true); exact rfl)
    | ((with_reducible apply w_cond_false); exact rfl)
    | ((with_reducible apply w_cond) <;> first | exact rfl | (intro hb; (replace hb := Tidy.out hb; try (exfalso; omega))))
    | ((with_reducible apply blk_x); exact rfl))
  refine ret1 (.inl rfl) Try.results68 rfl (MSub.refl _) ?_
  exact ⟨_, rfl, rfl⟩

def usesE (L : List Nd) : List Us × Int := if checkE L ≠ 0 then ([], checkE L) else (usesF L, 0)

theorem usesFrom_len : ∀ (L : List Nd) (i : Nat), (usesFrom L i).length ≤ L.length
  | [], _ => Nat.le_refl _
  | n :: r, i => by
    have := usesFrom_len r (i + 1)
    unfold usesFrom
    cases rangesF n <;> simp <;> omega
theorem usesF_len (L : List Nd) : (usesF L).length ≤ L.length := usesFrom_len L 0
theorem flat_snoc {α : Type} (f : α → List Value) (xs : List α) (x : α) : (xs ++ [x]).flatMap f = xs.flatMap f ++ f x := by simp

set_option maxRecDepth 20000 in
set_option maxHeartbeats 4000000 in
theorem Uses_at (L : List Nd) (tv : Value) (w : World) (ht : Reads w tv L.length (L.flatMap encN)) (hlen : L.length ≤ 1000000) :
    FnAt Try.prog 40 [tv] w fun v H => ∃ A cap, v = .tuple #[sl A (usesE L).1.length cap, .int .i64 (usesE L).2] ∧ H = [.own A 68 6 (usesE L).1.length cap ((usesE L).1.flatMap encU)] := by
  have ht' := ht
  obtain ⟨Al, cl, rfl, hl1, hl2, hl3⟩ := ht
  refine fn_range_at Try.func40 rfl Try.ntmps40 (by rfl) ?_
  have hck := fun w0 (hm : Reads w0 (.slice Al L.length cl) L.length (L.flatMap encN)) => Check_at L _ w0 hm
  unfold usesE
  generalize checkE L = e at hck
  refine wt_seq_r ?_
  refine w_nilrow 68 6 ?_
  repeat' (first
    | ((with_reducible apply wl_callp); exact rfl; exact rfl; (intro w' hm; exact hck w' (ht'.of_w0 hm)))
    | ((with_reducible apply wl_call); exact rfl; exact rfl; (intro w' hm; exact usesV_at _ _ _ w'); (rintro v H' ⟨gu, rfl, rfl⟩))
    | ((with_reducible apply wl_v); exact rfl; (first | ((with_reducible apply vop_ok); exact rfl) | ((with_reducible apply v_load_box); exact rfl; (repeat first | exact .hd | apply Sel.tl | apply In.tl); exact rfl) | ((with_reducible apply v_eqlb); exact rfl; exact rfl) | ((with_reducible apply v_neqb); exact rfl; exact rfl) | ((with_reducible apply v_loadw_box); exact rfl; (repeat first | exact .hd | apply Sel.tl | apply In.tl); exact rfl) | ((with_reducible apply v_loadn_box); exact rfl; (repeat first | exact .hd | apply Sel.tl | apply In.tl); exact rfl; exact rfl)))
    | ((with_reducible apply wr_cond_true); exact rfl)
    | ((with_reducible apply wr_cond_false); exact rfl)
    | ((with_reducible apply wr_cond) <;> first | exact rfl | (intro hb; (replace hb := Tidy.out hb; try (exfalso; omega))))
    | ((with_reducible apply wr_region); exact rfl; (repeat (first | exact roundQ_no | exact assignQ_no | apply no_thn | apply no_blk | apply no_cut)))
    | (with_reducible first | apply wt_seq_s | apply wt_seq_r | apply wt_seq_c | apply wt_seq_b | apply wt_seq_k | apply wt_last_r | apply wt_last_ret | apply wt_last_c | apply end_thn_n | apply end_thn_r)
    | ((with_reducible apply wl_alloc); exact rfl; intro _)
    | ((with_reducible apply wl_storen_box); exact rfl; exact rfl; (repeat first | exact .hd | apply Sel.tl | apply In.tl); exact rfl; exact rfl; exact rfl)
    | ((with_reducible apply wl_putn_box); exact rfl; exact rfl; (repeat first | exact .hd | apply Sel.tl | apply In.tl); exact rfl; exact rfl; exact rfl; exact rfl)
    | ((with_reducible apply wl_buildSlice); exact rfl; exact rfl; exact rfl; exact rfl; exact rfl; exact rfl; exact rfl; intro _)
    | (with_reducible first | apply wl_nil | apply thn_n | apply w_seq | apply w_region | apply w_ret | apply w_skip | apply w_exit | apply w_block | apply thn_r | apply thn_e | apply blk_n | apply blk_r | apply blk_e | apply wr_seq | apply wr_ret | apply wr_exit | apply wr_skip | apply wr_block)
    | ((with_reducible apply w_cond_true); exact rfl)
    | ((with_reducible apply w_cond_false); exact rfl)
    | ((with_reducible apply w_cond) <;> first | exact rfl | (intro hb; (replace hb := Tidy.out hb; try (exfalso; omega))))
    | ((with_reducible apply blk_x); exact rfl))
  · refine end_ret ?_
    refine ret2 (.inl rfl) Try.results40 rfl rfl (H' := [.own none 68 6 0 0 []]) (by (repeat (first | exact MSub.nil _ | refine MSub.pick (by (repeat first | exact .hd | apply Sel.tl | apply In.tl)) ?_ | exact MSub.refl _ | refine MSub.drop .hd ?_))) ⟨none, 0, ?_⟩
    rw [if_pos hb]
    exact ⟨rfl, rfl⟩
  rename_i gb
  rw [if_neg hb]
  have hul := usesF_len L
  refine wt_range (ps := [14]) (us := usesF L) (encs := fun u => [.agg (encU u).toArray]) (Hc := [.box gu 22 [.slice Al L.length cl]]) (HU0 := [.box gb 62 [.slice none 0 0], .own none 68 6 0 0 []]) rfl (fun _ => rfl) rfl (uses_seq L _ w ht' hlen gu)
    (fun pre HU => ∃ A cap, HU = [.box gb 62 [sl A pre.length cap], .own A 68 6 pre.length cap (pre.flatMap encU)]) (fun _ => False) ?_ ⟨none, 0, rfl⟩ ?_ ?_ ?_
  · (repeat (first | exact MSub.nil _ | refine MSub.pick (by (repeat first | exact .hd | apply Sel.tl | apply In.tl)) ?_ | exact MSub.refl _ | refine MSub.drop .hd ?_))
  · rintro l pre u post hus _ ⟨A, cap, rfl⟩ F F'
    have hlu := congrArg List.length hus
    simp only [List.length_append, List.length_cons] at hlu
    change WR _ _ _ l _ _ ((14, Value.agg (encU u).toArray) :: _) (.box gb 62 [sl A pre.length cap] :: .own A 68 6 pre.length cap (pre.flatMap encU) :: F)
    repeat' (first
      | ((with_reducible apply wl_v); exact rfl; (first | ((with_reducible apply vop_ok); exact rfl) | ((with_reducible apply v_load_box); exact rfl; (repeat first | exact .hd | apply Sel.tl | apply In.tl); exact rfl) | ((with_reducible apply v_eqlb); exact rfl; exact rfl) | ((with_reducible apply v_neqb); exact rfl; exact rfl) | ((with_reducible apply v_loadw_box); exact rfl; (repeat first | exact .hd | apply Sel.tl | apply In.tl); exact rfl) | ((with_reducible apply v_loadn_box); exact rfl; (repeat first | exact .hd | apply Sel.tl | apply In.tl); exact rfl; exact rfl)))
      | ((with_reducible apply wr_cond_true); exact rfl)
      | ((with_reducible apply wr_cond_false); exact rfl)
      | ((with_reducible apply wr_cond) <;> first | exact rfl | (intro hb; (replace hb := Tidy.out hb; try (exfalso; omega))))
      | ((with_reducible apply wr_region); exact rfl; (repeat (first | exact roundQ_no | exact assignQ_no | apply no_thn | apply no_blk | apply no_cut)))
      | (with_reducible first | apply wt_seq_s | apply wt_seq_r | apply wt_seq_c | apply wt_seq_b | apply wt_seq_k | apply wt_last_r | apply wt_last_ret | apply wt_last_c | apply end_thn_n | apply end_thn_r)
      | ((with_reducible apply wl_alloc); exact rfl; intro _)
      | ((with_reducible apply wl_storen_box); exact rfl; exact rfl; (repeat first | exact .hd | apply Sel.tl | apply In.tl); exact rfl; exact rfl; exact rfl)
      | ((with_reducible apply wl_putn_box); exact rfl; exact rfl; (repeat first | exact .hd | apply Sel.tl | apply In.tl); exact rfl; exact rfl; exact rfl; exact rfl)
      | ((with_reducible apply wl_buildSlice); exact rfl; exact rfl; exact rfl; exact rfl; exact rfl; exact rfl; exact rfl; intro _)
      | (with_reducible first | apply wl_nil | apply thn_n | apply w_seq | apply w_region | apply w_ret | apply w_skip | apply w_exit | apply w_block | apply thn_r | apply thn_e | apply blk_n | apply blk_r | apply blk_e | apply wr_seq | apply wr_ret | apply wr_exit | apply wr_skip | apply wr_block)
      | ((with_reducible apply w_cond_true); exact rfl)
      | ((with_reducible apply w_cond_false); exact rfl)
      | ((with_reducible apply w_cond) <;> first | exact rfl | (intro hb; (replace hb := Tidy.out hb; try (exfalso; omega))))
      | ((with_reducible apply blk_x); exact rfl))
    rename_i g6
    refine assign_n ⟨[.box g6 68 (encU u), .box gb 62 [sl A pre.length cap], .own A 68 6 pre.length cap (pre.flatMap encU)], MSub.refl _, ?_⟩
    change WR _ _ _ l _ _ _ (.box g6 68 (encU u) :: .box gb 62 [sl A pre.length cap] :: .own A 68 6 pre.length cap (pre.flatMap encU) :: F')
    repeat' (first
      | ((with_reducible apply wl_append); exact rfl; exact rfl; exact rfl; (repeat first | exact .hd | apply Sel.tl | apply In.tl); (intro w hm; exact hm.cells_own (by (repeat first | exact .hd | apply Sel.tl | apply In.tl))); exact rfl; (simp [Value.oneCell', sl]); omega; (simp only [maxLen]; omega); (intro A' cap' hA'))
      | ((with_reducible apply wl_v); exact rfl; (first | ((with_reducible apply vop_ok); exact rfl) | ((with_reducible apply v_load_box); exact rfl; (repeat first | exact .hd | apply Sel.tl | apply In.tl); exact rfl) | ((with_reducible apply v_eqlb); exact rfl; exact rfl) | ((with_reducible apply v_neqb); exact rfl; exact rfl) | ((with_reducible apply v_loadw_box); exact rfl; (repeat first | exact .hd | apply Sel.tl | apply In.tl); exact rfl) | ((with_reducible apply v_loadn_box); exact rfl; (repeat first | exact .hd | apply Sel.tl | apply In.tl); exact rfl; exact rfl)))
      | ((with_reducible apply wr_cond_true); exact rfl)
      | ((with_reducible apply wr_cond_false); exact rfl)
      | ((with_reducible apply wr_cond) <;> first | exact rfl | (intro hb; (replace hb := Tidy.out hb; try (exfalso; omega))))
      | ((with_reducible apply wr_region); exact rfl; (repeat (first | exact roundQ_no | exact assignQ_no | apply no_thn | apply no_blk | apply no_cut)))
      | (with_reducible first | apply wt_seq_s | apply wt_seq_r | apply wt_seq_c | apply wt_seq_b | apply wt_seq_k | apply wt_last_r | apply wt_last_ret | apply wt_last_c | apply end_thn_n | apply end_thn_r)
      | ((with_reducible apply wl_alloc); exact rfl; intro _)
      | ((with_reducible apply wl_storen_box); exact rfl; exact rfl; (repeat first | exact .hd | apply Sel.tl | apply In.tl); exact rfl; exact rfl; exact rfl)
      | ((with_reducible apply wl_putn_box); exact rfl; exact rfl; (repeat first | exact .hd | apply Sel.tl | apply In.tl); exact rfl; exact rfl; exact rfl; exact rfl)
      | ((with_reducible apply wl_buildSlice); exact rfl; exact rfl; exact rfl; exact rfl; exact rfl; exact rfl; exact rfl; intro _)
      | (with_reducible first | apply wl_nil | apply thn_n | apply w_seq | apply w_region | apply w_ret | apply w_skip | apply w_exit | apply w_block | apply thn_r | apply thn_e | apply blk_n | apply blk_r | apply blk_e | apply wr_seq | apply wr_ret | apply wr_exit | apply wr_skip | apply wr_block)
      | ((with_reducible apply w_cond_true); exact rfl)
      | ((with_reducible apply w_cond_false); exact rfl)
      | ((with_reducible apply w_cond) <;> first | exact rfl | (intro hb; (replace hb := Tidy.out hb; try (exfalso; omega))))
      | ((with_reducible apply blk_x); exact rfl))
    refine round_n [.box gb 62 [sl A' (pre.length + 1) cap'], .own A' 68 6 (pre.length + 1) cap' (pre.flatMap encU ++ encU u)] ?_ ⟨A', cap', ?_⟩
    · change MSub (_ :: _ :: F') _
      (repeat (first | exact MSub.nil _ | refine MSub.pick (by (repeat first | exact .hd | apply Sel.tl | apply In.tl)) ?_ | exact MSub.refl _ | refine MSub.drop .hd ?_))
    · rw [flat_snoc, List.length_append]
      rfl
  · rintro D _ ⟨A, cap, rfl⟩
    change endB _ _ _ _ _ (dObj D :: .box gb 62 [sl A (usesF L).length cap] :: .own A 68 6 (usesF L).length cap ((usesF L).flatMap encU) :: _)
    repeat' (first
      | ((with_reducible apply wl_v); exact rfl; (first | ((with_reducible apply vop_ok); exact rfl) | ((with_reducible apply v_load_box); exact rfl; (repeat first | exact .hd | apply Sel.tl | apply In.tl); exact rfl) | ((with_reducible apply v_eqlb); exact rfl; exact rfl) | ((with_reducible apply v_neqb); exact rfl; exact rfl) | ((with_reducible apply v_loadw_box); exact rfl; (repeat first | exact .hd | apply Sel.tl | apply In.tl); exact rfl) | ((with_reducible apply v_loadn_box); exact rfl; (repeat first | exact .hd | apply Sel.tl | apply In.tl); exact rfl; exact rfl)))
      | ((with_reducible apply wr_cond_true); exact rfl)
      | ((with_reducible apply wr_cond_false); exact rfl)
      | ((with_reducible apply wr_cond) <;> first | exact rfl | (intro hb; (replace hb := Tidy.out hb; try (exfalso; omega))))
      | ((with_reducible apply wr_region); exact rfl; (repeat (first | exact roundQ_no | exact assignQ_no | apply no_thn | apply no_blk | apply no_cut)))
      | (with_reducible first | apply wt_seq_s | apply wt_seq_r | apply wt_seq_c | apply wt_seq_b | apply wt_seq_k | apply wt_last_r | apply wt_last_ret | apply wt_last_c | apply end_thn_n | apply end_thn_r)
      | ((with_reducible apply wl_alloc); exact rfl; intro _)
      | ((with_reducible apply wl_storen_box); exact rfl; exact rfl; (repeat first | exact .hd | apply Sel.tl | apply In.tl); exact rfl; exact rfl; exact rfl)
      | ((with_reducible apply wl_putn_box); exact rfl; exact rfl; (repeat first | exact .hd | apply Sel.tl | apply In.tl); exact rfl; exact rfl; exact rfl; exact rfl)
      | ((with_reducible apply wl_buildSlice); exact rfl; exact rfl; exact rfl; exact rfl; exact rfl; exact rfl; exact rfl; intro _)
      | (with_reducible first | apply wl_nil | apply thn_n | apply w_seq | apply w_region | apply w_ret | apply w_skip | apply w_exit | apply w_block | apply thn_r | apply thn_e | apply blk_n | apply blk_r | apply blk_e | apply wr_seq | apply wr_ret | apply wr_exit | apply wr_skip | apply wr_block)
      | ((with_reducible apply w_cond_true); exact rfl)
      | ((with_reducible apply w_cond_false); exact rfl)
      | ((with_reducible apply w_cond) <;> first | exact rfl | (intro hb; (replace hb := Tidy.out hb; try (exfalso; omega))))
      | ((with_reducible apply blk_x); exact rfl))
    refine end_mark .hd ?_
    refine ret2 (.inl rfl) Try.results40 rfl rfl (H' := [.own A 68 6 (usesF L).length cap ((usesF L).flatMap encU)]) (by (repeat (first | exact MSub.nil _ | refine MSub.pick (by (repeat first | exact .hd | apply Sel.tl | apply In.tl)) ?_ | exact MSub.refl _ | refine MSub.drop .hd ?_))) ⟨A, cap, rfl, rfl⟩
  · rintro D HU h
    exact h.elim

def rel (u : Us) : Bool := decide (0 ≤ u.node)
def callsE (L : List Nd) : List Us × Int := if checkE L ≠ 0 then ([], checkE L) else ((usesF L).filter rel, 0)

set_option maxRecDepth 20000 in
set_option maxHeartbeats 4000000 in
theorem Calls_at (L : List Nd) (tv : Value) (w : World) (ht : Reads w tv L.length (L.flatMap encN)) (hlen : L.length ≤ 1000000) :
    FnAt Try.prog 42 [tv] w fun v H => ∃ A cap, v = .tuple #[sl A (callsE L).1.length cap, .int .i64 (callsE L).2] ∧ H = [.own A 68 6 (callsE L).1.length cap ((callsE L).1.flatMap encU)] := by
  have ht' := ht
  obtain ⟨Al, cl, rfl, hl1, hl2, hl3⟩ := ht
  refine fn_range_at Try.func42 rfl Try.ntmps42 (by rfl) ?_
  have hck := fun w0 (hm : Reads w0 (.slice Al L.length cl) L.length (L.flatMap encN)) => Check_at L _ w0 hm
  unfold callsE
  generalize checkE L = e at hck
  refine wt_seq_r ?_
  refine w_nilrow 68 6 ?_
  repeat' (first
    | ((with_reducible apply wl_callp); exact rfl; exact rfl; (intro w' hm; exact hck w' (ht'.of_w0 hm)))
    | ((with_reducible apply wl_call); exact rfl; exact rfl; (intro w' hm; exact usesV_at _ _ _ w'); (rintro v H' ⟨gu, rfl, rfl⟩))
    | ((with_reducible apply wl_v); exact rfl; (first | ((with_reducible apply vop_ok); exact rfl) | ((with_reducible apply v_fieldAddr); exact rfl) | ((with_reducible apply v_load_box); exact rfl; (repeat first | exact .hd | apply Sel.tl | apply In.tl); exact rfl) | ((with_reducible apply v_eqlb); exact rfl; exact rfl) | ((with_reducible apply v_neqb); exact rfl; exact rfl) | ((with_reducible apply v_loadw_box); exact rfl; (repeat first | exact .hd | apply Sel.tl | apply In.tl); exact rfl) | ((with_reducible apply v_loadn_box); exact rfl; (repeat first | exact .hd | apply Sel.tl | apply In.tl); exact rfl; exact rfl)))
    | ((with_reducible apply wr_cond_true); exact rfl)
    | ((with_reducible apply wr_cond_false); exact rfl)
    | ((with_reducible apply wr_cond) <;> first | exact rfl | (intro hb; (replace hb := Tidy.out hb; try (exfalso; omega))))
    | ((with_reducible apply wr_region); exact rfl; (repeat (first | exact roundQ_no | exact assignQ_no | apply no_thn | apply no_blk | apply no_cut)))
    | (with_reducible first | apply wt_seq_s | apply wt_seq_r | apply wt_seq_c | apply wt_seq_b | apply wt_seq_k | apply wt_last_r | apply wt_last_ret | apply wt_last_c | apply end_thn_n | apply end_thn_r)
    | ((with_reducible apply wl_alloc); exact rfl; intro _)
    | ((with_reducible apply wl_storen_box); exact rfl; exact rfl; (repeat first | exact .hd | apply Sel.tl | apply In.tl); exact rfl; exact rfl; exact rfl)
    | ((with_reducible apply wl_putn_box); exact rfl; exact rfl; (repeat first | exact .hd | apply Sel.tl | apply In.tl); exact rfl; exact rfl; exact rfl; exact rfl)
    | ((with_reducible apply wl_buildSlice); exact rfl; exact rfl; exact rfl; exact rfl; exact rfl; exact rfl; exact rfl; intro _)
    | (with_reducible first | apply wl_nil | apply thn_n | apply w_seq | apply w_region | apply w_ret | apply w_skip | apply w_exit | apply w_block | apply thn_r | apply thn_e | apply blk_n | apply blk_r | apply blk_e | apply wr_seq | apply wr_ret | apply wr_exit | apply wr_skip | apply wr_block)
    | ((with_reducible apply w_cond_true); exact rfl)
    | ((with_reducible apply w_cond_false); exact rfl)
    | ((with_reducible apply w_cond) <;> first | exact rfl | (intro hb; (replace hb := Tidy.out hb; try (exfalso; omega))))
    | ((with_reducible apply blk_x); exact rfl))
  · refine end_ret ?_
    refine ret2 (.inl rfl) Try.results42 rfl rfl (H' := [.own none 68 6 0 0 []]) (by (repeat (first | exact MSub.nil _ | refine MSub.pick (by (repeat first | exact .hd | apply Sel.tl | apply In.tl)) ?_ | exact MSub.refl _ | refine MSub.drop .hd ?_))) ⟨none, 0, ?_⟩
    rw [if_pos hb]
    exact ⟨rfl, rfl⟩
  rename_i gb
  rw [if_neg hb]
  have hul := usesF_len L
  refine wt_range (ps := [14]) (us := usesF L) (encs := fun u => [.agg (encU u).toArray]) (Hc := [.box gu 22 [.slice Al L.length cl]]) (HU0 := [.box gb 62 [.slice none 0 0], .own none 68 6 0 0 []]) rfl (fun _ => rfl) rfl (uses_seq L _ w ht' hlen gu)
    (fun pre HU => ∃ A cap, HU = [.box gb 62 [sl A (pre.filter rel).length cap], .own A 68 6 (pre.filter rel).length cap ((pre.filter rel).flatMap encU)]) (fun _ => False) ?_ ⟨none, 0, rfl⟩ ?_ ?_ ?_
  · (repeat (first | exact MSub.nil _ | refine MSub.pick (by (repeat first | exact .hd | apply Sel.tl | apply In.tl)) ?_ | exact MSub.refl _ | refine MSub.drop .hd ?_))
  · rintro l pre u post hus _ ⟨A, cap, rfl⟩ F F'
    have hlu := congrArg List.length hus
    simp only [List.length_append, List.length_cons] at hlu
    have hfl := List.length_filter_le rel pre
    have hsn : (pre ++ [u]).filter rel = if 0 ≤ u.node then pre.filter rel ++ [u] else pre.filter rel := by
      rw [List.filter_append]
      by_cases h : 0 ≤ u.node <;> simp [List.filter, rel, h]
    generalize hpf : pre.filter rel = pf at hfl hsn
    change WR _ _ _ l _ _ ((14, Value.agg (encU u).toArray) :: _) (.box gb 62 [sl A pf.length cap] :: .own A 68 6 pf.length cap (pf.flatMap encU) :: F)
    repeat' (first
      | ((with_reducible apply wl_v); exact rfl; (first | ((with_reducible apply vop_ok); exact rfl) | ((with_reducible apply v_fieldAddr); exact rfl) | ((with_reducible apply v_load_box); exact rfl; (repeat first | exact .hd | apply Sel.tl | apply In.tl); exact rfl) | ((with_reducible apply v_eqlb); exact rfl; exact rfl) | ((with_reducible apply v_neqb); exact rfl; exact rfl) | ((with_reducible apply v_loadw_box); exact rfl; (repeat first | exact .hd | apply Sel.tl | apply In.tl); exact rfl) | ((with_reducible apply v_loadn_box); exact rfl; (repeat first | exact .hd | apply Sel.tl | apply In.tl); exact rfl; exact rfl)))
      | ((with_reducible apply wr_cond_true); exact rfl)
      | ((with_reducible apply wr_cond_false); exact rfl)
      | ((with_reducible apply wr_cond) <;> first | exact rfl | (intro hb; (replace hb := Tidy.out hb; try (exfalso; omega))))
      | ((with_reducible apply wr_region); exact rfl; (repeat (first | exact roundQ_no | exact assignQ_no | apply no_thn | apply no_blk | apply no_cut)))
      | (with_reducible first | apply wt_seq_s | apply wt_seq_r | apply wt_seq_c | apply wt_seq_b | apply wt_seq_k | apply wt_last_r | apply wt_last_ret | apply wt_last_c | apply end_thn_n | apply end_thn_r)
      | ((with_reducible apply wl_alloc); exact rfl; intro _)
      | ((with_reducible apply wl_storen_box); exact rfl; exact rfl; (repeat first | exact .hd | apply Sel.tl | apply In.tl); exact rfl; exact rfl; exact rfl)
      | ((with_reducible apply wl_putn_box); exact rfl; exact rfl; (repeat first | exact .hd | apply Sel.tl | apply In.tl); exact rfl; exact rfl; exact rfl; exact rfl)
      | ((with_reducible apply wl_buildSlice); exact rfl; exact rfl; exact rfl; exact rfl; exact rfl; exact rfl; exact rfl; intro _)
      | (with_reducible first | apply wl_nil | apply thn_n | apply w_seq | apply w_region | apply w_ret | apply w_skip | apply w_exit | apply w_block | apply thn_r | apply thn_e | apply blk_n | apply blk_r | apply blk_e | apply wr_seq | apply wr_ret | apply wr_exit | apply wr_skip | apply wr_block)
      | ((with_reducible apply w_cond_true); exact rfl)
      | ((with_reducible apply w_cond_false); exact rfl)
      | ((with_reducible apply w_cond) <;> first | exact rfl | (intro hb; (replace hb := Tidy.out hb; try (exfalso; omega))))
      | ((with_reducible apply blk_x); exact rfl))
    rename_i g6
    refine assign_n ⟨[.box g6 68 (encU u), .box gb 62 [sl A pf.length cap], .own A 68 6 pf.length cap (pf.flatMap encU)], MSub.refl _, ?_⟩
    change WR _ _ _ l _ _ _ (.box g6 68 (encU u) :: .box gb 62 [sl A pf.length cap] :: .own A 68 6 pf.length cap (pf.flatMap encU) :: F')
    repeat' (first
      | ((with_reducible apply wl_append); exact rfl; exact rfl; exact rfl; (repeat first | exact .hd | apply Sel.tl | apply In.tl); (intro w hm; exact hm.cells_own (by (repeat first | exact .hd | apply Sel.tl | apply In.tl))); exact rfl; (simp [Value.oneCell', sl]); omega; (simp only [maxLen]; omega); (intro A' cap' hA'))
      | ((with_reducible apply wl_v); exact rfl; (first | ((with_reducible apply vop_ok); exact rfl) | ((with_reducible apply v_fieldAddr); exact rfl) | ((with_reducible apply v_load_box); exact rfl; (repeat first | exact .hd | apply Sel.tl | apply In.tl); exact rfl) | ((with_reducible apply v_eqlb); exact rfl; exact rfl) | ((with_reducible apply v_neqb); exact rfl; exact rfl) | ((with_reducible apply v_loadw_box); exact rfl; (repeat first | exact .hd | apply Sel.tl | apply In.tl); exact rfl) | ((with_reducible apply v_loadn_box); exact rfl; (repeat first | exact .hd | apply Sel.tl | apply In.tl); exact rfl; exact rfl)))
      | ((with_reducible apply wr_cond_true); exact rfl)
      | ((with_reducible apply wr_cond_false); exact rfl)
      | ((with_reducible apply wr_cond) <;> first | exact rfl | (intro hb; (replace hb := Tidy.out hb; try (exfalso; omega))))
      | ((with_reducible apply wr_region); exact rfl; (repeat (first | exact roundQ_no | exact assignQ_no | apply no_thn | apply no_blk | apply no_cut)))
      | (with_reducible first | apply wt_seq_s | apply wt_seq_r | apply wt_seq_c | apply wt_seq_b | apply wt_seq_k | apply wt_last_r | apply wt_last_ret | apply wt_last_c | apply end_thn_n | apply end_thn_r)
      | ((with_reducible apply wl_alloc); exact rfl; intro _)
      | ((with_reducible apply wl_storen_box); exact rfl; exact rfl; (repeat first | exact .hd | apply Sel.tl | apply In.tl); exact rfl; exact rfl; exact rfl)
      | ((with_reducible apply wl_putn_box); exact rfl; exact rfl; (repeat first | exact .hd | apply Sel.tl | apply In.tl); exact rfl; exact rfl; exact rfl; exact rfl)
      | ((with_reducible apply wl_buildSlice); exact rfl; exact rfl; exact rfl; exact rfl; exact rfl; exact rfl; exact rfl; intro _)
      | (with_reducible first | apply wl_nil | apply thn_n | apply w_seq | apply w_region | apply w_ret | apply w_skip | apply w_exit | apply w_block | apply thn_r | apply thn_e | apply blk_n | apply blk_r | apply blk_e | apply wr_seq | apply wr_ret | apply wr_exit | apply wr_skip | apply wr_block)
      | ((with_reducible apply w_cond_true); exact rfl)
      | ((with_reducible apply w_cond_false); exact rfl)
      | ((with_reducible apply w_cond) <;> first | exact rfl | (intro hb; (replace hb := Tidy.out hb; try (exfalso; omega))))
      | ((with_reducible apply blk_x); exact rfl))
    · rw [if_pos hb] at hsn
      refine round_n [.box gb 62 [sl A' (pf.length + 1) cap'], .own A' 68 6 (pf.length + 1) cap' (pf.flatMap encU ++ encU u)] ?_ ⟨A', cap', ?_⟩
      · change MSub (_ :: _ :: F') _
        (repeat (first | exact MSub.nil _ | refine MSub.pick (by (repeat first | exact .hd | apply Sel.tl | apply In.tl)) ?_ | exact MSub.refl _ | refine MSub.drop .hd ?_))
      · rw [hsn, flat_snoc, List.length_append]
        rfl
    · rw [if_neg (by omega)] at hsn
      refine round_n [.box gb 62 [sl A pf.length cap], .own A 68 6 pf.length cap (pf.flatMap encU)] ?_ ⟨A, cap, by rw [hsn]⟩
      change MSub (_ :: _ :: F') _
      (repeat (first | exact MSub.nil _ | refine MSub.pick (by (repeat first | exact .hd | apply Sel.tl | apply In.tl)) ?_ | exact MSub.refl _ | refine MSub.drop .hd ?_))
  · rintro D _ ⟨A, cap, rfl⟩
    change endB _ _ _ _ _ (dObj D :: .box gb 62 [sl A ((usesF L).filter rel).length cap] :: .own A 68 6 ((usesF L).filter rel).length cap (((usesF L).filter rel).flatMap encU) :: _)
    repeat' (first
      | ((with_reducible apply wl_v); exact rfl; (first | ((with_reducible apply vop_ok); exact rfl) | ((with_reducible apply v_fieldAddr); exact rfl) | ((with_reducible apply v_load_box); exact rfl; (repeat first | exact .hd | apply Sel.tl | apply In.tl); exact rfl) | ((with_reducible apply v_eqlb); exact rfl; exact rfl) | ((with_reducible apply v_neqb); exact rfl; exact rfl) | ((with_reducible apply v_loadw_box); exact rfl; (repeat first | exact .hd | apply Sel.tl | apply In.tl); exact rfl) | ((with_reducible apply v_loadn_box); exact rfl; (repeat first | exact .hd | apply Sel.tl | apply In.tl); exact rfl; exact rfl)))
      | ((with_reducible apply wr_cond_true); exact rfl)
      | ((with_reducible apply wr_cond_false); exact rfl)
      | ((with_reducible apply wr_cond) <;> first | exact rfl | (intro hb; (replace hb := Tidy.out hb; try (exfalso; omega))))
      | ((with_reducible apply wr_region); exact rfl; (repeat (first | exact roundQ_no | exact assignQ_no | apply no_thn | apply no_blk | apply no_cut)))
      | (with_reducible first | apply wt_seq_s | apply wt_seq_r | apply wt_seq_c | apply wt_seq_b | apply wt_seq_k | apply wt_last_r | apply wt_last_ret | apply wt_last_c | apply end_thn_n | apply end_thn_r)
      | ((with_reducible apply wl_alloc); exact rfl; intro _)
      | ((with_reducible apply wl_storen_box); exact rfl; exact rfl; (repeat first | exact .hd | apply Sel.tl | apply In.tl); exact rfl; exact rfl; exact rfl)
      | ((with_reducible apply wl_putn_box); exact rfl; exact rfl; (repeat first | exact .hd | apply Sel.tl | apply In.tl); exact rfl; exact rfl; exact rfl; exact rfl)
      | ((with_reducible apply wl_buildSlice); exact rfl; exact rfl; exact rfl; exact rfl; exact rfl; exact rfl; exact rfl; intro _)
      | (with_reducible first | apply wl_nil | apply thn_n | apply w_seq | apply w_region | apply w_ret | apply w_skip | apply w_exit | apply w_block | apply thn_r | apply thn_e | apply blk_n | apply blk_r | apply blk_e | apply wr_seq | apply wr_ret | apply wr_exit | apply wr_skip | apply wr_block)
      | ((with_reducible apply w_cond_true); exact rfl)
      | ((with_reducible apply w_cond_false); exact rfl)
      | ((with_reducible apply w_cond) <;> first | exact rfl | (intro hb; (replace hb := Tidy.out hb; try (exfalso; omega))))
      | ((with_reducible apply blk_x); exact rfl))
    refine end_mark .hd ?_
    refine ret2 (.inl rfl) Try.results42 rfl rfl (H' := [.own A 68 6 ((usesF L).filter rel).length cap (((usesF L).filter rel).flatMap encU)]) (by (repeat (first | exact MSub.nil _ | refine MSub.pick (by (repeat first | exact .hd | apply Sel.tl | apply In.tl)) ?_ | exact MSub.refl _ | refine MSub.drop .hd ?_))) ⟨A, cap, rfl, rfl⟩
  · rintro D HU h
    exact h.elim
end Go.SL

/-
  What Touches of package refs returns.
-/
namespace Go.SL
open Go Go.Proofs
attribute [local irreducible] W WL WQ WG WA VOp thn blk cutP retP FnAt FnIn WLI WR WT endB bodyB assignQ roundQ

def touch (r : Rct) (u : Us) : Bool := (meetR u.rect r).2
def touchesE (L : List Nd) (r : Rct) : Bool × Int := if checkE L ≠ 0 then (false, checkE L) else if rectE r ≠ 0 then (false, rectE r) else ((usesF L).any (touch r), 0)

set_option maxRecDepth 20000 in
set_option maxHeartbeats 4000000 in
theorem Touches_at (L : List Nd) (r : Rct) (tv : Value) (w : World) (ht : Reads w tv L.length (L.flatMap encN)) (hlen : L.length ≤ 1000000) :
    Pure Try.prog 44 [tv, .agg (encR r).toArray] w (.tuple #[.bool (touchesE L r).1, .int .i64 (touchesE L r).2]) := by
  have ht' := ht
  obtain ⟨Al, cl, rfl, hl1, hl2, hl3⟩ := ht
  refine fn_range_at Try.func44 rfl Try.ntmps44 (by rfl) ?_
  have hck := fun w0 (hm : Reads w0 (.slice Al L.length cl) L.length (L.flatMap encN)) => Check_at L _ w0 hm
  have hrc := fun w0 => rect_at r w0
  unfold touchesE
  generalize checkE L = e at hck
  generalize rectE r = re at hrc
  repeat' (first
    | ((with_reducible apply wl_callp); exact rfl; exact rfl; (intro w' hm; exact hck w' (ht'.of_w0 hm)))
    | ((with_reducible apply wl_callp); exact rfl; exact rfl; (intro w hm; exact hrc w))
    | ((with_reducible apply wl_call); exact rfl; exact rfl; (intro w' hm; exact usesV_at _ _ _ w'); (rintro v H' ⟨gu, rfl, rfl⟩))
    | ((with_reducible apply wl_v); exact rfl; (first | ((with_reducible apply vop_ok); exact rfl) | ((with_reducible apply v_fieldAddr); exact rfl) | ((with_reducible apply v_load_box); exact rfl; (repeat first | exact .hd | apply Sel.tl | apply In.tl); exact rfl) | ((with_reducible apply v_eqlb); exact rfl; exact rfl) | ((with_reducible apply v_neqb); exact rfl; exact rfl) | ((with_reducible apply v_loadw_box); exact rfl; (repeat first | exact .hd | apply Sel.tl | apply In.tl); exact rfl) | ((with_reducible apply v_loadn_box); exact rfl; (repeat first | exact .hd | apply Sel.tl | apply In.tl); exact rfl; exact rfl)))
    | ((with_reducible apply wr_cond_true); exact rfl)
    | ((with_reducible apply wr_cond_false); exact rfl)
    | ((with_reducible apply wr_cond) <;> first | exact rfl | (intro hb; (replace hb := Tidy.out hb; try (exfalso; omega))))
    | ((with_reducible apply wr_region); exact rfl; (repeat (first | exact roundQ_no | exact assignQ_no | apply no_thn | apply no_blk | apply no_cut)))
    | (with_reducible first | apply wt_seq_s | apply wt_seq_r | apply wt_seq_c | apply wt_seq_b | apply wt_seq_k | apply wt_last_r | apply wt_last_ret | apply wt_last_c | apply end_thn_n | apply end_thn_r)
    | ((with_reducible apply wl_boxs); exact rfl; exact rfl; intro _)
    | ((with_reducible apply wl_box1); exact rfl; exact rfl; exact rfl; intro _)
    | ((with_reducible apply wl_alloc); exact rfl; intro _)
    | ((with_reducible apply wl_storen_box); exact rfl; exact rfl; (repeat first | exact .hd | apply Sel.tl | apply In.tl); exact rfl; exact rfl; exact rfl)
    | ((with_reducible apply wl_putn_box); exact rfl; exact rfl; (repeat first | exact .hd | apply Sel.tl | apply In.tl); exact rfl; exact rfl; exact rfl; exact rfl)
    | (with_reducible first | apply wl_nil | apply thn_n | apply w_seq | apply w_region | apply w_ret | apply w_skip | apply w_exit | apply w_block | apply thn_r | apply thn_e | apply blk_n | apply blk_r | apply blk_e | apply wr_seq | apply wr_ret | apply wr_exit | apply wr_skip | apply wr_block)
    | ((with_reducible apply w_cond_true); exact rfl)
    | ((with_reducible apply w_cond_false); exact rfl)
    | ((with_reducible apply w_cond) <;> first | exact rfl | (intro hb; (replace hb := Tidy.out hb; try (exfalso; omega))))
    | ((with_reducible apply blk_x); exact rfl))
  · refine end_ret ?_
    refine ret11 (.inl rfl) Try.results44 rfl rfl (by (repeat first | exact .hd | apply Sel.tl | apply In.tl)) (by (repeat first | exact .hd | apply Sel.tl | apply In.tl)) (MSub.nil _) ?_
    rw [if_pos (by assumption)]
  · refine end_ret ?_
    refine ret11 (.inl rfl) Try.results44 rfl rfl (by (repeat first | exact .hd | apply Sel.tl | apply In.tl)) (by (repeat first | exact .hd | apply Sel.tl | apply In.tl)) (MSub.nil _) ?_
    rw [if_neg (by assumption), if_pos (by assumption)]
  rename_i g3 g4 g5 hb1
  rw [if_neg (by assumption), if_neg (by assumption)]
  refine wt_range (ps := [23]) (us := usesF L) (encs := fun u => [.agg (encU u).toArray]) (Hc := [.box gu 22 [.slice Al L.length cl]]) (HU0 := [.box g4 4 [.bool false], .box g5 24 [.int .i64 0], .box g3 38 (encR r)]) rfl (fun _ => rfl) rfl (uses_seq L _ w ht' hlen gu)
    (fun pre HU => HU = [.box g4 4 [.bool false], .box g5 24 [.int .i64 0], .box g3 38 (encR r)] ∧ pre.any (touch r) = false) (fun HU => HU = [.box g4 4 [.bool true], .box g5 24 [.int .i64 0], .box g3 38 (encR r)] ∧ (usesF L).any (touch r) = true) ?_ ⟨rfl, rfl⟩ ?_ ?_ ?_
  · (repeat (first | exact MSub.nil _ | refine MSub.pick (by (repeat first | exact .hd | apply Sel.tl | apply In.tl)) ?_ | exact MSub.refl _ | refine MSub.drop .hd ?_))
  · rintro l pre u post hus _ ⟨rfl, hpre⟩ F F'
    change WR _ _ _ l _ _ ((23, Value.agg (encU u).toArray) :: _) (.box g4 4 [.bool false] :: .box g5 24 [.int .i64 0] :: .box g3 38 (encR r) :: F)
    repeat' (first
      | ((with_reducible apply wl_v); exact rfl; (first | ((with_reducible apply vop_ok); exact rfl) | ((with_reducible apply v_fieldAddr); exact rfl) | ((with_reducible apply v_load_box); exact rfl; (repeat first | exact .hd | apply Sel.tl | apply In.tl); exact rfl) | ((with_reducible apply v_eqlb); exact rfl; exact rfl) | ((with_reducible apply v_neqb); exact rfl; exact rfl) | ((with_reducible apply v_loadw_box); exact rfl; (repeat first | exact .hd | apply Sel.tl | apply In.tl); exact rfl) | ((with_reducible apply v_loadn_box); exact rfl; (repeat first | exact .hd | apply Sel.tl | apply In.tl); exact rfl; exact rfl)))
      | ((with_reducible apply wr_cond_true); exact rfl)
      | ((with_reducible apply wr_cond_false); exact rfl)
      | ((with_reducible apply wr_cond) <;> first | exact rfl | (intro hb; (replace hb := Tidy.out hb; try (exfalso; omega))))
      | ((with_reducible apply wr_region); exact rfl; (repeat (first | exact roundQ_no | exact assignQ_no | apply no_thn | apply no_blk | apply no_cut)))
      | (with_reducible first | apply wt_seq_s | apply wt_seq_r | apply wt_seq_c | apply wt_seq_b | apply wt_seq_k | apply wt_last_r | apply wt_last_ret | apply wt_last_c | apply end_thn_n | apply end_thn_r)
      | ((with_reducible apply wl_boxs); exact rfl; exact rfl; intro _)
      | ((with_reducible apply wl_box1); exact rfl; exact rfl; exact rfl; intro _)
      | ((with_reducible apply wl_alloc); exact rfl; intro _)
      | ((with_reducible apply wl_storen_box); exact rfl; exact rfl; (repeat first | exact .hd | apply Sel.tl | apply In.tl); exact rfl; exact rfl; exact rfl)
      | ((with_reducible apply wl_putn_box); exact rfl; exact rfl; (repeat first | exact .hd | apply Sel.tl | apply In.tl); exact rfl; exact rfl; exact rfl; exact rfl)
      | (with_reducible first | apply wl_nil | apply thn_n | apply w_seq | apply w_region | apply w_ret | apply w_skip | apply w_exit | apply w_block | apply thn_r | apply thn_e | apply blk_n | apply blk_r | apply blk_e | apply wr_seq | apply wr_ret | apply wr_exit | apply wr_skip | apply wr_block)
      | ((with_reducible apply w_cond_true); exact rfl)
      | ((with_reducible apply w_cond_false); exact rfl)
      | ((with_reducible apply w_cond) <;> first | exact rfl | (intro hb; (replace hb := Tidy.out hb; try (exfalso; omega))))
      | ((with_reducible apply blk_x); exact rfl))
    rename_i g8
    refine assign_n ⟨[.box g8 68 (encU u), .box g4 4 [.bool false], .box g5 24 [.int .i64 0], .box g3 38 (encR r)], MSub.refl _, ?_⟩
    change WR _ _ _ l _ _ _ (.box g8 68 (encU u) :: .box g4 4 [.bool false] :: .box g5 24 [.int .i64 0] :: .box g3 38 (encR r) :: F')
    have hmeet := fun w => Meet_at u.rect r w
    have hto : touch r u = (meetR u.rect r).2 := rfl
    generalize meetR u.rect r = mt at hmeet hto
    obtain ⟨mr, mb⟩ := mt
    cases mb
    · repeat' (first
        | ((with_reducible apply wl_callp); exact rfl; exact rfl; (intro w hm; exact hmeet w))
        | ((with_reducible apply wl_v); exact rfl; (first | ((with_reducible apply vop_ok); exact rfl) | ((with_reducible apply v_fieldAddr); exact rfl) | ((with_reducible apply v_load_box); exact rfl; (repeat first | exact .hd | apply Sel.tl | apply In.tl); exact rfl) | ((with_reducible apply v_eqlb); exact rfl; exact rfl) | ((with_reducible apply v_neqb); exact rfl; exact rfl) | ((with_reducible apply v_loadw_box); exact rfl; (repeat first | exact .hd | apply Sel.tl | apply In.tl); exact rfl) | ((with_reducible apply v_loadn_box); exact rfl; (repeat first | exact .hd | apply Sel.tl | apply In.tl); exact rfl; exact rfl)))
        | ((with_reducible apply wr_cond_true); exact rfl)
        | ((with_reducible apply wr_cond_false); exact rfl)
        | ((with_reducible apply wr_cond) <;> first | exact rfl | (intro hb; (replace hb := Tidy.out hb; try (exfalso; omega))))
        | ((with_reducible apply wr_region); exact rfl; (repeat (first | exact roundQ_no | exact assignQ_no | apply no_thn | apply no_blk | apply no_cut)))
        | (with_reducible first | apply wt_seq_s | apply wt_seq_r | apply wt_seq_c | apply wt_seq_b | apply wt_seq_k | apply wt_last_r | apply wt_last_ret | apply wt_last_c | apply end_thn_n | apply end_thn_r)
        | ((with_reducible apply wl_boxs); exact rfl; exact rfl; intro _)
        | ((with_reducible apply wl_box1); exact rfl; exact rfl; exact rfl; intro _)
        | ((with_reducible apply wl_alloc); exact rfl; intro _)
        | ((with_reducible apply wl_storen_box); exact rfl; exact rfl; (repeat first | exact .hd | apply Sel.tl | apply In.tl); exact rfl; exact rfl; exact rfl)
        | ((with_reducible apply wl_putn_box); exact rfl; exact rfl; (repeat first | exact .hd | apply Sel.tl | apply In.tl); exact rfl; exact rfl; exact rfl; exact rfl)
        | (with_reducible first | apply wl_nil | apply thn_n | apply w_seq | apply w_region | apply w_ret | apply w_skip | apply w_exit | apply w_block | apply thn_r | apply thn_e | apply blk_n | apply blk_r | apply blk_e | apply wr_seq | apply wr_ret | apply wr_exit | apply wr_skip | apply wr_block)
        | ((with_reducible apply w_cond_true); exact rfl)
        | ((with_reducible apply w_cond_false); exact rfl)
        | ((with_reducible apply w_cond) <;> first | exact rfl | (intro hb; (replace hb := Tidy.out hb; try (exfalso; omega))))
        | ((with_reducible apply blk_x); exact rfl))
      refine round_n [.box g4 4 [.bool false], .box g5 24 [.int .i64 0], .box g3 38 (encR r)] ?_ ⟨rfl, ?_⟩
      · change MSub (_ :: _ :: _ :: F') _
        (repeat (first | exact MSub.nil _ | refine MSub.pick (by (repeat first | exact .hd | apply Sel.tl | apply In.tl)) ?_ | exact MSub.refl _ | refine MSub.drop .hd ?_))
      · simp [hpre, hto]
    · repeat' (first
        | ((with_reducible apply wl_callp); exact rfl; exact rfl; (intro w hm; exact hmeet w))
        | ((with_reducible apply wl_v); exact rfl; (first | ((with_reducible apply vop_ok); exact rfl) | ((with_reducible apply v_fieldAddr); exact rfl) | ((with_reducible apply v_load_box); exact rfl; (repeat first | exact .hd | apply Sel.tl | apply In.tl); exact rfl) | ((with_reducible apply v_eqlb); exact rfl; exact rfl) | ((with_reducible apply v_neqb); exact rfl; exact rfl) | ((with_reducible apply v_loadw_box); exact rfl; (repeat first | exact .hd | apply Sel.tl | apply In.tl); exact rfl) | ((with_reducible apply v_loadn_box); exact rfl; (repeat first | exact .hd | apply Sel.tl | apply In.tl); exact rfl; exact rfl)))
        | ((with_reducible apply wr_cond_true); exact rfl)
        | ((with_reducible apply wr_cond_false); exact rfl)
        | ((with_reducible apply wr_cond) <;> first | exact rfl | (intro hb; (replace hb := Tidy.out hb; try (exfalso; omega))))
        | ((with_reducible apply wr_region); exact rfl; (repeat (first | exact roundQ_no | exact assignQ_no | apply no_thn | apply no_blk | apply no_cut)))
        | (with_reducible first | apply wt_seq_s | apply wt_seq_r | apply wt_seq_c | apply wt_seq_b | apply wt_seq_k | apply wt_last_r | apply wt_last_ret | apply wt_last_c | apply end_thn_n | apply end_thn_r)
        | ((with_reducible apply wl_boxs); exact rfl; exact rfl; intro _)
        | ((with_reducible apply wl_box1); exact rfl; exact rfl; exact rfl; intro _)
        | ((with_reducible apply wl_alloc); exact rfl; intro _)
        | ((with_reducible apply wl_storen_box); exact rfl; exact rfl; (repeat first | exact .hd | apply Sel.tl | apply In.tl); exact rfl; exact rfl; exact rfl)
        | ((with_reducible apply wl_putn_box); exact rfl; exact rfl; (repeat first | exact .hd | apply Sel.tl | apply In.tl); exact rfl; exact rfl; exact rfl; exact rfl)
        | (with_reducible first | apply wl_nil | apply thn_n | apply w_seq | apply w_region | apply w_ret | apply w_skip | apply w_exit | apply w_block | apply thn_r | apply thn_e | apply blk_n | apply blk_r | apply blk_e | apply wr_seq | apply wr_ret | apply wr_exit | apply wr_skip | apply wr_block)
        | ((with_reducible apply w_cond_true); exact rfl)
        | ((with_reducible apply w_cond_false); exact rfl)
        | ((with_reducible apply w_cond) <;> first | exact rfl | (intro hb; (replace hb := Tidy.out hb; try (exfalso; omega))))
        | ((with_reducible apply blk_x); exact rfl))
      refine round_r [.box g4 4 [.bool true], .box g5 24 [.int .i64 0], .box g3 38 (encR r)] ?_ ⟨rfl, ?_⟩
      · change MSub (_ :: _ :: _ :: F') _
        (repeat (first | exact MSub.nil _ | refine MSub.pick (by (repeat first | exact .hd | apply Sel.tl | apply In.tl)) ?_ | exact MSub.refl _ | refine MSub.drop .hd ?_))
      · rw [hus]
        simp [hto]
  · rintro D _ ⟨rfl, hpre⟩
    change endB _ _ _ _ _ (dObj D :: .box g4 4 [.bool false] :: .box g5 24 [.int .i64 0] :: .box g3 38 (encR r) :: _)
    repeat' (first
      | ((with_reducible apply wl_v); exact rfl; (first | ((with_reducible apply vop_ok); exact rfl) | ((with_reducible apply v_fieldAddr); exact rfl) | ((with_reducible apply v_load_box); exact rfl; (repeat first | exact .hd | apply Sel.tl | apply In.tl); exact rfl) | ((with_reducible apply v_eqlb); exact rfl; exact rfl) | ((with_reducible apply v_neqb); exact rfl; exact rfl) | ((with_reducible apply v_loadw_box); exact rfl; (repeat first | exact .hd | apply Sel.tl | apply In.tl); exact rfl) | ((with_reducible apply v_loadn_box); exact rfl; (repeat first | exact .hd | apply Sel.tl | apply In.tl); exact rfl; exact rfl)))
      | ((with_reducible apply wr_cond_true); exact rfl)
      | ((with_reducible apply wr_cond_false); exact rfl)
      | ((with_reducible apply wr_cond) <;> first | exact rfl | (intro hb; (replace hb := Tidy.out hb; try (exfalso; omega))))
      | ((with_reducible apply wr_region); exact rfl; (repeat (first | exact roundQ_no | exact assignQ_no | apply no_thn | apply no_blk | apply no_cut)))
      | (with_reducible first | apply wt_seq_s | apply wt_seq_r | apply wt_seq_c | apply wt_seq_b | apply wt_seq_k | apply wt_last_r | apply wt_last_ret | apply wt_last_c | apply end_thn_n | apply end_thn_r)
      | ((with_reducible apply wl_boxs); exact rfl; exact rfl; intro _)
      | ((with_reducible apply wl_box1); exact rfl; exact rfl; exact rfl; intro _)
      | ((with_reducible apply wl_alloc); exact rfl; intro _)
      | ((with_reducible apply wl_storen_box); exact rfl; exact rfl; (repeat first | exact .hd | apply Sel.tl | apply In.tl); exact rfl; exact rfl; exact rfl)
      | ((with_reducible apply wl_putn_box); exact rfl; exact rfl; (repeat first | exact .hd | apply Sel.tl | apply In.tl); exact rfl; exact rfl; exact rfl; exact rfl)
      | (with_reducible first | apply wl_nil | apply thn_n | apply w_seq | apply w_region | apply w_ret | apply w_skip | apply w_exit | apply w_block | apply thn_r | apply thn_e | apply blk_n | apply blk_r | apply blk_e | apply wr_seq | apply wr_ret | apply wr_exit | apply wr_skip | apply wr_block)
      | ((with_reducible apply w_cond_true); exact rfl)
      | ((with_reducible apply w_cond_false); exact rfl)
      | ((with_reducible apply w_cond) <;> first | exact rfl | (intro hb; (replace hb := Tidy.out hb; try (exfalso; omega))))
      | ((with_reducible apply blk_x); exact rfl))
    refine end_mark (by (repeat first | exact .hd | apply Sel.tl | apply In.tl)) ?_
    refine ret11 (.inl rfl) Try.results44 rfl rfl (by (repeat first | exact .hd | apply Sel.tl | apply In.tl)) (by (repeat first | exact .hd | apply Sel.tl | apply In.tl)) (MSub.nil _) ?_
    rw [hpre]
  · rintro D _ ⟨rfl, hany⟩
    change endB _ _ _ _ _ (dObj D :: .box g4 4 [.bool true] :: .box g5 24 [.int .i64 0] :: .box g3 38 (encR r) :: _)
    repeat' (first
      | ((with_reducible apply wl_v); exact rfl; (first | ((with_reducible apply vop_ok); exact rfl) | ((with_reducible apply v_fieldAddr); exact rfl) | ((with_reducible apply v_load_box); exact rfl; (repeat first | exact .hd | apply Sel.tl | apply In.tl); exact rfl) | ((with_reducible apply v_eqlb); exact rfl; exact rfl) | ((with_reducible apply v_neqb); exact rfl; exact rfl) | ((with_reducible apply v_loadw_box); exact rfl; (repeat first | exact .hd | apply Sel.tl | apply In.tl); exact rfl) | ((with_reducible apply v_loadn_box); exact rfl; (repeat first | exact .hd | apply Sel.tl | apply In.tl); exact rfl; exact rfl)))
      | ((with_reducible apply wr_cond_true); exact rfl)
      | ((with_reducible apply wr_cond_false); exact rfl)
      | ((with_reducible apply wr_cond) <;> first | exact rfl | (intro hb; (replace hb := Tidy.out hb; try (exfalso; omega))))
      | ((with_reducible apply wr_region); exact rfl; (repeat (first | exact roundQ_no | exact assignQ_no | apply no_thn | apply no_blk | apply no_cut)))
      | (with_reducible first | apply wt_seq_s | apply wt_seq_r | apply wt_seq_c | apply wt_seq_b | apply wt_seq_k | apply wt_last_r | apply wt_last_ret | apply wt_last_c | apply end_thn_n | apply end_thn_r)
      | ((with_reducible apply wl_boxs); exact rfl; exact rfl; intro _)
      | ((with_reducible apply wl_box1); exact rfl; exact rfl; exact rfl; intro _)
      | ((with_reducible apply wl_alloc); exact rfl; intro _)
      | ((with_reducible apply wl_storen_box); exact rfl; exact rfl; (repeat first | exact .hd | apply Sel.tl | apply In.tl); exact rfl; exact rfl; exact rfl)
      | ((with_reducible apply wl_putn_box); exact rfl; exact rfl; (repeat first | exact .hd | apply Sel.tl | apply In.tl); exact rfl; exact rfl; exact rfl; exact rfl)
      | (with_reducible first | apply wl_nil | apply thn_n | apply w_seq | apply w_region | apply w_ret | apply w_skip | apply w_exit | apply w_block | apply thn_r | apply thn_e | apply blk_n | apply blk_r | apply blk_e | apply wr_seq | apply wr_ret | apply wr_exit | apply wr_skip | apply wr_block)
      | ((with_reducible apply w_cond_true); exact rfl)
      | ((with_reducible apply w_cond_false); exact rfl)
      | ((with_reducible apply w_cond) <;> first | exact rfl | (intro hb; (replace hb := Tidy.out hb; try (exfalso; omega))))
      | ((with_reducible apply blk_x); exact rfl))
    refine end_mark (by (repeat first | exact .hd | apply Sel.tl | apply In.tl)) ?_
    refine ret11 (.inl rfl) Try.results44 rfl rfl (by (repeat first | exact .hd | apply Sel.tl | apply In.tl)) (by (repeat first | exact .hd | apply Sel.tl | apply In.tl)) (MSub.nil _) ?_
    rw [hany]
end Go.SL

/-
  Uses by parents: a use's parent is a function that may be released exactly if that function is the next node. No program in sight.
-/
namespace Go.SL
open Go

theorem stepF_len {n : Nd} {st l top : List STree} (hs : stepF n st = .inr (l, top)) : fieldsE n = 0 ∧ (top.length : Int) = below n := by
  unfold stepF at hs
  split at hs
  · cases hs
  rename_i hf
  split at hs
  · cases hs
  rename_i hb
  split at hs
  · cases hs
  simp only [Sum.inr.injEq, Prod.mk.injEq] at hs
  obtain ⟨rfl, rfl⟩ := hs
  have hlk : (lastK st (below n).toNat).length = min st.length (below n).toNat := by simp [lastK]; omega
  have hb0 : (0 : Int) ≤ below n := by
    have hk : kindOk n = true := by
      cases hk : kindOk n
      · exfalso
        apply hf
        intro h0
        simp [fieldsE, hk] at h0
      · rfl
    unfold below
    by_cases h7 : n.kind = 7
    · simp [kindOk, h7] at hk
      simp [h7]; exact hk
    · (repeat' split) <;> omega
  have hle : ¬ (st.length : Int) < below n := fun h => hb (Or.inl h)
  exact ⟨by omega, by omega⟩

def LenOk (h : Hist) : Prop := ∀ (j : Nat) (y : List STree × STree), h[j]? = some y → ∃ n, (y.1.length : Int) = below n ∧ y.2 = nodeF n y.1 ∧ fieldsE n = 0
theorem Whole.lens {L : List Nd} {S : STree} {h : Hist} (hW : Whole L S h) : LenOk h := by
  refine walkF_ind (fun _ h => LenOk h) (fun dn n st h l top hI hP hs => ?_) L [] [] [] [S] h ?_ ?_ hW.walk
  · intro j y hy
    by_cases hj : j < h.length
    · rw [List.getElem?_append_left hj] at hy
      exact hP j y hy
    · rw [List.getElem?_append_right (by omega)] at hy
      obtain ⟨h1, h2⟩ := stepF_len hs
      have e : y = (top, nodeF n top) := by
        cases hq : j - h.length with
        | zero => rw [hq] at hy; exact (Option.some.inj hy).symm
        | succ k => rw [hq] at hy; simp at hy
      subst e
      exact ⟨n, h2, rfl, h1⟩
  · exact Inv.nil
  · intro j y hy
    simp at hy

def relN (m : Nd) : Prop := m.kind = 7 ∧ 46 ≤ m.fn

theorem rel_one {m : Nd} (hf : fieldsE m = 0) (hr : relN m) : below m = 1 := by
  obtain ⟨h7, h46⟩ := hr
  unfold fieldsE at hf
  split at hf
  · cases hf
  rw [if_neg (show ¬ m.kind ≠ 7 by omega)] at hf
  split at hf
  · rename_i h; exact absurd hf h
  rename_i ha
  split at hf
  · cases hf
  rename_i hn
  have h50 : m.fn ≤ 50 := by
    by_cases h : m.fn ≤ 50
    · exact h
    · exfalso
      apply ha
      have hk : knownF m.fn = false := by
        unfold knownF
        rw [decide_eq_true (show 1 ≤ m.fn by omega), decide_eq_false h]
        rfl
      unfold arity
      rw [hk, if_neg (by omega), if_neg (by omega), if_neg (by omega), if_neg (by omega), if_neg (by omega), if_neg (by omega)]
      decide
  have har : arity m.fn = (1, 1, 0) := by
    have : m.fn = 46 ∨ m.fn = 47 ∨ m.fn = 48 ∨ m.fn = 49 ∨ m.fn = 50 := by omega
    rcases this with h | h | h | h | h <;> rw [h] <;> decide +kernel
  rw [har] at hn
  dsimp only at hn
  unfold below
  rw [if_neg (by omega), if_neg (by omega), if_pos h7]
  omega

/-- The parent of node i: none, or a later node; a function that may be released is the parent of the node before it and of no other. -/
theorem parent_use {L : List Nd} {S : STree} {h : Hist} (hW : Whole L S h) {i : Nat} (hi : i < L.length) :
    ∃ u : Int, (parH h)[i]? = some u ∧ (u = -1 ∨ ∃ j : Nat, u = (j : Int) ∧ j < L.length) ∧ (∀ m, L[i + 1]? = some m → relN m → u = ((i + 1 : Nat) : Int)) ∧ (∀ (j : Nat) m, u = (j : Int) → L[j]? = some m → relN m → j = i + 1) := by
  have hHl := hW.inv.len
  have key : ∀ j m, L[j]? = some m → relN m → ∃ y, h[j]? = some y ∧ 0 < j ∧ kidsH j y = [j - 1] := by
    intro j m hm hr
    have hj : j < L.length := (List.getElem?_eq_some_iff.1 hm).1
    obtain ⟨y, hy⟩ : ∃ y, h[j]? = some y := ⟨_, List.getElem?_eq_getElem (by omega)⟩
    obtain ⟨n, hn, e2, hgt, hgT, hTl, hseg⟩ := hW.inv.node j y hy
    obtain ⟨n', hl', e2', hf'⟩ := hW.lens j y hy
    have hnn : n' = n := by
      rw [e2] at e2'
      have := congrArg (fun T : STree => T.ns.getLast?) e2'
      simpa [nodeF] using this.symm
    subst hnn
    rw [hm] at hn
    obtain rfl := Option.some.inj hn
    rw [rel_one hf' hr] at hl'
    obtain ⟨T, hT⟩ : ∃ T, y.1 = [T] := by
      match hq : y.1, hl' with
      | [T], _ => exact ⟨T, rfl⟩
      | [], h => simp at h
      | _ :: _ :: _, h => simp at h; omega
    have hlen : y.2.ns.length = T.ns.length + 1 := by rw [e2, nodeF_len, hT]; simp [flatS]
    have hTp : 0 < T.ns.length := (hgt T (by rw [hT]; simp)).pos
    refine ⟨y, hy, by omega, ?_⟩
    unfold kidsH lo
    rw [hT]
    simp only [rootsFrom, List.cons.injEq, and_true]
    omega
  have hpk := hW.parOk
  have hup : ∃ u : Int, (parH h)[i]? = some u ∧ (u = -1 ∨ ∃ j : Nat, u = (j : Int) ∧ j < L.length ∧ ∃ y, h[j]? = some y ∧ i ∈ kidsH j y) := by
    rcases hW.inv.up i (by omega) with hr | ⟨j, y, hy, hk⟩
    · exact ⟨-1, hpk.root i hr, .inl rfl⟩
    · have hj : j < h.length := (List.getElem?_eq_some_iff.1 hy).1
      exact ⟨(j : Int), hpk.kid j y hy i hk, .inr ⟨j, rfl, by omega, y, hy, hk⟩⟩
  obtain ⟨u, hu, hcase⟩ := hup
  refine ⟨u, hu, ?_, ?_, ?_⟩
  · rcases hcase with h | ⟨j, h1, h2, _⟩
    · exact .inl h
    · exact .inr ⟨j, h1, h2⟩
  · intro m hm hr
    obtain ⟨y, hy, _, hk⟩ := key (i + 1) m hm hr
    have := hpk.kid (i + 1) y hy i (by rw [hk]; simp)
    rw [hu] at this
    exact Option.some.inj this
  · intro j m hj hm hr
    rcases hcase with h | ⟨j', h1, h2, y', hy', hk'⟩
    · omega
    · obtain rfl : j = j' := by omega
      obtain ⟨y, hy, hp, hk⟩ := key j m hm hr
      rw [hy'] at hy
      obtain rfl := Option.some.inj hy
      rw [hk] at hk'
      have := List.mem_singleton.1 hk'
      omega
end Go.SL

/-
  What Move of package refs returns.
-/
namespace Go.SL
open Go Go.Proofs
attribute [local irreducible] W WL WQ WG WA VOp thn blk cutP retP FnAt FnIn Held

def farF (b : Int) : Bool := decide (b ≤ -1024) || decide (1024 ≤ b)
def mvR (c o : Int) (r : Rct) : Rct := ⟨IntKind.i64.wrap (r.c1 + c), IntKind.i64.wrap (r.r1 + o), IntKind.i64.wrap (r.c2 + c), IntKind.i64.wrap (r.r2 + o)⟩
def mvN (c o : Int) (n : Nd) : Nd := bif rangesF n then { n with rect := mvR c o n.rect } else n
def stuckN (c o : Int) (n : Nd) : Bool := rangesF n && (farF c || farF o || decide (rectE (mvR c o n.rect) ≠ 0))
def moveE (L : List Nd) (c o : Int) : List Nd × Int := if checkE L ≠ 0 then ([], checkE L) else if L.any (stuckN c o) = true then ([], 3) else (L.map (mvN c o), 0)

theorem far_at (b : Int) (w : World) : Pure Try.prog 71 [.int .i64 b, .int .i64 1024] w (.bool (farF b)) := by
  refine fn_at Try.func71 rfl Try.ntmps71 rfl ?_
  repeat' (first
    | ((with_reducible apply wl_v); exact rfl; (with_reducible apply v_neg); exact rfl; (unfold I64; omega))
    | ((with_reducible apply wl_v); exact rfl; (first | ((with_reducible apply vop_ok); exact rfl)))
    | ((with_reducible apply wl_gyes); exact rfl; exact rfl)
    | ((with_reducible apply wl_gno_b); exact rfl; exact rfl; exact rfl; exact rfl)
    | ((with_reducible apply wl_gno_u); exact rfl; exact rfl; exact rfl)
    | ((with_reducible apply wl_gsplit) <;> first | exact rfl | (intro hb; (replace hb := Tidy.out hb; try (exfalso; omega))))
    | (with_reducible first | apply wl_nil | apply thn_n | apply w_seq | apply w_region | apply w_ret | apply w_skip | apply w_exit | apply w_block | apply thn_r | apply thn_e | apply blk_n | apply blk_r | apply blk_e)
    | ((with_reducible apply w_cond_true); exact rfl)
    | ((with_reducible apply w_cond_false); exact rfl)
    | ((with_reducible apply w_cond) <;> first | exact rfl | (intro hb; (replace hb := Tidy.out hb; try (exfalso; omega))))
    | ((with_reducible apply blk_x); exact rfl))
  all_goals
    ((with_reducible apply ret1); exact .inl rfl; exact rfl; exact rfl; exact MSub.nil _)
    simp [farF, *]
    try (intro h; omega)

theorem put_rect (Lc : List Nd) (i : Nat) (hi : i < Lc.length) (r : Rct) : (Lc.flatMap encN).take (i * 11 + 4) ++ encR r ++ (Lc.flatMap encN).drop (i * 11 + 4 + 4) = (Lc.set i { Lc[i] with rect := r }).flatMap encN := by
  rw [← flat_set encN_len Lc i hi]
  have h1 : Lc.flatMap encN = (Lc.flatMap encN).take (i * 11) ++ (encN Lc[i] ++ (Lc.flatMap encN).drop (i * 11 + 11)) := by
    rw [← flat_elem encN_len Lc i hi]
    conv => lhs; rw [← List.take_append_drop (i * 11) (Lc.flatMap encN)]
    congr 1
    conv => lhs; rw [← List.take_append_drop 11 ((Lc.flatMap encN).drop (i * 11))]
    rw [List.drop_drop]
  have hl : ((Lc.flatMap encN).take (i * 11)).length = i * 11 := by
    rw [List.length_take, flat_length' encN_len]; omega
  generalize (Lc.flatMap encN).take (i * 11) = X at h1 hl
  generalize (Lc.flatMap encN).drop (i * 11 + 11) = S at h1
  rw [h1, ← hl, List.take_length_add_append, Nat.add_assoc, List.drop_length_add_append]
  simp [encN, encR]

set_option maxRecDepth 20000 in
set_option maxHeartbeats 4000000 in
theorem Move_at (L : List Nd) (c o : Int) (tv : Value) (w : World) (ht : Reads w tv L.length (L.flatMap encN)) (hlen : L.length ≤ 1000000) :
    FnAt Try.prog 48 [tv, .int .i64 c, .int .i64 o] w fun v H => ∃ A cap, v = .tuple #[sl A (moveE L c o).1.length cap, .int .i64 (moveE L c o).2] ∧ H = [.own A 40 11 (moveE L c o).1.length cap ((moveE L c o).1.flatMap encN)] := by
  have ht' := ht
  obtain ⟨Al, cl, rfl, hl1, hl2, hl3⟩ := ht
  refine fn_at Try.func48 rfl Try.ntmps48 rfl ?_
  refine w_nilrow 40 11 ?_
  have hck := fun w0 (hm : Reads w0 (.slice Al L.length cl) L.length (L.flatMap encN)) => Check_at L _ w0 hm
  have hne : checkE L = 0 → 0 < L.length := by
    intro h
    cases L with
    | nil => exact absurd h (by decide +kernel)
    | cons a r => simp
  unfold moveE
  generalize checkE L = e at hck hne
  by_cases hb0 : e = 0
  rotate_left
  · repeat' (first
      | ((with_reducible apply wl_callp); exact rfl; exact rfl; (intro w' hm; exact hck w' (ht'.of_w0 hm)))
      | ((with_reducible apply wl_v); exact rfl; (first | ((with_reducible apply vop_ok); exact rfl) | ((with_reducible apply v_fieldAddr); exact rfl) | ((with_reducible apply v_len); exact rfl) | ((with_reducible apply v_lens); exact rfl) | ((with_reducible apply v_load_box); exact rfl; (repeat first | exact .hd | apply Sel.tl | apply In.tl); exact rfl) | ((with_reducible apply v_eqlb); exact rfl; exact rfl) | ((with_reducible apply v_neqb); exact rfl; exact rfl) | ((with_reducible apply v_loadw_box); exact rfl; (repeat first | exact .hd | apply Sel.tl | apply In.tl); exact rfl) | ((with_reducible apply v_loadn_box); exact rfl; (repeat first | exact .hd | apply Sel.tl | apply In.tl); exact rfl; exact rfl) | ((with_reducible apply v_build); exact rfl; exact rfl; exact rfl)))
      | ((with_reducible apply wl_gyes); exact rfl; exact rfl)
      | ((with_reducible apply wl_gno_b); exact rfl; exact rfl; exact rfl; exact rfl)
      | ((with_reducible apply wl_gno_u); exact rfl; exact rfl; exact rfl)
      | ((with_reducible apply wl_alloc); exact rfl; intro _)
      | ((with_reducible apply wl_storen_box); exact rfl; exact rfl; (repeat first | exact .hd | apply Sel.tl | apply In.tl); exact rfl; exact rfl; exact rfl)
      | ((with_reducible apply wl_putn_box); exact rfl; exact rfl; (repeat first | exact .hd | apply Sel.tl | apply In.tl); exact rfl; exact rfl; exact rfl; exact rfl)
      | ((with_reducible apply wl_gsplit) <;> first | exact rfl | (intro hb; (replace hb := Tidy.out hb; try (exfalso; omega))))
      | (with_reducible first | apply wl_nil | apply thn_n | apply w_seq | apply w_region | apply w_ret | apply w_skip | apply w_exit | apply w_block | apply thn_r | apply thn_e | apply blk_n | apply blk_r | apply blk_e)
      | ((with_reducible apply w_cond_true); exact rfl)
      | ((with_reducible apply w_cond_false); exact rfl)
      | ((with_reducible apply w_cond) <;> first | exact rfl | (intro hb; (replace hb := Tidy.out hb; try (exfalso; omega))))
      | ((with_reducible apply blk_x); exact rfl))
    refine ret2 (.inl rfl) Try.results48 rfl rfl (H' := [.own none 40 11 0 0 []]) (by (repeat (first | exact MSub.nil _ | refine MSub.pick (by (repeat first | exact .hd | apply Sel.tl | apply In.tl)) ?_ | exact MSub.refl _ | refine MSub.drop .hd ?_))) ⟨none, 0, ?_⟩
    rw [if_pos hb0]
    exact ⟨rfl, rfl⟩
  rw [if_neg (by omega)]
  have hN := hne hb0
  obtain ⟨gl, ol, rfl, hrl⟩ := hl3 hN
  have hfl := flat_length' encN_len L
  repeat' (first
    | ((with_reducible apply wl_callp); exact rfl; exact rfl; (intro w' hm; exact hck w' (ht'.of_w0 hm)))
    | ((with_reducible apply wl_makeSlice (c := L.length)); exact rfl; exact rfl; exact rfl; omega; (simp only [maxLen]; omega); (intro gO))
    | ((with_reducible apply wl_copy); exact rfl; exact rfl; exact rfl; (repeat first | exact .hd | apply Sel.tl | apply In.tl); exact hrl; exact hfl; exact encNs_one L)
    | ((with_reducible apply wl_v); exact rfl; (first | ((with_reducible apply vop_ok); exact rfl) | ((with_reducible apply v_fieldAddr); exact rfl) | ((with_reducible apply v_len); exact rfl) | ((with_reducible apply v_lens); exact rfl) | ((with_reducible apply v_load_box); exact rfl; (repeat first | exact .hd | apply Sel.tl | apply In.tl); exact rfl) | ((with_reducible apply v_eqlb); exact rfl; exact rfl) | ((with_reducible apply v_neqb); exact rfl; exact rfl) | ((with_reducible apply v_loadw_box); exact rfl; (repeat first | exact .hd | apply Sel.tl | apply In.tl); exact rfl) | ((with_reducible apply v_loadn_box); exact rfl; (repeat first | exact .hd | apply Sel.tl | apply In.tl); exact rfl; exact rfl) | ((with_reducible apply v_build); exact rfl; exact rfl; exact rfl)))
    | ((with_reducible apply wl_gyes); exact rfl; exact rfl)
    | ((with_reducible apply wl_gno_b); exact rfl; exact rfl; exact rfl; exact rfl)
    | ((with_reducible apply wl_gno_u); exact rfl; exact rfl; exact rfl)
    | ((with_reducible apply wl_alloc); exact rfl; intro _)
    | ((with_reducible apply wl_storen_box); exact rfl; exact rfl; (repeat first | exact .hd | apply Sel.tl | apply In.tl); exact rfl; exact rfl; exact rfl)
    | ((with_reducible apply wl_putn_box); exact rfl; exact rfl; (repeat first | exact .hd | apply Sel.tl | apply In.tl); exact rfl; exact rfl; exact rfl; exact rfl)
    | ((with_reducible apply wl_gsplit) <;> first | exact rfl | (intro hb; (replace hb := Tidy.out hb; try (exfalso; omega))))
    | (with_reducible first | apply wl_nil | apply thn_n | apply w_seq | apply w_region | apply w_ret | apply w_skip | apply w_exit | apply w_block | apply thn_r | apply thn_e | apply blk_n | apply blk_r | apply blk_e)
    | ((with_reducible apply w_cond_true); exact rfl)
    | ((with_reducible apply w_cond_false); exact rfl)
    | ((with_reducible apply w_cond) <;> first | exact rfl | (intro hb; (replace hb := Tidy.out hb; try (exfalso; omega))))
    | ((with_reducible apply blk_x); exact rfl))
  refine w_loop (fun y : Nat × List Nd => [(1, .int .i64 c), (2, .int .i64 o), (9, .slice (some ⟨gO, 0, none⟩) L.length L.length), (10, .func (.func 71) #[] #[]), (25, .slice (some ⟨gO, 0, none⟩) L.length L.length), (26, .int .i64 (L.length : Int)), (27, .int .i64 (y.1 : Int))])
    (fun y => [.own (some gO) 40 11 L.length L.length (y.2.flatMap encN), .own none 40 11 0 0 []])
    (fun y => y.1 ≤ L.length ∧ y.2 = (L.take y.1).map (mvN c o) ++ L.drop y.1 ∧ (L.take y.1).any (stuckN c o) = false) (fun y => L.length - y.1) (0, L) ⟨by omega, rfl, rfl⟩ ?_ ?_ ?_
  · (repeat (first | exact Sub.nil _ | refine Sub.cons rfl ?_))
  · (repeat (first | exact MSub.nil _ | refine MSub.pick (by (repeat first | exact .hd | apply Sel.tl | apply In.tl)) ?_ | exact MSub.refl _ | refine MSub.drop .hd ?_))
  rintro ⟨i, Lc⟩ ⟨hi, hLc, hst⟩
  dsimp only at hi hLc hst ⊢
  by_cases hlt : i < L.length
  · have hlc : Lc.length = L.length := by rw [hLc]; simp; omega
    have hltc : i < Lc.length := by omega
    have htl : ((L.take i).map (mvN c o)).length = i := by simp; omega
    have hget : Lc[i]? = some L[i] := by
      rw [hLc, List.getElem?_append_right (by omega), htl, Nat.sub_self, List.drop_eq_getElem_cons hlt]
      rfl
    have hset : Lc.set i (mvN c o L[i]) = (L.take (i + 1)).map (mvN c o) ++ L.drop (i + 1) := by
      rw [hLc, List.set_append_right _ _ (by omega), htl, Nat.sub_self, List.drop_eq_getElem_cons hlt, List.set_cons_zero, List.take_succ_eq_append_getElem hlt, List.map_append, List.append_assoc]
      rfl
    have hkeep : mvN c o L[i] = L[i] → Lc = (L.take (i + 1)).map (mvN c o) ++ L.drop (i + 1) := by
      intro h
      rw [List.take_succ_eq_append_getElem hlt, List.map_append, List.append_assoc, List.map_cons, List.map_nil, h, List.singleton_append, ← List.drop_eq_getElem_cons hlt]
      exact hLc
    have hst1 : (L.take (i + 1)).any (stuckN c o) = stuckN c o L[i] := by
      rw [List.take_succ_eq_append_getElem hlt, List.any_append, hst]; simp
    have hstL : stuckN c o L[i] = true → L.any (stuckN c o) = true := fun h => List.any_eq_true.2 ⟨_, List.getElem_mem hlt, h⟩
    have hput := put_rect Lc i hltc
    have hgi : Lc[i] = L[i] := by
      have := List.getElem?_eq_getElem hltc
      rw [hget] at this
      exact (Option.some.inj this).symm
    rw [hgi] at hput
    generalize L[i] = n at hget hset hkeep hst1 hstL hput
    have hran := fun w => ranges_at n w
    have hmv : mvN c o n = bif rangesF n then { n with rect := mvR c o n.rect } else n := rfl
    have hsk : stuckN c o n = (rangesF n && (farF c || farF o || decide (rectE (mvR c o n.rect) ≠ 0))) := rfl
    generalize rangesF n = q at hran hmv hsk
    have hf1 := fun w => far_at c w
    have hf2 := fun w => far_at o w
    have hrc := fun w => rect_at (mvR c o n.rect) w
    cases q
    · repeat' (first
        | ((with_reducible apply wl_v); exact rfl; (with_reducible apply v_indexAddr); exact rfl; exact rfl; exact hlt)
        | ((with_reducible apply wl_v); exact rfl; (with_reducible apply v_loadi_own); exact encN_len; exact rfl; (repeat first | exact .hd | apply Sel.tl | apply In.tl); exact hget)
        | ((with_reducible apply wl_callp); exact rfl; exact rfl; (intro w hm; exact hran w))
        | ((with_reducible apply wl_v); exact rfl; (first | ((with_reducible apply vop_ok); exact rfl) | ((with_reducible apply v_fieldAddr); exact rfl) | ((with_reducible apply v_len); exact rfl) | ((with_reducible apply v_lens); exact rfl) | ((with_reducible apply v_load_box); exact rfl; (repeat first | exact .hd | apply Sel.tl | apply In.tl); exact rfl) | ((with_reducible apply v_eqlb); exact rfl; exact rfl) | ((with_reducible apply v_neqb); exact rfl; exact rfl) | ((with_reducible apply v_loadw_box); exact rfl; (repeat first | exact .hd | apply Sel.tl | apply In.tl); exact rfl) | ((with_reducible apply v_loadn_box); exact rfl; (repeat first | exact .hd | apply Sel.tl | apply In.tl); exact rfl; exact rfl) | ((with_reducible apply v_build); exact rfl; exact rfl; exact rfl)))
        | ((with_reducible apply wl_gyes); exact rfl; exact rfl)
        | ((with_reducible apply wl_gno_b); exact rfl; exact rfl; exact rfl; exact rfl)
        | ((with_reducible apply wl_gno_u); exact rfl; exact rfl; exact rfl)
        | ((with_reducible apply wl_alloc); exact rfl; intro _)
        | ((with_reducible apply wl_storen_box); exact rfl; exact rfl; (repeat first | exact .hd | apply Sel.tl | apply In.tl); exact rfl; exact rfl; exact rfl)
        | ((with_reducible apply wl_putn_box); exact rfl; exact rfl; (repeat first | exact .hd | apply Sel.tl | apply In.tl); exact rfl; exact rfl; exact rfl; exact rfl)
        | ((with_reducible apply wl_gsplit) <;> first | exact rfl | (intro hb; (replace hb := Tidy.out hb; try (exfalso; omega))))
        | (with_reducible first | apply wl_nil | apply thn_n | apply w_seq | apply w_region | apply w_ret | apply w_skip | apply w_exit | apply w_block | apply thn_r | apply thn_e | apply blk_n | apply blk_r | apply blk_e)
        | ((with_reducible apply w_cond_true); exact rfl)
        | ((with_reducible apply w_cond_false); exact rfl)
        | ((with_reducible apply w_cond) <;> first | exact rfl | (intro hb; (replace hb := Tidy.out hb; try (exfalso; omega))))
        | ((with_reducible apply blk_x); exact rfl)
        | ((with_reducible apply wl_v); exact rfl; (with_reducible apply v_succN); exact rfl; exact rfl; (simp only [maxLen] at *; omega))
        | ((with_reducible apply wl_v); exact rfl; (with_reducible apply v_1addN); exact rfl; exact rfl; (simp only [maxLen] at *; omega))
        | ((with_reducible apply wl_v); exact rfl; (with_reducible apply v_addN); exact rfl; exact rfl; (simp only [maxLen] at *; omega)))
      refine ⟨(i + 1, Lc), ⟨hlt, hkeep (by rw [hmv]; rfl), by rw [hst1, hsk]; rfl⟩, (by dsimp only; omega), ?_, ?_⟩
      · (repeat (first | exact Sub.nil _ | refine Sub.cons rfl ?_))
      · (repeat (first | exact MSub.nil _ | refine MSub.pick (by (repeat first | exact .hd | apply Sel.tl | apply In.tl)) ?_ | exact MSub.refl _ | refine MSub.drop .hd ?_))
    generalize hfe1 : farF c = f1 at hf1 hsk
    generalize hfe2 : farF o = f2 at hf2 hsk
    generalize hre : rectE (mvR c o n.rect) = re at hrc hsk
    repeat' (first
      | ((with_reducible apply wl_v); exact rfl; (with_reducible apply v_indexAddr); exact rfl; exact rfl; exact hlt)
      | ((with_reducible apply wl_v); exact rfl; (with_reducible apply v_loadi_own); exact encN_len; exact rfl; (repeat first | exact .hd | apply Sel.tl | apply In.tl); exact hget)
      | ((with_reducible apply wl_v (d := 47)); exact rfl; (with_reducible apply v_addw); exact rfl; exact rfl)
      | ((with_reducible apply wl_v (d := 52)); exact rfl; (with_reducible apply v_addw); exact rfl; exact rfl)
      | ((with_reducible apply wl_v (d := 57)); exact rfl; (with_reducible apply v_addw); exact rfl; exact rfl)
      | ((with_reducible apply wl_v (d := 62)); exact rfl; (with_reducible apply v_addw); exact rfl; exact rfl)
      | ((with_reducible apply wl_callp); exact rfl; exact rfl; (intro w hm; exact hran w))
      | ((with_reducible apply wl_callvp); exact rfl; exact rfl; infer_instance; exact rfl; (intro w hm; exact hf1 w))
      | ((with_reducible apply wl_callvp); exact rfl; exact rfl; infer_instance; exact rfl; (intro w hm; exact hf2 w))
      | ((with_reducible apply wl_callp); exact rfl; exact rfl; (intro w hm; exact hrc w))
      | ((with_reducible apply wl_put_own (vs := encR (mvR c o n.rect))); exact rfl; exact rfl; (repeat first | exact .hd | apply Sel.tl | apply In.tl); exact rfl; exact rfl; (simp [encR, Value.oneCell']); (rw [flat_length' encN_len]; omega))
      | ((with_reducible apply wl_v); exact rfl; (first | ((with_reducible apply vop_ok); exact rfl) | ((with_reducible apply v_fieldAddr); exact rfl) | ((with_reducible apply v_len); exact rfl) | ((with_reducible apply v_lens); exact rfl) | ((with_reducible apply v_load_box); exact rfl; (repeat first | exact .hd | apply Sel.tl | apply In.tl); exact rfl) | ((with_reducible apply v_eqlb); exact rfl; exact rfl) | ((with_reducible apply v_neqb); exact rfl; exact rfl) | ((with_reducible apply v_loadw_box); exact rfl; (repeat first | exact .hd | apply Sel.tl | apply In.tl); exact rfl) | ((with_reducible apply v_loadn_box); exact rfl; (repeat first | exact .hd | apply Sel.tl | apply In.tl); exact rfl; exact rfl) | ((with_reducible apply v_build); exact rfl; exact rfl; exact rfl)))
      | ((with_reducible apply wl_gyes); exact rfl; exact rfl)
      | ((with_reducible apply wl_gno_b); exact rfl; exact rfl; exact rfl; exact rfl)
      | ((with_reducible apply wl_gno_u); exact rfl; exact rfl; exact rfl)
      | ((with_reducible apply wl_alloc); exact rfl; intro _)
      | ((with_reducible apply wl_storen_box); exact rfl; exact rfl; (repeat first | exact .hd | apply Sel.tl | apply In.tl); exact rfl; exact rfl; exact rfl)
      | ((with_reducible apply wl_putn_box); exact rfl; exact rfl; (repeat first | exact .hd | apply Sel.tl | apply In.tl); exact rfl; exact rfl; exact rfl; exact rfl)
      | ((with_reducible apply wl_gsplit) <;> first | exact rfl | (intro hb; (replace hb := Tidy.out hb; try (exfalso; omega))))
      | (with_reducible first | apply wl_nil | apply thn_n | apply w_seq | apply w_region | apply w_ret | apply w_skip | apply w_exit | apply w_block | apply thn_r | apply thn_e | apply blk_n | apply blk_r | apply blk_e)
      | ((with_reducible apply w_cond_true); exact rfl)
      | ((with_reducible apply w_cond_false); exact rfl)
      | ((with_reducible apply w_cond) <;> first | exact rfl | (intro hb; (replace hb := Tidy.out hb; try (exfalso; omega))))
      | ((with_reducible apply blk_x); exact rfl)
      | ((with_reducible apply wl_v); exact rfl; (with_reducible apply v_succN); exact rfl; exact rfl; (simp only [maxLen] at *; omega))
      | ((with_reducible apply wl_v); exact rfl; (with_reducible apply v_1addN); exact rfl; exact rfl; (simp only [maxLen] at *; omega))
      | ((with_reducible apply wl_v); exact rfl; (with_reducible apply v_addN); exact rfl; exact rfl; (simp only [maxLen] at *; omega)))
    · have hs := hstL (by rw [hsk]; simp [*])
      refine ret2 (.inl rfl) Try.results48 rfl rfl (H' := [.own none 40 11 0 0 []]) (by (repeat (first | exact MSub.nil _ | refine MSub.pick (by (repeat first | exact .hd | apply Sel.tl | apply In.tl)) ?_ | exact MSub.refl _ | refine MSub.drop .hd ?_))) ⟨none, 0, ?_⟩
      rw [if_pos hs]
      exact ⟨rfl, rfl⟩
    · have hs := hstL (by rw [hsk]; simp [*])
      refine ret2 (.inl rfl) Try.results48 rfl rfl (H' := [.own none 40 11 0 0 []]) (by (repeat (first | exact MSub.nil _ | refine MSub.pick (by (repeat first | exact .hd | apply Sel.tl | apply In.tl)) ?_ | exact MSub.refl _ | refine MSub.drop .hd ?_))) ⟨none, 0, ?_⟩
      rw [if_pos hs]
      exact ⟨rfl, rfl⟩
    · have hs := hstL (by rw [hsk]; simp [*])
      refine ret2 (.inl rfl) Try.results48 rfl rfl (H' := [.own none 40 11 0 0 []]) (by (repeat (first | exact MSub.nil _ | refine MSub.pick (by (repeat first | exact .hd | apply Sel.tl | apply In.tl)) ?_ | exact MSub.refl _ | refine MSub.drop .hd ?_))) ⟨none, 0, ?_⟩
      rw [if_pos hs]
      exact ⟨rfl, rfl⟩
    · have hs : stuckN c o n = false := by
        rw [hsk]
        have h3 : re = 0 := by omega
        simp [*]
      rw [hmv, cond_true] at hset
      refine ⟨(i + 1, Lc.set i { n with rect := mvR c o n.rect }), ⟨hlt, hset, hst1.trans hs⟩, (by dsimp only; omega), ?_, ?_⟩
      · (repeat (first | exact Sub.nil _ | refine Sub.cons rfl ?_))
      · dsimp only
        rw [← hput (mvR c o n.rect)]
        simp only [Nat.zero_add]
        (repeat (first | exact MSub.nil _ | refine MSub.pick (by (repeat first | exact .hd | apply Sel.tl | apply In.tl)) ?_ | exact MSub.refl _ | refine MSub.drop .hd ?_))
  · have e : i = L.length := by omega
    subst e
    rw [List.take_length] at hLc hst
    rw [List.drop_length, List.append_nil] at hLc
    repeat' (first
      | ((with_reducible apply wl_v); exact rfl; (first | ((with_reducible apply vop_ok); exact rfl) | ((with_reducible apply v_fieldAddr); exact rfl) | ((with_reducible apply v_len); exact rfl) | ((with_reducible apply v_lens); exact rfl) | ((with_reducible apply v_load_box); exact rfl; (repeat first | exact .hd | apply Sel.tl | apply In.tl); exact rfl) | ((with_reducible apply v_eqlb); exact rfl; exact rfl) | ((with_reducible apply v_neqb); exact rfl; exact rfl) | ((with_reducible apply v_loadw_box); exact rfl; (repeat first | exact .hd | apply Sel.tl | apply In.tl); exact rfl) | ((with_reducible apply v_loadn_box); exact rfl; (repeat first | exact .hd | apply Sel.tl | apply In.tl); exact rfl; exact rfl) | ((with_reducible apply v_build); exact rfl; exact rfl; exact rfl)))
      | ((with_reducible apply wl_gyes); exact rfl; exact rfl)
      | ((with_reducible apply wl_gno_b); exact rfl; exact rfl; exact rfl; exact rfl)
      | ((with_reducible apply wl_gno_u); exact rfl; exact rfl; exact rfl)
      | ((with_reducible apply wl_alloc); exact rfl; intro _)
      | ((with_reducible apply wl_storen_box); exact rfl; exact rfl; (repeat first | exact .hd | apply Sel.tl | apply In.tl); exact rfl; exact rfl; exact rfl)
      | ((with_reducible apply wl_putn_box); exact rfl; exact rfl; (repeat first | exact .hd | apply Sel.tl | apply In.tl); exact rfl; exact rfl; exact rfl; exact rfl)
      | ((with_reducible apply wl_gsplit) <;> first | exact rfl | (intro hb; (replace hb := Tidy.out hb; try (exfalso; omega))))
      | (with_reducible first | apply wl_nil | apply thn_n | apply w_seq | apply w_region | apply w_ret | apply w_skip | apply w_exit | apply w_block | apply thn_r | apply thn_e | apply blk_n | apply blk_r | apply blk_e)
      | ((with_reducible apply w_cond_true); exact rfl)
      | ((with_reducible apply w_cond_false); exact rfl)
      | ((with_reducible apply w_cond) <;> first | exact rfl | (intro hb; (replace hb := Tidy.out hb; try (exfalso; omega))))
      | ((with_reducible apply blk_x); exact rfl))
    refine ret2 (.inl rfl) Try.results48 rfl rfl (H' := [.own (some gO) 40 11 L.length L.length (Lc.flatMap encN)]) (by (repeat (first | exact MSub.nil _ | refine MSub.pick (by (repeat first | exact .hd | apply Sel.tl | apply In.tl)) ?_ | exact MSub.refl _ | refine MSub.drop .hd ?_))) ⟨some gO, L.length, ?_⟩
    rw [if_neg (by rw [hst]; decide), hLc]
    exact ⟨by rw [List.length_map]; rfl, by rw [List.length_map]⟩
end Go.SL

/-
  law12.awake returns true.
-/
namespace Go.SL
open Go Go.Proofs
attribute [local irreducible] W WL WQ WG WA VOp thn blk cutP retP FnAt FnIn Held

def aT : List Nd := [k2, k3, j7, k6]
def aR1 : Rct := ⟨1, 1, 1, 1⟩
def aR2 : Rct := ⟨1, 1, 2, 2⟩
def aCall : Us := ⟨aR2, 2, 46⟩
def aU : List Us := [⟨aR1, -1, 0⟩, aCall]
def aM : List Nd := [⟨2, zeroV, ⟨2, 3, 2, 3⟩, 0, 0, 0⟩, ⟨3, zeroV, ⟨2, 3, 3, 4⟩, 0, 0, 0⟩, j7, k6]
theorem b_uses : usesE aT = (aU, 0) := by decide +kernel
theorem b_calls : callsE aT = ([aCall], 0) := by decide +kernel
theorem b_t1 : touchesE aT ⟨2, 2, 3, 3⟩ = (true, 0) := by decide +kernel
theorem b_t2 : touchesE aT ⟨3, 1, 3, 1⟩ = (false, 0) := by decide +kernel
theorem b_m1 : moveE aT 1 2 = (aM, 0) := by decide +kernel
theorem b_m2 : moveE aT (-1) 0 = ([], 3) := by decide +kernel

section
variable (w : World) (tv : Value) (h : Reads w tv 4 (aT.flatMap encN))
include h
theorem c_uses : FnAt Try.prog 40 [tv] w fun v H => ∃ A cap, v = .tuple #[sl A 2 cap, .int .i64 0] ∧ H = [.own A 68 6 2 cap (aU.flatMap encU)] := by
  have := Uses_at aT tv w h (by decide)
  rw [b_uses] at this
  exact this
theorem c_calls : FnAt Try.prog 42 [tv] w fun v H => ∃ A cap, v = .tuple #[sl A 1 cap, .int .i64 0] ∧ H = [.own A 68 6 1 cap ([aCall].flatMap encU)] := by
  have := Calls_at aT tv w h (by decide)
  rw [b_calls] at this
  exact this
theorem c_t1 : Pure Try.prog 44 [tv, .agg (encR ⟨2, 2, 3, 3⟩).toArray] w (.tuple #[.bool true, .int .i64 0]) := by
  have := Touches_at aT ⟨2, 2, 3, 3⟩ tv w h (by decide)
  rw [b_t1] at this
  exact this
theorem c_t2 : Pure Try.prog 44 [tv, .agg (encR ⟨3, 1, 3, 1⟩).toArray] w (.tuple #[.bool false, .int .i64 0]) := by
  have := Touches_at aT ⟨3, 1, 3, 1⟩ tv w h (by decide)
  rw [b_t2] at this
  exact this
theorem c_m1 : FnAt Try.prog 48 [tv, .int .i64 1, .int .i64 2] w fun v H => ∃ A cap, v = .tuple #[sl A 4 cap, .int .i64 0] ∧ H = [.own A 40 11 4 cap (aM.flatMap encN)] := by
  have := Move_at aT 1 2 tv w h (by decide)
  rw [b_m1] at this
  exact this
theorem c_m2 : FnAt Try.prog 48 [tv, .int .i64 (-1), .int .i64 0] w fun v H => ∃ A cap, v = .tuple #[sl A 0 cap, .int .i64 3] ∧ H = [.own A 40 11 0 cap []] := by
  have := Move_at aT (-1) 0 tv w h (by decide)
  rw [b_m2] at this
  exact this
end
theorem c_e1 (w : World) (a b : Value) (h1 : Reads w a 2 (aU.flatMap encU)) (h2 : Reads w b 2 (aU.flatMap encU)) : Pure Try.prog 46 [a, b] w (.bool true) := by
  have := EqualUses_at aU aU a b w h1 h2
  rw [decide_eq_true rfl] at this
  exact this
theorem c_e2 (w : World) (a b : Value) (h1 : Reads w a 1 ([aCall].flatMap encU)) (h2 : Reads w b 1 ([aCall].flatMap encU)) : Pure Try.prog 46 [a, b] w (.bool true) := by
  have := EqualUses_at [aCall] [aCall] a b w h1 h2
  rw [decide_eq_true rfl] at this
  exact this
theorem v_eqlRt {w0 : World} {s : Slots} {H : List Blk} {ty t' : TypeId} {x y : Operand} (a : Rct) (hx : ev s x = some (.agg (encR a).toArray)) (hy : ev s y = some (.agg (encR a).toArray)) : VOp Try.prog w0 s H (.binOp .eql 38 x y t') ty (.bool true) := by
  have h := v_eqlR (w0 := w0) (H := H) (ty := ty) (t' := t') hx hy
  rwa [eqR_iff.2 rfl] at h

set_option maxRecDepth 20000 in
set_option maxHeartbeats 4000000 in
theorem awake12_at (w : World) : Pure Try.prog 47 [] w (.bool true) := by
  refine fn_at Try.func47 rfl Try.ntmps47 rfl ?_
  repeat' (first
    | ((with_reducible apply wl_call); exact rfl; exact rfl; (intro w' hm; exact c_uses w' _ (Reads.of_row hm (by (repeat first | exact .hd | apply Sel.tl | apply In.tl)))); (rintro v H' ⟨A1, cap1, rfl, rfl⟩))
    | ((with_reducible apply wl_call); exact rfl; exact rfl; (intro w' hm; exact c_calls w' _ (Reads.of_row hm (by (repeat first | exact .hd | apply Sel.tl | apply In.tl)))); (rintro v H' ⟨A2, cap2, rfl, rfl⟩))
    | ((with_reducible apply wl_callp); exact rfl; exact rfl; (intro w' hm; exact c_t1 w' _ (Reads.of_row hm (by (repeat first | exact .hd | apply Sel.tl | apply In.tl)))))
    | ((with_reducible apply wl_callp); exact rfl; exact rfl; (intro w' hm; exact c_t2 w' _ (Reads.of_row hm (by (repeat first | exact .hd | apply Sel.tl | apply In.tl)))))
    | ((with_reducible apply wl_call); exact rfl; exact rfl; (intro w' hm; exact c_m1 w' _ (Reads.of_row hm (by (repeat first | exact .hd | apply Sel.tl | apply In.tl)))); (rintro v H' ⟨A3, cap3, rfl, rfl⟩; refine wl_some .hd (by decide) ?_; rintro g3 rfl))
    | ((with_reducible apply wl_call); exact rfl; exact rfl; (intro w' hm; exact c_m2 w' _ (Reads.of_row hm (by (repeat first | exact .hd | apply Sel.tl | apply In.tl)))); (rintro v H' ⟨A4, cap4, rfl, rfl⟩))
    | ((with_reducible apply wl_callp); exact rfl; exact rfl; (intro w' hm; exact c_e1 w' _ _ (Reads.of_own hm (by (repeat first | exact .hd | apply Sel.tl | apply In.tl))) (Reads.of_row hm (by (repeat first | exact .hd | apply Sel.tl | apply In.tl)))))
    | ((with_reducible apply wl_callp); exact rfl; exact rfl; (intro w' hm; exact c_e2 w' _ _ (Reads.of_own hm (by (repeat first | exact .hd | apply Sel.tl | apply In.tl))) (Reads.of_row hm (by (repeat first | exact .hd | apply Sel.tl | apply In.tl)))))
    | ((with_reducible apply wl_v (d := 106)); exact rfl; (with_reducible apply v_indexAddr (j := 0)); exact rfl; exact rfl; decide)
    | ((with_reducible apply wl_v (d := 114)); exact rfl; (with_reducible apply v_indexAddr (j := 1)); exact rfl; exact rfl; decide)
    | ((with_reducible apply wl_v (d := 108)); exact rfl; (with_reducible apply v_loads_own (ys := encR ⟨2, 3, 2, 3⟩)); exact rfl; (repeat first | exact .hd | apply Sel.tl | apply In.tl); exact rfl; exact rfl)
    | ((with_reducible apply wl_v (d := 116)); exact rfl; (with_reducible apply v_loads_own (ys := encR ⟨2, 3, 3, 4⟩)); exact rfl; (repeat first | exact .hd | apply Sel.tl | apply In.tl); exact rfl; exact rfl)
    | ((with_reducible apply wl_v (d := 110)); exact rfl; (with_reducible apply v_eqlRt ⟨2, 3, 2, 3⟩); exact rfl; exact rfl)
    | ((with_reducible apply wl_v (d := 118)); exact rfl; (with_reducible apply v_eqlRt ⟨2, 3, 3, 4⟩); exact rfl; exact rfl)
    | ((with_reducible apply wl_v); exact rfl; (first | ((with_reducible apply vop_ok); exact rfl) | ((with_reducible apply v_fieldAddr); exact rfl) | ((with_reducible apply v_len); exact rfl) | ((with_reducible apply v_lens); exact rfl) | ((with_reducible apply v_load_box); exact rfl; (repeat first | exact .hd | apply Sel.tl | apply In.tl); exact rfl) | ((with_reducible apply v_eqlb); exact rfl; exact rfl) | ((with_reducible apply v_neqb); exact rfl; exact rfl) | ((with_reducible apply v_loadw_box); exact rfl; (repeat first | exact .hd | apply Sel.tl | apply In.tl); exact rfl) | ((with_reducible apply v_loadn_box); exact rfl; (repeat first | exact .hd | apply Sel.tl | apply In.tl); exact rfl; exact rfl) | ((with_reducible apply v_build); exact rfl; exact rfl; exact rfl)))
    | ((with_reducible apply wl_gyes); exact rfl; exact rfl)
    | ((with_reducible apply wl_gno_b); exact rfl; exact rfl; exact rfl; exact rfl)
    | ((with_reducible apply wl_gno_u); exact rfl; exact rfl; exact rfl)
    | ((with_reducible apply wl_alloc); exact rfl; intro _)
    | ((with_reducible apply wl_storen_box); exact rfl; exact rfl; (repeat first | exact .hd | apply Sel.tl | apply In.tl); exact rfl; exact rfl; exact rfl)
    | ((with_reducible apply wl_putn_box); exact rfl; exact rfl; (repeat first | exact .hd | apply Sel.tl | apply In.tl); exact rfl; exact rfl; exact rfl; exact rfl)
    | ((with_reducible apply wl_buildSlice); exact rfl; exact rfl; exact rfl; exact rfl; exact rfl; exact rfl; exact rfl; intro _)
    | ((with_reducible apply wl_gsplit) <;> first | exact rfl | (intro hb; (replace hb := Tidy.out hb; try (exfalso; omega))))
    | (with_reducible first | apply wl_nil | apply thn_n | apply w_seq | apply w_region | apply w_ret | apply w_skip | apply w_exit | apply w_block | apply thn_r | apply thn_e | apply blk_n | apply blk_r | apply blk_e | apply wl_app_c | apply wl_app_n)
    | ((with_reducible apply w_cond_true); exact rfl)
    | ((with_reducible apply w_cond_false); exact rfl)
    | ((with_reducible apply w_cond) <;> first | exact rfl | (intro hb; (replace hb := Tidy.out hb; try (exfalso; omega))))
    | ((with_reducible apply blk_x); exact rfl))
  ((with_reducible apply ret1); exact .inl rfl; exact rfl; exact rfl; exact MSub.nil _)
  rfl
end Go.SL

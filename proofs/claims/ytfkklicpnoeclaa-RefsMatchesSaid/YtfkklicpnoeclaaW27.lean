/-
  Uses: their cells and comparison; what packages refs and rect say of nodes and ranges.
-/
import Derived.Test.YtfkklicpnoeclaaW10
import Derived.Test.YtfkklicpnoeclaaSl14
namespace Go.SL
open Go Go.Proofs

structure Us where
  rect : Rct
  node : Int
  fn : Int
def encU (u : Us) : List Value := [.int .i64 u.rect.c1, .int .i64 u.rect.r1, .int .i64 u.rect.c2, .int .i64 u.rect.r2, .int .i64 u.node, .int .u8 u.fn]
theorem encU_len (u : Us) : (encU u).length = 6 := rfl
def eqU (a b : Us) : Bool := eqR a.rect b.rect && (decide (a.node = b.node) && decide (a.fn = b.fn))
theorem eqU_iff {a b : Us} : eqU a b = true ↔ a = b := by
  obtain ⟨a1, a2, a3⟩ := a
  obtain ⟨b1, b2, b3⟩ := b
  simp [eqU, eqR_iff]
instance : DecidableEq Us := fun a b => decidable_of_iff (eqU a b = true) eqU_iff
theorem eqU_dec (a b : Us) : eqU a b = decide (a = b) := by
  cases h : eqU a b
  · symm; rw [decide_eq_false_iff_not, ← eqU_iff, h]; simp
  · symm; rw [decide_eq_true_eq, ← eqU_iff, h]

theorem run_eqU (w : World) (d : Nat) (a b : Us) : (Op.equalIn (d + 5) 68 (.agg (encU a).toArray) (.agg (encU b).toArray)).run Try.prog w = .ok (eqU a b) w := by
  rw [run_equalIn_agg w (d + 4) 68 _ _ (by rw [Program.fieldsOf, Try.underlying68]) Try.stoodInHeld68]
  simp only [Program.fieldsOf, Try.underlying68]
  have hr : ∀ w, (Op.equalIn (d + 4) 38 (.agg #[.int .i64 a.rect.c1, .int .i64 a.rect.r1, .int .i64 a.rect.c2, .int .i64 a.rect.r2]) (.agg #[.int .i64 b.rect.c1, .int .i64 b.rect.r1, .int .i64 b.rect.c2, .int .i64 b.rect.r2])).run Try.prog w = .ok (eqR a.rect b.rect) w := fun w => run_eqR w (d + 1) a.rect b.rect
  simp [Op.eqFields, encU, part, go_sem, beqI, eqU, hr]
  by_cases h3 : eqR a.rect b.rect = true <;> by_cases h4 : a.node = b.node <;> by_cases h5 : a.fn = b.fn <;> simp [h3, h4, h5]
theorem v_neqU {w0 : World} {s : Slots} {H : List Blk} {ty t' : TypeId} {x y : Operand} {a b : Us} (hx : ev s x = some (.agg (encU a).toArray)) (hy : ev s y = some (.agg (encU b).toArray)) : VOp Try.prog w0 s H (.binOp .neq 68 x y t') ty (.bool (!eqU a b)) := fun ρ w _ _ _ _ hρ _ => by
  have h := run_eqU w 9995 a b
  simp only [Nat.reduceAdd] at h
  simp only [execOp, hρ x _ hx, hρ y _ hy, Sem.run_bind, run_eqGuard_agg w _ _ _ _ _ _ Try.eqGuardType68, Result.andThen_ok, run_neq_struct, h, Sem.run_pure]

attribute [local irreducible] W WL WQ WG WA VOp thn blk cutP retP FnAt FnIn

set_option maxRecDepth 20000 in
theorem EqualUses_at (L M : List Us) (lv mv : Value) (w : World) (hl : Reads w lv L.length (L.flatMap encU)) (hm : Reads w mv M.length (M.flatMap encU)) :
    Pure Try.prog 46 [lv, mv] w (.bool (decide (L = M))) := by
  obtain ⟨Al, cl, rfl, hl1, hl2, hl3⟩ := hl
  obtain ⟨Am, cm, rfl, hm1, hm2, hm3⟩ := hm
  refine fn_at Try.func46 rfl Try.ntmps46 rfl ?_
  by_cases hlen : L.length = M.length
  · repeat' (first
      | ((with_reducible apply wl_v); exact rfl; (first | ((with_reducible apply vop_ok); exact rfl) | ((with_reducible apply v_len); exact rfl) | ((with_reducible apply v_lens); exact rfl) | ((with_reducible apply v_load_box); exact rfl; (repeat first | exact .hd | apply Sel.tl | apply In.tl); exact rfl) | ((with_reducible apply v_eqlb); exact rfl; exact rfl) | ((with_reducible apply v_neqb); exact rfl; exact rfl) | ((with_reducible apply v_loadw_box); exact rfl; (repeat first | exact .hd | apply Sel.tl | apply In.tl); exact rfl) | ((with_reducible apply v_loadn_box); exact rfl; (repeat first | exact .hd | apply Sel.tl | apply In.tl); exact rfl; exact rfl)))
      | (with_reducible first | apply wl_nil | apply thn_n | apply w_seq | apply w_region | apply w_ret | apply w_skip | apply w_exit | apply w_block | apply thn_r | apply thn_e | apply blk_n | apply blk_r | apply blk_e)
      | ((with_reducible apply w_cond_true); exact rfl)
      | ((with_reducible apply w_cond_false); exact rfl)
      | ((with_reducible apply w_cond) <;> first | exact rfl | (intro hb; (replace hb := Tidy.out hb; try (exfalso; omega))))
      | ((with_reducible apply blk_x); exact rfl))
    refine w_loop (fun i : Nat => [(0, .slice Al L.length cl), (1, .slice Am M.length cm), (5, .int .i64 (i : Int))]) (fun _ => []) (fun i => i ≤ L.length ∧ decide (L = M) = decide (L.drop i = M.drop i)) (fun i => L.length - i) 0 ⟨by omega, rfl⟩ ?_ ?_ ?_
    · (repeat (first | exact Sub.nil _ | refine Sub.cons rfl ?_))
    · (repeat (first | exact MSub.nil _ | refine MSub.pick (by (repeat first | exact .hd | apply Sel.tl | apply In.tl)) ?_ | exact MSub.refl _ | refine MSub.drop .hd ?_))
    · rintro i ⟨hi, hrec⟩
      by_cases hlt : i < L.length
      · have hlt2 : i < M.length := by omega
        obtain ⟨gl, ol, rfl, hrl⟩ := hl3 (by omega)
        obtain ⟨gm, om, rfl, hrm⟩ := hm3 (by omega)
        have he1 := hrl.elem encU_len i hlt
        have he2 := hrm.elem encU_len i hlt2
        rw [eq_drop hlt hlt2, ← eqU_dec] at hrec
        repeat' (first
          | ((with_reducible apply wq_v); exact rfl; (with_reducible apply v_indexAddr); exact rfl; exact rfl; (first | exact hlt | exact hlt2))
          | ((with_reducible apply wq_v); exact rfl; (with_reducible apply v_loadw_ro); exact rfl; (first | exact he1 | exact he2); exact rfl)
          | ((with_reducible apply wq_v); exact rfl; (with_reducible apply v_neqU); exact rfl; exact rfl)
          | ((with_reducible apply wl_v); exact rfl; (with_reducible apply v_succN); exact rfl; exact rfl; (simp only [maxLen] at *; omega))
          | ((with_reducible first | apply wl_v | apply wq_v); exact rfl; (first | ((with_reducible apply vop_ok); exact rfl) | ((with_reducible apply v_len); exact rfl) | ((with_reducible apply v_lens); exact rfl) | ((with_reducible apply v_load_box); exact rfl; (repeat first | exact .hd | apply Sel.tl | apply In.tl); exact rfl) | ((with_reducible apply v_eqlb); exact rfl; exact rfl) | ((with_reducible apply v_neqb); exact rfl; exact rfl) | ((with_reducible apply v_loadw_box); exact rfl; (repeat first | exact .hd | apply Sel.tl | apply In.tl); exact rfl) | ((with_reducible apply v_loadn_box); exact rfl; (repeat first | exact .hd | apply Sel.tl | apply In.tl); exact rfl; exact rfl)))
          | (with_reducible first | apply wl_nil | apply thn_n | apply w_seq | apply w_region | apply w_ret | apply w_skip | apply w_exit | apply w_block | apply thn_r | apply thn_e | apply blk_n | apply blk_r | apply blk_e | apply wq_nil)
          | ((with_reducible apply w_cond_true); exact rfl)
          | ((with_reducible apply w_cond_false); exact rfl)
          | ((with_reducible apply w_cond) <;> first | exact rfl | (intro hb; (replace hb := Tidy.out hb; try (exfalso; omega))))
          | ((with_reducible apply blk_x); exact rfl)
          | ((with_reducible apply w_draw); kernel_rfl; kernel_rfl))
        · ((with_reducible apply ret1); exact .inl rfl; exact rfl; exact rfl; exact MSub.nil _)
          rw [hrec, hb]
          rfl
        · refine ⟨i + 1, ⟨by omega, ?_⟩, by omega, ?_, ?_⟩
          · rw [hrec, hb]
            rfl
          · (repeat (first | exact Sub.nil _ | refine Sub.cons rfl ?_))
          · (repeat (first | exact MSub.nil _ | refine MSub.pick (by (repeat first | exact .hd | apply Sel.tl | apply In.tl)) ?_ | exact MSub.refl _ | refine MSub.drop .hd ?_))
      · have e : i = L.length := by omega
        subst e
        repeat' (first
          | ((with_reducible apply wl_v); exact rfl; (first | ((with_reducible apply vop_ok); exact rfl) | ((with_reducible apply v_len); exact rfl) | ((with_reducible apply v_lens); exact rfl) | ((with_reducible apply v_load_box); exact rfl; (repeat first | exact .hd | apply Sel.tl | apply In.tl); exact rfl) | ((with_reducible apply v_eqlb); exact rfl; exact rfl) | ((with_reducible apply v_neqb); exact rfl; exact rfl) | ((with_reducible apply v_loadw_box); exact rfl; (repeat first | exact .hd | apply Sel.tl | apply In.tl); exact rfl) | ((with_reducible apply v_loadn_box); exact rfl; (repeat first | exact .hd | apply Sel.tl | apply In.tl); exact rfl; exact rfl)))
          | (with_reducible first | apply wl_nil | apply thn_n | apply w_seq | apply w_region | apply w_ret | apply w_skip | apply w_exit | apply w_block | apply thn_r | apply thn_e | apply blk_n | apply blk_r | apply blk_e)
          | ((with_reducible apply w_cond_true); exact rfl)
          | ((with_reducible apply w_cond_false); exact rfl)
          | ((with_reducible apply w_cond) <;> first | exact rfl | (intro hb; (replace hb := Tidy.out hb; try (exfalso; omega))))
          | ((with_reducible apply blk_x); exact rfl))
        ((with_reducible apply ret1); exact .inl rfl; exact rfl; exact rfl; exact MSub.nil _)
        rw [hrec, List.drop_length, hlen, List.drop_length]
        rfl
  · repeat' (first
      | ((with_reducible apply wl_v); exact rfl; (first | ((with_reducible apply vop_ok); exact rfl) | ((with_reducible apply v_len); exact rfl) | ((with_reducible apply v_lens); exact rfl) | ((with_reducible apply v_load_box); exact rfl; (repeat first | exact .hd | apply Sel.tl | apply In.tl); exact rfl) | ((with_reducible apply v_eqlb); exact rfl; exact rfl) | ((with_reducible apply v_neqb); exact rfl; exact rfl) | ((with_reducible apply v_loadw_box); exact rfl; (repeat first | exact .hd | apply Sel.tl | apply In.tl); exact rfl) | ((with_reducible apply v_loadn_box); exact rfl; (repeat first | exact .hd | apply Sel.tl | apply In.tl); exact rfl; exact rfl)))
      | (with_reducible first | apply wl_nil | apply thn_n | apply w_seq | apply w_region | apply w_ret | apply w_skip | apply w_exit | apply w_block | apply thn_r | apply thn_e | apply blk_n | apply blk_r | apply blk_e)
      | ((with_reducible apply w_cond_true); exact rfl)
      | ((with_reducible apply w_cond_false); exact rfl)
      | ((with_reducible apply w_cond) <;> first | exact rfl | (intro hb; (replace hb := Tidy.out hb; try (exfalso; omega))))
      | ((with_reducible apply blk_x); exact rfl))
    ((with_reducible apply ret1); exact .inl rfl; exact rfl; exact rfl; exact MSub.nil _)
    rw [decide_eq_false]
    intro e
    exact hlen (congrArg List.length e)

def rangesF (n : Nd) : Bool := decide (n.kind = 2) || decide (n.kind = 3)
theorem ranges_at (n : Nd) (w : World) : Pure Try.prog 72 [.agg (encN n).toArray] w (.bool (rangesF n)) := by
  refine fn_at Try.func72 rfl Try.ntmps72 rfl ?_
  repeat' (first
    | ((with_reducible apply wl_v); exact rfl; (first | ((with_reducible apply vop_ok); exact rfl) | ((with_reducible apply v_fieldAddr); exact rfl) | ((with_reducible apply v_load_box); exact rfl; (repeat first | exact .hd | apply Sel.tl | apply In.tl); exact rfl) | ((with_reducible apply v_eqlb); exact rfl; exact rfl) | ((with_reducible apply v_neqb); exact rfl; exact rfl) | ((with_reducible apply v_loadw_box); exact rfl; (repeat first | exact .hd | apply Sel.tl | apply In.tl); exact rfl) | ((with_reducible apply v_loadn_box); exact rfl; (repeat first | exact .hd | apply Sel.tl | apply In.tl); exact rfl; exact rfl)))
    | ((with_reducible apply wl_gyes); exact rfl; exact rfl)
    | ((with_reducible apply wl_gno_b); exact rfl; exact rfl; exact rfl; exact rfl)
    | ((with_reducible apply wl_gno_u); exact rfl; exact rfl; exact rfl)
    | ((with_reducible apply wl_boxs); exact rfl; exact rfl; intro _)
    | ((with_reducible apply wl_box1); exact rfl; exact rfl; exact rfl; intro _)
    | ((with_reducible apply wl_gsplit) <;> first | exact rfl | (intro hb; (replace hb := Tidy.out hb; try (exfalso; omega))))
    | (with_reducible first | apply wl_nil | apply thn_n | apply w_seq | apply w_region | apply w_ret | apply w_skip | apply w_exit | apply w_block | apply thn_r | apply thn_e | apply blk_n | apply blk_r | apply blk_e)
    | ((with_reducible apply w_cond_true); exact rfl)
    | ((with_reducible apply w_cond_false); exact rfl)
    | ((with_reducible apply w_cond) <;> first | exact rfl | (intro hb; (replace hb := Tidy.out hb; try (exfalso; omega))))
    | ((with_reducible apply blk_x); exact rfl))
  all_goals
    ((with_reducible apply ret1); exact .inl rfl; exact rfl; exact rfl; exact MSub.nil _)
    simp [rangesF, *]

theorem encR_len (r : Rct) : (encR r).length = 4 := rfl
set_option maxRecDepth 20000 in
theorem all_at (L : List Rct) (lv : Value) (w : World) (hl : Reads w lv L.length (L.flatMap encR)) : Pure Try.prog 75 [lv] w (.bool (L.all rectOk)) := by
  obtain ⟨Al, cl, rfl, hl1, hl2, hl3⟩ := hl
  refine fn_at Try.func75 rfl Try.ntmps75 rfl ?_
  repeat' (first
    | ((with_reducible apply wl_v); exact rfl; (first | ((with_reducible apply vop_ok); exact rfl) | ((with_reducible apply v_len); exact rfl) | ((with_reducible apply v_lens); exact rfl) | ((with_reducible apply v_load_box); exact rfl; (repeat first | exact .hd | apply Sel.tl | apply In.tl); exact rfl) | ((with_reducible apply v_eqlb); exact rfl; exact rfl) | ((with_reducible apply v_neqb); exact rfl; exact rfl) | ((with_reducible apply v_loadw_box); exact rfl; (repeat first | exact .hd | apply Sel.tl | apply In.tl); exact rfl) | ((with_reducible apply v_loadn_box); exact rfl; (repeat first | exact .hd | apply Sel.tl | apply In.tl); exact rfl; exact rfl)))
    | ((with_reducible apply wl_alloc); exact rfl; intro _)
    | ((with_reducible apply wl_storen_box); exact rfl; exact rfl; (repeat first | exact .hd | apply Sel.tl | apply In.tl); exact rfl; exact rfl; exact rfl)
    | ((with_reducible apply wl_putn_box); exact rfl; exact rfl; (repeat first | exact .hd | apply Sel.tl | apply In.tl); exact rfl; exact rfl; exact rfl; exact rfl)
    | (with_reducible first | apply wl_nil | apply thn_n | apply w_seq | apply w_region | apply w_ret | apply w_skip | apply w_exit | apply w_block | apply thn_r | apply thn_e | apply blk_n | apply blk_r | apply blk_e)
    | ((with_reducible apply w_cond_true); exact rfl)
    | ((with_reducible apply w_cond_false); exact rfl)
    | ((with_reducible apply w_cond) <;> first | exact rfl | (intro hb; (replace hb := Tidy.out hb; try (exfalso; omega))))
    | ((with_reducible apply blk_x); exact rfl))
  refine w_loop (fun i : Nat => [(5, .slice Al L.length cl), (6, .int .i64 (L.length : Int)), (7, .int .i64 (i : Int))]) (fun _ => []) (fun i => i ≤ L.length ∧ L.all rectOk = (L.drop i).all rectOk) (fun i => L.length - i) 0 ⟨by omega, rfl⟩ ?_ ?_ ?_
  · (repeat (first | exact Sub.nil _ | refine Sub.cons rfl ?_))
  · (repeat (first | exact MSub.nil _ | refine MSub.pick (by (repeat first | exact .hd | apply Sel.tl | apply In.tl)) ?_ | exact MSub.refl _ | refine MSub.drop .hd ?_))
  · rintro i ⟨hi, hrec⟩
    by_cases hlt : i < L.length
    · obtain ⟨gl, ol, rfl, hrl⟩ := hl3 (by omega)
      have he1 := hrl.elem encR_len i hlt
      rw [List.drop_eq_getElem_cons hlt, List.all_cons] at hrec
      generalize L[i] = r at hrec he1
      repeat' (first
        | ((with_reducible apply wl_callp); exact rfl; exact rfl; (intro w hm; exact rect_at r w))
        | ((with_reducible apply wl_v); exact rfl; (first | ((with_reducible apply vop_ok); exact rfl) | ((with_reducible apply v_len); exact rfl) | ((with_reducible apply v_lens); exact rfl) | ((with_reducible apply v_load_box); exact rfl; (repeat first | exact .hd | apply Sel.tl | apply In.tl); exact rfl) | ((with_reducible apply v_eqlb); exact rfl; exact rfl) | ((with_reducible apply v_neqb); exact rfl; exact rfl) | ((with_reducible apply v_loadw_box); exact rfl; (repeat first | exact .hd | apply Sel.tl | apply In.tl); exact rfl) | ((with_reducible apply v_loadn_box); exact rfl; (repeat first | exact .hd | apply Sel.tl | apply In.tl); exact rfl; exact rfl)))
        | ((with_reducible apply wl_alloc); exact rfl; intro _)
        | ((with_reducible apply wl_storen_box); exact rfl; exact rfl; (repeat first | exact .hd | apply Sel.tl | apply In.tl); exact rfl; exact rfl; exact rfl)
        | ((with_reducible apply wl_putn_box); exact rfl; exact rfl; (repeat first | exact .hd | apply Sel.tl | apply In.tl); exact rfl; exact rfl; exact rfl; exact rfl)
        | (with_reducible first | apply wl_nil | apply thn_n | apply w_seq | apply w_region | apply w_ret | apply w_skip | apply w_exit | apply w_block | apply thn_r | apply thn_e | apply blk_n | apply blk_r | apply blk_e)
        | ((with_reducible apply w_cond_true); exact rfl)
        | ((with_reducible apply w_cond_false); exact rfl)
        | ((with_reducible apply w_cond) <;> first | exact rfl | (intro hb; (replace hb := Tidy.out hb; try (exfalso; omega))))
        | ((with_reducible apply blk_x); exact rfl)
        | ((with_reducible apply wl_v); exact rfl; (with_reducible apply v_succN); exact rfl; exact rfl; (simp only [maxLen] at *; omega))
        | ((with_reducible apply wl_v); exact rfl; (with_reducible apply v_1addN); exact rfl; exact rfl; (simp only [maxLen] at *; omega))
        | ((with_reducible apply wl_v); exact rfl; (with_reducible apply v_addN); exact rfl; exact rfl; (simp only [maxLen] at *; omega))
        | ((with_reducible apply wl_v); exact rfl; (with_reducible apply v_indexAddr); exact rfl; exact rfl; (first | assumption | omega))
        | ((with_reducible apply wl_v); exact rfl; (with_reducible apply v_loadw_ro); exact rfl; assumption; exact rfl)
        | ((with_reducible apply wl_v); exact rfl; (with_reducible apply v_load1_ro); exact rfl; assumption)
        | ((with_reducible apply wl_v); exact rfl; (with_reducible apply v_loadf_ro); exact rfl; assumption; exact rfl))
      · ((with_reducible apply ret1); exact .inl rfl; exact rfl; exact rfl; exact MSub.nil _)
        rw [hrec]
        cases hq : rectOk r <;> simp [rectE, hq] at hb ⊢
      · refine ⟨i + 1, ⟨by omega, ?_⟩, by omega, ?_, ?_⟩
        · rw [hrec]
          cases hq : rectOk r <;> simp [rectE, hq] at hb ⊢
        · (repeat (first | exact Sub.nil _ | refine Sub.cons rfl ?_))
        · (repeat (first | exact MSub.nil _ | refine MSub.pick (by (repeat first | exact .hd | apply Sel.tl | apply In.tl)) ?_ | exact MSub.refl _ | refine MSub.drop .hd ?_))
    · have e : i = L.length := by omega
      subst e
      repeat' (first
        | ((with_reducible apply wl_v); exact rfl; (first | ((with_reducible apply vop_ok); exact rfl) | ((with_reducible apply v_len); exact rfl) | ((with_reducible apply v_lens); exact rfl) | ((with_reducible apply v_load_box); exact rfl; (repeat first | exact .hd | apply Sel.tl | apply In.tl); exact rfl) | ((with_reducible apply v_eqlb); exact rfl; exact rfl) | ((with_reducible apply v_neqb); exact rfl; exact rfl) | ((with_reducible apply v_loadw_box); exact rfl; (repeat first | exact .hd | apply Sel.tl | apply In.tl); exact rfl) | ((with_reducible apply v_loadn_box); exact rfl; (repeat first | exact .hd | apply Sel.tl | apply In.tl); exact rfl; exact rfl)))
        | ((with_reducible apply wl_alloc); exact rfl; intro _)
        | ((with_reducible apply wl_storen_box); exact rfl; exact rfl; (repeat first | exact .hd | apply Sel.tl | apply In.tl); exact rfl; exact rfl; exact rfl)
        | ((with_reducible apply wl_putn_box); exact rfl; exact rfl; (repeat first | exact .hd | apply Sel.tl | apply In.tl); exact rfl; exact rfl; exact rfl; exact rfl)
        | (with_reducible first | apply wl_nil | apply thn_n | apply w_seq | apply w_region | apply w_ret | apply w_skip | apply w_exit | apply w_block | apply thn_r | apply thn_e | apply blk_n | apply blk_r | apply blk_e)
        | ((with_reducible apply w_cond_true); exact rfl)
        | ((with_reducible apply w_cond_false); exact rfl)
        | ((with_reducible apply w_cond) <;> first | exact rfl | (intro hb; (replace hb := Tidy.out hb; try (exfalso; omega))))
        | ((with_reducible apply blk_x); exact rfl))
      ((with_reducible apply ret1); exact .inl rfl; exact rfl; exact rfl; exact MSub.nil _)
      rw [hrec, List.drop_length]
      rfl

def meetM (a b : Rct) : Rct := ⟨if a.c1 < b.c1 then b.c1 else a.c1, if a.r1 < b.r1 then b.r1 else a.r1, if b.c2 < a.c2 then b.c2 else a.c2, if b.r2 < a.r2 then b.r2 else a.r2⟩
def meetR (a b : Rct) : Rct × Bool := if [a, b, meetM a b].all rectOk = true then (meetM a b, true) else (zeroR, false)
set_option maxRecDepth 20000 in
theorem Meet_at (a b : Rct) (w : World) : Pure Try.prog 51 [.agg (encR a).toArray, .agg (encR b).toArray] w (.tuple #[.agg (encR (meetR a b).1).toArray, .bool (meetR a b).2]) := by
  refine fn_at Try.func51 rfl Try.ntmps51 rfl ?_
  have hall := fun (lv : Value) (w : World) => all_at [a, b, meetM a b] lv w
  unfold meetR
  generalize [a, b, meetM a b].all rectOk = q at hall
  repeat' (first
    | ((with_reducible apply wl_callp); exact rfl; exact rfl; (intro w hm; exact hall _ w (Reads.of_row hm (by (repeat first | exact .hd | apply Sel.tl | apply In.tl)))))
    | ((with_reducible apply wl_v); exact rfl; (first | ((with_reducible apply vop_ok); exact rfl) | ((with_reducible apply v_fieldAddr); exact rfl) | ((with_reducible apply v_load_box); exact rfl; (repeat first | exact .hd | apply Sel.tl | apply In.tl); exact rfl) | ((with_reducible apply v_max); exact rfl; exact rfl) | ((with_reducible apply v_min); exact rfl; exact rfl) | ((with_reducible apply v_loadw_box); exact rfl; (repeat first | exact .hd | apply Sel.tl | apply In.tl); exact rfl) | ((with_reducible apply v_loadn_box); exact rfl; (repeat first | exact .hd | apply Sel.tl | apply In.tl); exact rfl; exact rfl) | ((with_reducible apply v_build); exact rfl; exact rfl; exact rfl)))
    | ((with_reducible apply wl_boxs); exact rfl; exact rfl; intro _)
    | ((with_reducible apply wl_box1); exact rfl; exact rfl; exact rfl; intro _)
    | ((with_reducible apply wl_alloc); exact rfl; intro _)
    | ((with_reducible apply wl_storen_box); exact rfl; exact rfl; (repeat first | exact .hd | apply Sel.tl | apply In.tl); exact rfl; exact rfl; exact rfl)
    | ((with_reducible apply wl_putn_box); exact rfl; exact rfl; (repeat first | exact .hd | apply Sel.tl | apply In.tl); exact rfl; exact rfl; exact rfl; exact rfl)
    | ((with_reducible apply wl_buildSlice); exact rfl; exact rfl; exact rfl; exact rfl; exact rfl; exact rfl; exact rfl; intro _)
    | (with_reducible first | apply wl_nil | apply thn_n | apply w_seq | apply w_region | apply w_ret | apply w_skip | apply w_exit | apply w_block | apply thn_r | apply thn_e | apply blk_n | apply blk_r | apply blk_e)
    | ((with_reducible apply w_cond_true); exact rfl)
    | ((with_reducible apply w_cond_false); exact rfl)
    | ((with_reducible apply w_cond) <;> first | exact rfl | (intro hb; (replace hb := Tidy.out hb; try (exfalso; omega))))
    | ((with_reducible apply blk_x); exact rfl))
  · refine retct (.inl rfl) Try.results51 rfl (by (repeat first | exact .hd | apply Sel.tl | apply In.tl)) rfl rfl (MSub.nil _) ?_
    simp [hb, zeroR, encR]
  · refine retct (.inl rfl) Try.results51 rfl (by (repeat first | exact .hd | apply Sel.tl | apply In.tl)) rfl rfl (MSub.nil _) ?_
    simp [hb, meetM, encR]
end Go.SL

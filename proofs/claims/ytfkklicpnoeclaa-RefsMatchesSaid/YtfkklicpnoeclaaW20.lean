/-
  What the document's Under, Kids and Sub return.
-/
import Derived.Test.YtfkklicpnoeclaaW19
namespace Go.SL
open Go Go.Proofs
attribute [local irreducible] W WL WQ WG WA VOp thn blk cutP retP FnAt FnIn

theorem Ro.intsI {w : World} {g o : Nat} {l : List Int} (h : Ro w g o (intsI l)) (i : Nat) {u : Int} (hi : l[i]? = some u) : Ro w g (o + i * 1) [Value.int .i64 u] := h.cellV i (intsI_get hi)

def underTo (P : List Int) (i k : Nat) : List Nat := (List.range k).filter fun k => decide (P[k]? = some (i : Int))
theorem underTo_succ (P : List Int) (i k : Nat) : underTo P i (k + 1) = underTo P i k ++ (if P[k]? = some (i : Int) then [k] else []) := by
  unfold underTo
  rw [List.range_succ, List.filter_append]
  congr 1
  by_cases h : P[k]? = some (i : Int) <;> simp [h]
theorem underTo_le (P : List Int) (i k : Nat) : (underTo P i k).length ≤ k := by
  have := List.length_filter_le (fun k => decide (P[k]? = some (i : Int))) (List.range k)
  simpa [underTo] using this

set_option maxRecDepth 20000 in
theorem Under_at (P : List Int) (i : Nat) (hi : i ≤ P.length) (hs : P.length ≤ 1000) (pv : Value) (w : World) (hp : Reads w pv P.length (intsI P)) :
    FnAt Try.prog 58 [pv, .int .i64 (i : Int)] w fun v H => ∃ A cap, v = sl A (underL P i).length cap ∧ H = [.own A 3 1 (underL P i).length cap (intsV (underL P i))] := by
  have hp' := hp
  obtain ⟨Ap, cp, rfl, hp1, hp2, hp3⟩ := hp
  refine fn_at Try.func58 rfl Try.ntmps58 rfl ?_
  refine w_nilrow 3 1 ?_
  repeat' (first
    | ((with_reducible apply wl_v); exact rfl; (first | ((with_reducible apply vop_ok); exact rfl) | ((with_reducible apply v_load_box); exact rfl; (repeat first | exact .hd | apply Sel.tl | apply In.tl); exact rfl) | ((with_reducible apply v_eqlb); exact rfl; exact rfl) | ((with_reducible apply v_neqb); exact rfl; exact rfl) | ((with_reducible apply v_loadw_box); exact rfl; (repeat first | exact .hd | apply Sel.tl | apply In.tl); exact rfl) | ((with_reducible apply v_loadn_box); exact rfl; (repeat first | exact .hd | apply Sel.tl | apply In.tl); exact rfl; exact rfl)))
    | ((with_reducible apply wl_buildSlice); exact rfl; exact rfl; exact rfl; exact rfl; exact rfl; exact rfl; exact rfl; intro _)
    | (with_reducible first | apply wl_nil | apply thn_n | apply w_seq | apply w_region | apply w_ret | apply w_skip | apply w_exit | apply w_block | apply thn_r | apply thn_e | apply blk_n | apply blk_r | apply blk_e)
    | ((with_reducible apply w_cond_true); exact rfl)
    | ((with_reducible apply w_cond_false); exact rfl)
    | ((with_reducible apply w_cond) <;> first | exact rfl | (intro hb; (replace hb := Tidy.out hb; try (exfalso; omega))))
    | ((with_reducible apply blk_x); exact rfl))
  refine w_loopK [0, 1] rfl (fun x : Nat × Option Nat × Nat => [(5, sl x.2.1 (underTo P i x.1).length x.2.2), (6, .int .i64 (x.1 : Int))])
    (fun x => [.own x.2.1 3 1 (underTo P i x.1).length x.2.2 (intsV (underTo P i x.1))]) (fun x => x.1 ≤ i) (fun x => i - x.1) (0, none, 0) (Nat.zero_le _) (by (repeat (first | exact Sub.nil _ | refine Sub.cons rfl ?_))) (by (repeat (first | exact MSub.nil _ | refine MSub.pick (by (repeat first | exact .hd | apply Sel.tl | apply In.tl)) ?_ | exact MSub.refl _ | refine MSub.drop .hd ?_))) ?_
  rintro ⟨k, A, cap⟩ hk
  dsimp only at hk ⊢
  by_cases hlt : k < i
  · obtain ⟨gp, op, rfl, hrp⟩ := hp3 (by omega)
    have hu := List.getElem?_eq_getElem (show k < P.length by omega)
    have hr1 := hrp.intsI k hu
    have hsucc := underTo_succ P i k
    have hfl := underTo_le P i k
    rw [hu] at hsucc
    generalize P[k] = u at hr1 hsucc hu
    repeat' (first
      | ((with_reducible apply wl_append); exact rfl; exact rfl; exact rfl; (repeat first | exact .hd | apply Sel.tl | apply In.tl); (intro w hm; exact hm.cells_own (by (repeat first | exact .hd | apply Sel.tl | apply In.tl))); exact rfl; (simp [Value.oneCell', sl]); omega; (simp only [maxLen]; omega); (intro A4 c4 h4))
      | ((with_reducible apply wl_v); exact rfl; (first | ((with_reducible apply vop_ok); exact rfl) | ((with_reducible apply v_load_box); exact rfl; (repeat first | exact .hd | apply Sel.tl | apply In.tl); exact rfl) | ((with_reducible apply v_eqlb); exact rfl; exact rfl) | ((with_reducible apply v_neqb); exact rfl; exact rfl) | ((with_reducible apply v_loadw_box); exact rfl; (repeat first | exact .hd | apply Sel.tl | apply In.tl); exact rfl) | ((with_reducible apply v_loadn_box); exact rfl; (repeat first | exact .hd | apply Sel.tl | apply In.tl); exact rfl; exact rfl)))
      | ((with_reducible apply wl_buildSlice); exact rfl; exact rfl; exact rfl; exact rfl; exact rfl; exact rfl; exact rfl; intro _)
      | (with_reducible first | apply wl_nil | apply thn_n | apply w_seq | apply w_region | apply w_ret | apply w_skip | apply w_exit | apply w_block | apply thn_r | apply thn_e | apply blk_n | apply blk_r | apply blk_e)
      | ((with_reducible apply w_cond_true); exact rfl)
      | ((with_reducible apply w_cond_false); exact rfl)
      | ((with_reducible apply w_cond) <;> first | exact rfl | (intro hb; (replace hb := Tidy.out hb; try (exfalso; omega))))
      | ((with_reducible apply blk_x); exact rfl)
      | ((with_reducible apply wl_v); exact rfl; (with_reducible apply v_succN); exact rfl; exact rfl; (simp only [maxLen] at *; omega))
      | ((with_reducible apply wl_v); exact rfl; (with_reducible apply v_1addN); exact rfl; exact rfl; (simp only [maxLen] at *; omega))
      | ((with_reducible apply wl_v); exact rfl; (with_reducible apply v_addN); exact rfl; exact rfl; (simp only [maxLen] at *; omega))
      | ((with_reducible apply wl_v); exact rfl; (with_reducible apply v_indexAddr); exact rfl; exact rfl; (first | assumption | omega))
      | ((with_reducible apply wl_v); exact rfl; (with_reducible apply v_loadw_ro); exact rfl; assumption; exact rfl)
      | ((with_reducible apply wl_v); exact rfl; (with_reducible apply v_load1_ro); exact rfl; assumption)
      | ((with_reducible apply wl_v); exact rfl; (with_reducible apply v_loadf_ro); exact rfl; assumption; exact rfl))
    · rw [if_pos (by rw [hb])] at hsucc
      have e2 : intsV (underTo P i k) ++ [.int .i64 (k : Int)] = intsV (underTo P i (k + 1)) := by rw [hsucc]; simp [intsV]
      have e3 : (underTo P i k).length + 1 = (underTo P i (k + 1)).length := by rw [hsucc]; simp
      rw [e2, e3]
      refine ⟨(k + 1, A4, c4), ?_, (by first | omega | (dsimp only; omega)), (by (repeat (first | exact Sub.nil _ | refine Sub.cons rfl ?_))), (by (repeat (first | exact Sub.nil _ | refine Sub.cons rfl ?_))), (by (repeat (first | exact MSub.nil _ | refine MSub.pick (by (repeat first | exact .hd | apply Sel.tl | apply In.tl)) ?_ | exact MSub.refl _ | refine MSub.drop .hd ?_)))⟩
      exact hlt
    · rw [if_neg (by simp; omega), List.append_nil] at hsucc
      rw [← hsucc]
      refine ⟨(k + 1, A, cap), ?_, (by first | omega | (dsimp only; omega)), (by (repeat (first | exact Sub.nil _ | refine Sub.cons rfl ?_))), (by (repeat (first | exact Sub.nil _ | refine Sub.cons rfl ?_))), (by (repeat (first | exact MSub.nil _ | refine MSub.pick (by (repeat first | exact .hd | apply Sel.tl | apply In.tl)) ?_ | exact MSub.refl _ | refine MSub.drop .hd ?_)))⟩
      exact hlt
  · have e : k = i := by omega
    subst e
    repeat' (first
      | ((with_reducible apply wl_v); exact rfl; (first | ((with_reducible apply vop_ok); exact rfl) | ((with_reducible apply v_load_box); exact rfl; (repeat first | exact .hd | apply Sel.tl | apply In.tl); exact rfl) | ((with_reducible apply v_eqlb); exact rfl; exact rfl) | ((with_reducible apply v_neqb); exact rfl; exact rfl) | ((with_reducible apply v_loadw_box); exact rfl; (repeat first | exact .hd | apply Sel.tl | apply In.tl); exact rfl) | ((with_reducible apply v_loadn_box); exact rfl; (repeat first | exact .hd | apply Sel.tl | apply In.tl); exact rfl; exact rfl)))
      | ((with_reducible apply wl_buildSlice); exact rfl; exact rfl; exact rfl; exact rfl; exact rfl; exact rfl; exact rfl; intro _)
      | (with_reducible first | apply wl_nil | apply thn_n | apply w_seq | apply w_region | apply w_ret | apply w_skip | apply w_exit | apply w_block | apply thn_r | apply thn_e | apply blk_n | apply blk_r | apply blk_e)
      | ((with_reducible apply w_cond_true); exact rfl)
      | ((with_reducible apply w_cond_false); exact rfl)
      | ((with_reducible apply w_cond) <;> first | exact rfl | (intro hb; (replace hb := Tidy.out hb; try (exfalso; omega))))
      | ((with_reducible apply blk_x); exact rfl))
    exact ret1 (.inl rfl) Try.results58 rfl (H' := [.own A 3 1 (underL P k).length cap (intsV (underL P k))]) (by (repeat (first | exact MSub.nil _ | refine MSub.pick (by (repeat first | exact .hd | apply Sel.tl | apply In.tl)) ?_ | exact MSub.refl _ | refine MSub.drop .hd ?_))) ⟨A, cap, rfl, rfl⟩

set_option maxRecDepth 20000 in
theorem refKids_at (L : List Nd) (hwf : ∀ n ∈ L, wfN n) (i : Int) (tv : Value) (w : World) (ht : Reads w tv L.length (L.flatMap encN)) :
    FnAt Try.prog 21 [tv, .int .i64 i] w fun v H => ∃ A cap, v = .tuple #[sl A (kidsE L i).1.length cap, .int .i64 (kidsE L i).2] ∧ H = [.own A 3 1 (kidsE L i).1.length cap (intsV (kidsE L i).1)] := by
  have ht' := ht
  obtain ⟨At, ct, rfl, ht1, ht2, ht3⟩ := ht
  refine fn_at Try.func21 rfl Try.ntmps21 rfl ?_
  refine w_nilrow 3 1 ?_
  generalize hK : kidsE L i = K
  have hck := fun (w' : World) (H : List Blk) (hm : Mem w w' H) => refCheck_at L hwf _ w' (ht'.of_w0 hm)
  by_cases hc : checkE L = 0
  · obtain ⟨hlen, S, Hi, hW, hk3, hct⟩ := check_whole hc
    rw [hc] at hck
    by_cases hr : 0 ≤ i ∧ i < (L.length : Int)
    · obtain ⟨j, rfl⟩ := Int.eq_ofNat_of_zero_le hr.1
      have hj : j < L.length := by omega
      obtain ⟨x, hx⟩ : ∃ x, Hi[j]? = some x := ⟨_, List.getElem?_eq_getElem (by rw [hW.inv.len]; exact hj)⟩
      rw [kidsE_whole hc hct hx hj] at hK
      subst hK
      have hpl : (parH Hi).length = L.length := by rw [hW.parOk.len, hW.inv.len]
      have hun := fun (pv : Value) (w' : World) (hr : Reads w' pv (parH Hi).length (intsI (parH Hi))) => Under_at (parH Hi) j (by omega) (by omega) pv w' hr
      rw [under_eq hW hx, hpl] at hun
      repeat' (first
        | ((with_reducible apply wl_callp); exact rfl; exact rfl; (intro w' hm; exact hck w' _ hm))
        | ((with_reducible apply wl_call (f := 59)); exact rfl; exact rfl; (intro w' hm; exact Parents_at L hlen S Hi hW _ w' (ht'.of_w0 hm)); (rintro v H' ⟨A1, c1, rfl, rfl⟩))
        | ((with_reducible apply wl_call (f := 58)); exact rfl; exact rfl; (intro w' hm; exact hun _ w' (Reads.of_own (A := A1) hm (by (repeat first | exact .hd | apply Sel.tl | apply In.tl)))); (rintro v H' ⟨A2, c2, rfl, rfl⟩))
        | ((with_reducible apply wl_v); exact rfl; (first | ((with_reducible apply vop_ok); exact rfl) | ((with_reducible apply v_len); exact rfl) | ((with_reducible apply v_lens); exact rfl) | ((with_reducible apply v_eqlb); exact rfl; exact rfl) | ((with_reducible apply v_neqb); exact rfl; exact rfl)))
        | ((with_reducible apply wl_gyes); exact rfl; exact rfl)
        | ((with_reducible apply wl_gno_b); exact rfl; exact rfl; exact rfl; exact rfl)
        | ((with_reducible apply wl_gno_u); exact rfl; exact rfl; exact rfl)
        | ((with_reducible apply wl_gsplit) <;> first | exact rfl | (intro hb; (replace hb := Tidy.out hb; try (exfalso; omega))))
        | (with_reducible first | apply wl_nil | apply thn_n | apply w_seq | apply w_region | apply w_ret | apply w_skip | apply w_exit | apply w_block | apply thn_r | apply thn_e | apply blk_n | apply blk_r | apply blk_e)
        | ((with_reducible apply w_cond_true); exact rfl)
        | ((with_reducible apply w_cond_false); exact rfl)
        | ((with_reducible apply w_cond) <;> first | exact rfl | (intro hb; (replace hb := Tidy.out hb; try (exfalso; omega))))
        | ((with_reducible apply blk_x); exact rfl))
      exact ret2 (.inl rfl) Try.results21 rfl rfl (H' := [.own A2 3 1 (kidsH j x).length c2 (intsV (kidsH j x))]) (by (repeat (first | exact MSub.nil _ | refine MSub.pick (by (repeat first | exact .hd | apply Sel.tl | apply In.tl)) ?_ | exact MSub.refl _ | refine MSub.drop .hd ?_))) ⟨A2, c2, rfl, rfl⟩
    · have hK' : K = ([], 3) := by
        rw [← hK]; unfold kidsE
        rw [if_neg (by omega), if_pos (by omega)]
      subst hK'
      repeat' (first
        | ((with_reducible apply wl_callp); exact rfl; exact rfl; (intro w' hm; exact hck w' _ hm))
        | ((with_reducible apply wl_v); exact rfl; (first | ((with_reducible apply vop_ok); exact rfl) | ((with_reducible apply v_len); exact rfl) | ((with_reducible apply v_lens); exact rfl) | ((with_reducible apply v_eqlb); exact rfl; exact rfl) | ((with_reducible apply v_neqb); exact rfl; exact rfl)))
        | ((with_reducible apply wl_gyes); exact rfl; exact rfl)
        | ((with_reducible apply wl_gno_b); exact rfl; exact rfl; exact rfl; exact rfl)
        | ((with_reducible apply wl_gno_u); exact rfl; exact rfl; exact rfl)
        | ((with_reducible apply wl_gsplit) <;> first | exact rfl | (intro hb; (replace hb := Tidy.out hb; try (exfalso; omega))))
        | (with_reducible first | apply wl_nil | apply thn_n | apply w_seq | apply w_region | apply w_ret | apply w_skip | apply w_exit | apply w_block | apply thn_r | apply thn_e | apply blk_n | apply blk_r | apply blk_e)
        | ((with_reducible apply w_cond_true); exact rfl)
        | ((with_reducible apply w_cond_false); exact rfl)
        | ((with_reducible apply w_cond) <;> first | exact rfl | (intro hb; (replace hb := Tidy.out hb; try (exfalso; omega))))
        | ((with_reducible apply blk_x); exact rfl))
      all_goals exact ret2 (.inl rfl) Try.results21 rfl rfl (H' := [.own none 3 1 0 0 []]) (by (repeat (first | exact MSub.nil _ | refine MSub.pick (by (repeat first | exact .hd | apply Sel.tl | apply In.tl)) ?_ | exact MSub.refl _ | refine MSub.drop .hd ?_))) ⟨none, 0, rfl, rfl⟩
  · have hK' : K = ([], checkE L) := by
      rw [← hK]; unfold kidsE
      rw [if_pos hc]
    subst hK'
    repeat' (first
      | ((with_reducible apply wl_callp); exact rfl; exact rfl; (intro w' hm; exact hck w' _ hm))
      | ((with_reducible apply wl_v); exact rfl; (first | ((with_reducible apply vop_ok); exact rfl) | ((with_reducible apply v_len); exact rfl) | ((with_reducible apply v_lens); exact rfl) | ((with_reducible apply v_eqlb); exact rfl; exact rfl) | ((with_reducible apply v_neqb); exact rfl; exact rfl)))
      | ((with_reducible apply wl_gyes); exact rfl; exact rfl)
      | ((with_reducible apply wl_gno_b); exact rfl; exact rfl; exact rfl; exact rfl)
      | ((with_reducible apply wl_gno_u); exact rfl; exact rfl; exact rfl)
      | ((with_reducible apply wl_gsplit) <;> first | exact rfl | (intro hb; (replace hb := Tidy.out hb; try (exfalso; omega))))
      | (with_reducible first | apply wl_nil | apply thn_n | apply w_seq | apply w_region | apply w_ret | apply w_skip | apply w_exit | apply w_block | apply thn_r | apply thn_e | apply blk_n | apply blk_r | apply blk_e)
      | ((with_reducible apply w_cond_true); exact rfl)
      | ((with_reducible apply w_cond_false); exact rfl)
      | ((with_reducible apply w_cond) <;> first | exact rfl | (intro hb; (replace hb := Tidy.out hb; try (exfalso; omega))))
      | ((with_reducible apply blk_x); exact rfl))
    exact ret2 (.inl rfl) Try.results21 rfl rfl (H' := [.own none 3 1 0 0 []]) (by (repeat (first | exact MSub.nil _ | refine MSub.pick (by (repeat first | exact .hd | apply Sel.tl | apply In.tl)) ?_ | exact MSub.refl _ | refine MSub.drop .hd ?_))) ⟨none, 0, rfl, rfl⟩
end Go.SL

/-
  Lemmas and walks, packed: W25.
-/
import Derived.Test.YtfkklicpnoeclaaGf
import Derived.Test.YtfkklicpnoeclaaGe
set_option linter.unusedSimpArgs false
set_option linter.unusedVariables false
/-
  What TreeGrows returns.
-/
namespace Go.SL
open Go Go.Proofs
attribute [local irreducible] W WL WQ WG WA VOp thn blk cutP retP FnAt FnIn Held

theorem foldl_take_succ (Ts : List STree) (j : Nat) (h : j < Ts.length) : (Ts.take (j + 1)).foldl (fun d S => max d S.d) 0 = max ((Ts.take j).foldl (fun d S => max d S.d) 0) Ts[j].d := by
  rw [List.take_succ_eq_append_getElem h, List.foldl_append]
  rfl

theorem foldl_d_le (Ts : List STree) (b : Nat) (h : ∀ T ∈ Ts, T.d ≤ b) : Ts.foldl (fun d S => max d S.d) 0 ≤ b := by
  have : ∀ (l : List STree) (d : Nat), d ≤ b → (∀ T ∈ l, T.d ≤ b) → l.foldl (fun d S => max d S.d) d ≤ b := by
    intro l
    induction l with
    | nil => intro d hd _; exact hd
    | cons S r ih =>
      intro d hd hl
      have := hl S List.mem_cons_self
      exact ih (max d S.d) (by omega) fun T hT => hl T (List.mem_cons_of_mem _ hT)
  exact this Ts 0 (Nat.zero_le _) h

set_option maxRecDepth 20000 in
set_option maxHeartbeats 4000000 in
theorem TreeGrows_at (root : Nd) (Ls : List (List Nd)) (lv : Value) (w : World) (hl : ReadsLL w lv Ls) : Pure Try.prog 7 [.agg (encN root).toArray, lv] w (.bool true) := by
  obtain ⟨vals, hvl, ⟨Al, cl, rfl, hl1, hl2, hl3⟩, hel⟩ := hl
  refine fn_at Try.func7 rfl Try.ntmps7 rfl ?_
  repeat' (first
    | ((with_reducible apply wl_v); exact rfl; (with_reducible apply v_minN (a := root.v.text.size) (b := 300)); exact rfl; exact rfl; exact rfl)
    | ((with_reducible apply wl_v); exact rfl; (with_reducible apply v_cut_str); exact rfl; exact rfl; omega)
    | ((with_reducible apply w_cutB (id := 0) (ι := Nat × (Option Nat × Nat) × List Value × List Blk × Nat) (fun y => [(2, .pointer (some ⟨y.2.2.2.2, 0, none⟩)), (5, sl y.2.1.1 y.1 y.2.1.2)]) (fun y => .own y.2.1.1 22 1 y.1 y.2.1.2 y.2.2.1 :: .box y.2.2.2.2 40 (encN (fewN root)) :: y.2.2.2.1) (fun y => y.1 = min Ls.length 18 ∧ Held encN w y.2.2.2.1 y.2.2.1 ((Ls.take y.1).map fewT))))
    | ((with_reducible apply wl_v); exact rfl; (first | ((with_reducible apply vop_ok); exact rfl) | ((with_reducible apply v_fieldAddr); exact rfl) | ((with_reducible apply v_len); exact rfl) | ((with_reducible apply v_lens); exact rfl) | ((with_reducible apply v_load_box); exact rfl; (repeat first | exact .hd | apply Sel.tl | apply In.tl); exact rfl) | ((with_reducible apply v_eqlb); exact rfl; exact rfl) | ((with_reducible apply v_neqb); exact rfl; exact rfl) | ((with_reducible apply v_max); exact rfl; exact rfl) | ((with_reducible apply v_min); exact rfl; exact rfl) | ((with_reducible apply v_loadw_box); exact rfl; (repeat first | exact .hd | apply Sel.tl | apply In.tl); exact rfl) | ((with_reducible apply v_loadn_box); exact rfl; (repeat first | exact .hd | apply Sel.tl | apply In.tl); exact rfl; exact rfl)))
    | ((with_reducible apply wl_gyes); exact rfl; exact rfl)
    | ((with_reducible apply wl_gno_b); exact rfl; exact rfl; exact rfl; exact rfl)
    | ((with_reducible apply wl_gno_u); exact rfl; exact rfl; exact rfl)
    | ((with_reducible apply wl_boxs); exact rfl; exact rfl; intro _)
    | ((with_reducible apply wl_box1); exact rfl; exact rfl; exact rfl; intro _)
    | ((with_reducible apply wl_storen_box); exact rfl; exact rfl; (repeat first | exact .hd | apply Sel.tl | apply In.tl); exact rfl; exact rfl; exact rfl)
    | ((with_reducible apply wl_putn_box); exact rfl; exact rfl; (repeat first | exact .hd | apply Sel.tl | apply In.tl); exact rfl; exact rfl; exact rfl; exact rfl)
    | ((with_reducible apply wl_buildSlice); exact rfl; exact rfl; exact rfl; exact rfl; exact rfl; exact rfl; exact rfl; intro _)
    | ((with_reducible apply wl_gsplit) <;> first | exact rfl | (intro hb; (replace hb := Tidy.out hb; try (exfalso; omega))))
    | (with_reducible first | apply wl_nil | apply thn_n | apply w_seq | apply w_region | apply w_ret | apply w_skip | apply w_exit | apply w_block | apply thn_r | apply thn_e | apply blk_n | apply blk_r | apply blk_e | apply cut_r | apply cut_e)
    | ((with_reducible apply w_cond_true); exact rfl)
    | ((with_reducible apply w_cond_false); exact rfl)
    | ((with_reducible apply w_cond) <;> first | exact rfl | (intro hb; (replace hb := Tidy.out hb; try (exfalso; omega))))
    | ((with_reducible apply blk_x); exact rfl)
    | ((with_reducible apply cut_n (i := ())) <;> first | exact trivial | ((repeat (first | exact Sub.nil _ | refine Sub.cons rfl ?_)); done) | ((repeat (first | exact MSub.nil _ | refine MSub.pick (by (repeat first | exact .hd | apply Sel.tl | apply In.tl)) ?_ | exact MSub.refl _ | refine MSub.drop .hd ?_)); done)))
  · rename_i g
    refine w_nilrow 22 1 ?_
    refine w_loopK [1, 2] rfl (fun y : Nat × (Option Nat × Nat) × List Value × List Blk => [(5, sl y.2.1.1 y.1 y.2.1.2), (6, .int .i64 (y.1 : Int))])
      (fun y => .own y.2.1.1 22 1 y.1 y.2.1.2 y.2.2.1 :: .box g 40 (encN (fewN root)) :: y.2.2.2)
      (fun y => y.1 ≤ Ls.length ∧ y.1 ≤ 18 ∧ Held encN w y.2.2.2 y.2.2.1 ((Ls.take y.1).map fewT)) (fun y => 18 - y.1) (0, (none, 0), [], []) ⟨Nat.zero_le _, Nat.zero_le _, Held.nil⟩ (by (repeat (first | exact Sub.nil _ | refine Sub.cons rfl ?_))) (by (repeat (first | exact MSub.nil _ | refine MSub.pick (by (repeat first | exact .hd | apply Sel.tl | apply In.tl)) ?_ | exact MSub.refl _ | refine MSub.drop .hd ?_))) ?_
    rintro ⟨i, ⟨Aa, ca⟩, va, F⟩ ⟨hi, hi18, hheld⟩
    dsimp only at hi hi18 hheld ⊢
    have hlv : va.length = i := by unfold Held at hheld; rw [hheld.1]; simp; omega
    by_cases hlt : i < Ls.length ∧ i < 18
    · obtain ⟨gl, ol, rfl, hrl⟩ := hl3 (by omega)
      have hx := List.getElem?_eq_getElem (show i < vals.length by omega)
      have hL := List.getElem?_eq_getElem hlt.1
      have hr1 := hrl.cellV i hx
      have hR := hel i _ _ hx hL
      generalize vals[i] = xv at hr1 hR
      have hfew := fun (w' : World) (H : List Blk) (hm : Mem w w' H) => Few_at Ls[i] xv w' (hR.of_w0 hm)
      have hTc : (Ls.take (i + 1)).map fewT = (Ls.take i).map fewT ++ [fewT Ls[i]] := by
        rw [List.take_succ_eq_append_getElem hlt.1, List.map_append]; rfl
      repeat' (first
        | ((with_reducible apply wl_call (f := 17)); exact rfl; exact rfl; (intro w' h; exact hfew w' _ h); (rintro v H' ⟨A3, cap3, rfl, rfl⟩))
        | ((with_reducible apply wl_append); exact rfl; exact rfl; exact rfl; (repeat first | exact .hd | apply Sel.tl | apply In.tl); (intro w hm; exact hm.cells_own (by (repeat first | exact .hd | apply Sel.tl | apply In.tl))); exact rfl; (simp [Value.oneCell', sl]); omega; (simp only [maxLen]; omega); (intro A6 c6 h6))
        | ((with_reducible apply wl_v); exact rfl; (first | ((with_reducible apply vop_ok); exact rfl) | ((with_reducible apply v_fieldAddr); exact rfl) | ((with_reducible apply v_len); exact rfl) | ((with_reducible apply v_lens); exact rfl) | ((with_reducible apply v_load_box); exact rfl; (repeat first | exact .hd | apply Sel.tl | apply In.tl); exact rfl) | ((with_reducible apply v_eqlb); exact rfl; exact rfl) | ((with_reducible apply v_neqb); exact rfl; exact rfl) | ((with_reducible apply v_max); exact rfl; exact rfl) | ((with_reducible apply v_min); exact rfl; exact rfl) | ((with_reducible apply v_loadw_box); exact rfl; (repeat first | exact .hd | apply Sel.tl | apply In.tl); exact rfl) | ((with_reducible apply v_loadn_box); exact rfl; (repeat first | exact .hd | apply Sel.tl | apply In.tl); exact rfl; exact rfl)))
        | ((with_reducible apply wl_gyes); exact rfl; exact rfl)
        | ((with_reducible apply wl_gno_b); exact rfl; exact rfl; exact rfl; exact rfl)
        | ((with_reducible apply wl_gno_u); exact rfl; exact rfl; exact rfl)
        | ((with_reducible apply wl_boxs); exact rfl; exact rfl; intro _)
        | ((with_reducible apply wl_box1); exact rfl; exact rfl; exact rfl; intro _)
        | ((with_reducible apply wl_storen_box); exact rfl; exact rfl; (repeat first | exact .hd | apply Sel.tl | apply In.tl); exact rfl; exact rfl; exact rfl)
        | ((with_reducible apply wl_putn_box); exact rfl; exact rfl; (repeat first | exact .hd | apply Sel.tl | apply In.tl); exact rfl; exact rfl; exact rfl; exact rfl)
        | ((with_reducible apply wl_buildSlice); exact rfl; exact rfl; exact rfl; exact rfl; exact rfl; exact rfl; exact rfl; intro _)
        | ((with_reducible apply wl_gsplit) <;> first | exact rfl | (intro hb; (replace hb := Tidy.out hb; try (exfalso; omega))))
        | (with_reducible first | apply wl_nil | apply thn_n | apply w_seq | apply w_region | apply w_ret | apply w_skip | apply w_exit | apply w_block | apply thn_r | apply thn_e | apply blk_n | apply blk_r | apply blk_e | apply cut_r | apply cut_e)
        | ((with_reducible apply w_cond_true); exact rfl)
        | ((with_reducible apply w_cond_false); exact rfl)
        | ((with_reducible apply w_cond) <;> first | exact rfl | (intro hb; (replace hb := Tidy.out hb; try (exfalso; omega))))
        | ((with_reducible apply blk_x); exact rfl)
        | ((with_reducible apply cut_n (i := ())) <;> first | exact trivial | ((repeat (first | exact Sub.nil _ | refine Sub.cons rfl ?_)); done) | ((repeat (first | exact MSub.nil _ | refine MSub.pick (by (repeat first | exact .hd | apply Sel.tl | apply In.tl)) ?_ | exact MSub.refl _ | refine MSub.drop .hd ?_)); done))
        | ((with_reducible apply wl_v); exact rfl; (with_reducible apply v_succN); exact rfl; exact rfl; (simp only [maxLen] at *; omega))
        | ((with_reducible apply wl_v); exact rfl; (with_reducible apply v_1addN); exact rfl; exact rfl; (simp only [maxLen] at *; omega))
        | ((with_reducible apply wl_v); exact rfl; (with_reducible apply v_addN); exact rfl; exact rfl; (simp only [maxLen] at *; omega))
        | ((with_reducible apply wl_v); exact rfl; (with_reducible apply v_predN); exact rfl; exact rfl; omega; (simp only [maxLen] at *; omega))
        | ((with_reducible apply wl_v); exact rfl; (with_reducible apply v_subN); exact rfl; exact rfl; omega; (simp only [maxLen] at *; omega))
        | ((with_reducible apply wl_v); exact rfl; (with_reducible apply v_maxN); exact rfl; exact rfl)
        | ((with_reducible apply wl_v); exact rfl; (with_reducible apply v_indexAddr); exact rfl; exact rfl; (first | assumption | omega))
        | ((with_reducible apply wl_v); exact rfl; (with_reducible apply v_loadw_ro); exact rfl; assumption; exact rfl)
        | ((with_reducible apply wl_v); exact rfl; (with_reducible apply v_load1_ro); exact rfl; assumption)
        | ((with_reducible apply wl_v); exact rfl; (with_reducible apply v_loadf_ro); exact rfl; assumption; exact rfl))
      refine ⟨(i + 1, (A6, c6), va ++ [sl A3 (fewT Ls[i]).length cap3], .own A3 40 11 (fewT Ls[i]).length cap3 ((fewT Ls[i]).flatMap encN) :: F), ⟨by omega, by omega, ?_⟩, (by first | omega | (dsimp only; omega)), (by (repeat (first | exact Sub.nil _ | refine Sub.cons rfl ?_))), (by (repeat (first | exact Sub.nil _ | refine Sub.cons rfl ?_))), (by (repeat (first | exact MSub.nil _ | refine MSub.pick (by (repeat first | exact .hd | apply Sel.tl | apply In.tl)) ?_ | exact MSub.refl _ | refine MSub.drop .hd ?_)))⟩
      dsimp only
      rw [hTc]
      exact hheld.snoc (.drop .hd (.refl _)) fun w' hm => Reads.of_own (A := A3) hm .hd
    · repeat' (first
        | ((with_reducible apply wl_v); exact rfl; (first | ((with_reducible apply vop_ok); exact rfl) | ((with_reducible apply v_fieldAddr); exact rfl) | ((with_reducible apply v_len); exact rfl) | ((with_reducible apply v_lens); exact rfl) | ((with_reducible apply v_load_box); exact rfl; (repeat first | exact .hd | apply Sel.tl | apply In.tl); exact rfl) | ((with_reducible apply v_eqlb); exact rfl; exact rfl) | ((with_reducible apply v_neqb); exact rfl; exact rfl) | ((with_reducible apply v_max); exact rfl; exact rfl) | ((with_reducible apply v_min); exact rfl; exact rfl) | ((with_reducible apply v_loadw_box); exact rfl; (repeat first | exact .hd | apply Sel.tl | apply In.tl); exact rfl) | ((with_reducible apply v_loadn_box); exact rfl; (repeat first | exact .hd | apply Sel.tl | apply In.tl); exact rfl; exact rfl)))
        | ((with_reducible apply wl_gyes); exact rfl; exact rfl)
        | ((with_reducible apply wl_gno_b); exact rfl; exact rfl; exact rfl; exact rfl)
        | ((with_reducible apply wl_gno_u); exact rfl; exact rfl; exact rfl)
        | ((with_reducible apply wl_boxs); exact rfl; exact rfl; intro _)
        | ((with_reducible apply wl_box1); exact rfl; exact rfl; exact rfl; intro _)
        | ((with_reducible apply wl_storen_box); exact rfl; exact rfl; (repeat first | exact .hd | apply Sel.tl | apply In.tl); exact rfl; exact rfl; exact rfl)
        | ((with_reducible apply wl_putn_box); exact rfl; exact rfl; (repeat first | exact .hd | apply Sel.tl | apply In.tl); exact rfl; exact rfl; exact rfl; exact rfl)
        | ((with_reducible apply wl_buildSlice); exact rfl; exact rfl; exact rfl; exact rfl; exact rfl; exact rfl; exact rfl; intro _)
        | ((with_reducible apply wl_gsplit) <;> first | exact rfl | (intro hb; (replace hb := Tidy.out hb; try (exfalso; omega))))
        | (with_reducible first | apply wl_nil | apply thn_n | apply w_seq | apply w_region | apply w_ret | apply w_skip | apply w_exit | apply w_block | apply thn_r | apply thn_e | apply blk_n | apply blk_r | apply blk_e | apply cut_r | apply cut_e)
        | ((with_reducible apply w_cond_true); exact rfl)
        | ((with_reducible apply w_cond_false); exact rfl)
        | ((with_reducible apply w_cond) <;> first | exact rfl | (intro hb; (replace hb := Tidy.out hb; try (exfalso; omega))))
        | ((with_reducible apply blk_x); exact rfl)
        | ((with_reducible apply cut_n (i := ())) <;> first | exact trivial | ((repeat (first | exact Sub.nil _ | refine Sub.cons rfl ?_)); done) | ((repeat (first | exact MSub.nil _ | refine MSub.pick (by (repeat first | exact .hd | apply Sel.tl | apply In.tl)) ?_ | exact MSub.refl _ | refine MSub.drop .hd ?_)); done)))
      all_goals exact cut_n (i, (Aa, ca), va, F, g) ⟨by dsimp only; omega, hheld⟩ (by (repeat (first | exact Sub.nil _ | refine Sub.cons rfl ?_))) (by (repeat (first | exact MSub.nil _ | refine MSub.pick (by (repeat first | exact .hd | apply Sel.tl | apply In.tl)) ?_ | exact MSub.refl _ | refine MSub.drop .hd ?_)))
  · rintro ⟨i, ⟨Aa, ca⟩, va, F, g⟩ ⟨hi, hheld⟩
    dsimp only at hi hheld ⊢
    have hIl : ((Ls.take i).map fewT).length = i := by simp; omega
    have hlv : va.length = i := by unfold Held at hheld; rw [hheld.1]; exact hIl
    generalize (Ls.take i).map fewT = Is at hheld hIl
    have hj := fun v w' h => Join_at (fewN root) Is v w' h
    by_cases hJ : (joinE (fewN root) Is).2 = 0
    · obtain ⟨Ts, H, hTs, hTg, hJ1, hJc, hW, hct, hlast⟩ := joinE_ok hJ
      rw [hJ] at hj
      generalize (joinE (fewN root) Is).1 = t at *
      have htp := hW.pos
      have hTl : Ts.length = i := by rw [← hIl, ← hTs, List.length_map]
      have ht256 : t.length ≤ 256 := (check_whole hJc).1
      have hkw := kidsE_whole hJc hct hlast (by omega)
      have k1 := fun v w' h => Kids_at t ((t.length - 1 : Nat) : Int) v w' h
      have d1 := fun v w' h => Depth_at t v w' h
      rw [hkw] at k1
      rw [depthE_whole hW hJc hct] at d1
      have hkl : (kidsH (t.length - 1) (Ts, nodeF (fewN root) Ts)).length = i := by rw [kidsH, rootsFrom_length]; exact hTl
      have hdm : (nodeF (fewN root) Ts).d = Ts.foldl (fun d S => max d S.d) 0 + 1 := depthF_max Ts
      have hd32 : (nodeF (fewN root) Ts).d ≤ 32 := hW.good.le32
      dsimp only at hj k1 d1
      repeat' (first
        | ((with_reducible apply wl_call (f := 30)); exact rfl; exact rfl; (intro w' h; exact hj _ w' (hheld.readsLL h (by (repeat (first | exact MSub.nil _ | refine MSub.pick (by (repeat first | exact .hd | apply Sel.tl | apply In.tl)) ?_ | exact MSub.refl _ | refine MSub.drop .hd ?_))) (by rw [hIl]; exact Reads.of_own (A := Aa) h (by (repeat first | exact .hd | apply Sel.tl | apply In.tl))))); (rintro v H' ⟨A7, cap7, rfl, rfl⟩))
        | ((with_reducible apply wl_call (f := 20)); exact rfl; exact rfl; (intro w' h; exact k1 _ w' (Reads.of_own (A := A7) h (by (repeat first | exact .hd | apply Sel.tl | apply In.tl)))); (rintro v H' ⟨A3, cap3, rfl, rfl⟩))
        | ((with_reducible apply wl_callp (f := 18)); exact rfl; exact rfl; (intro w' h; exact d1 _ w' (Reads.of_own (A := A7) h (by (repeat first | exact .hd | apply Sel.tl | apply In.tl)))))
        | ((with_reducible apply wl_v); exact rfl; (first | ((with_reducible apply vop_ok); exact rfl) | ((with_reducible apply v_fieldAddr); exact rfl) | ((with_reducible apply v_len); exact rfl) | ((with_reducible apply v_lens); exact rfl) | ((with_reducible apply v_load_box); exact rfl; (repeat first | exact .hd | apply Sel.tl | apply In.tl); exact rfl) | ((with_reducible apply v_eqlb); exact rfl; exact rfl) | ((with_reducible apply v_neqb); exact rfl; exact rfl) | ((with_reducible apply v_max); exact rfl; exact rfl) | ((with_reducible apply v_min); exact rfl; exact rfl) | ((with_reducible apply v_loadw_box); exact rfl; (repeat first | exact .hd | apply Sel.tl | apply In.tl); exact rfl) | ((with_reducible apply v_loadn_box); exact rfl; (repeat first | exact .hd | apply Sel.tl | apply In.tl); exact rfl; exact rfl)))
        | ((with_reducible apply wl_gyes); exact rfl; exact rfl)
        | ((with_reducible apply wl_gno_b); exact rfl; exact rfl; exact rfl; exact rfl)
        | ((with_reducible apply wl_gno_u); exact rfl; exact rfl; exact rfl)
        | ((with_reducible apply wl_boxs); exact rfl; exact rfl; intro _)
        | ((with_reducible apply wl_box1); exact rfl; exact rfl; exact rfl; intro _)
        | ((with_reducible apply wl_storen_box); exact rfl; exact rfl; (repeat first | exact .hd | apply Sel.tl | apply In.tl); exact rfl; exact rfl; exact rfl)
        | ((with_reducible apply wl_putn_box); exact rfl; exact rfl; (repeat first | exact .hd | apply Sel.tl | apply In.tl); exact rfl; exact rfl; exact rfl; exact rfl)
        | ((with_reducible apply wl_buildSlice); exact rfl; exact rfl; exact rfl; exact rfl; exact rfl; exact rfl; exact rfl; intro _)
        | ((with_reducible apply wl_gsplit) <;> first | exact rfl | (intro hb; (replace hb := Tidy.out hb; try (exfalso; omega))))
        | (with_reducible first | apply wl_nil | apply thn_n | apply w_seq | apply w_region | apply w_ret | apply w_skip | apply w_exit | apply w_block | apply thn_r | apply thn_e | apply blk_n | apply blk_r | apply blk_e | apply cut_r | apply cut_e)
        | ((with_reducible apply w_cond_true); exact rfl)
        | ((with_reducible apply w_cond_false); exact rfl)
        | ((with_reducible apply w_cond) <;> first | exact rfl | (intro hb; (replace hb := Tidy.out hb; try (exfalso; omega))))
        | ((with_reducible apply blk_x); exact rfl)
        | ((with_reducible apply cut_n (i := ())) <;> first | exact trivial | ((repeat (first | exact Sub.nil _ | refine Sub.cons rfl ?_)); done) | ((repeat (first | exact MSub.nil _ | refine MSub.pick (by (repeat first | exact .hd | apply Sel.tl | apply In.tl)) ?_ | exact MSub.refl _ | refine MSub.drop .hd ?_)); done))
        | ((with_reducible apply wl_v); exact rfl; (with_reducible apply v_succN); exact rfl; exact rfl; (simp only [maxLen] at *; omega))
        | ((with_reducible apply wl_v); exact rfl; (with_reducible apply v_1addN); exact rfl; exact rfl; (simp only [maxLen] at *; omega))
        | ((with_reducible apply wl_v); exact rfl; (with_reducible apply v_addN); exact rfl; exact rfl; (simp only [maxLen] at *; omega))
        | ((with_reducible apply wl_v); exact rfl; (with_reducible apply v_predN); exact rfl; exact rfl; omega; (simp only [maxLen] at *; omega))
        | ((with_reducible apply wl_v); exact rfl; (with_reducible apply v_subN); exact rfl; exact rfl; omega; (simp only [maxLen] at *; omega))
        | ((with_reducible apply wl_v); exact rfl; (with_reducible apply v_maxN); exact rfl; exact rfl))
      · refine w_loopK [5, 7, 9, 11] rfl (fun j : Nat => [(13, .int .i64 (((Ts.take j).foldl (fun d S => max d S.d) 0 : Nat) : Int)), (14, .int .i64 (j : Int))])
          (fun _ => .own A7 40 11 t.length cap7 (t.flatMap encN) :: .own A3 3 1 (kidsH (t.length - 1) (Ts, nodeF (fewN root) Ts)).length cap3 (intsV (kidsH (t.length - 1) (Ts, nodeF (fewN root) Ts))) :: .own Aa 22 1 i ca va :: F)
          (fun j => j ≤ i) (fun j => i - j) 0 (Nat.zero_le _) (by (repeat (first | exact Sub.nil _ | refine Sub.cons rfl ?_))) (by (repeat (first | exact MSub.nil _ | refine MSub.pick (by (repeat first | exact .hd | apply Sel.tl | apply In.tl)) ?_ | exact MSub.refl _ | refine MSub.drop .hd ?_))) ?_
        rintro j hj1
        by_cases hji : j < i
        · refine w_some (A := A3) (.tl .hd) (by omega) fun g3 hA3 => ?_
          subst hA3
          refine w_some (A := Aa) (.tl (.tl .hd)) (by omega) fun ga hAa => ?_
          subst hAa
          have hjT : j < Ts.length := by omega
          obtain ⟨top, r, hr1, hr2⟩ := kid_tree hW hlast (k := j) hjT
          dsimp only at hr2
          have hTj := hTg _ (List.getElem_mem hjT)
          have hIj : Is[j]? = some Ts[j].ns := by rw [← hTs]; simp [hjT]
          have hsuc := foldl_take_succ Ts j hjT
          have hD0 := foldl_d_le (Ts.take j) 32 fun T hT => (hTg T (List.mem_of_mem_take hT)).1.le32
          have s2 := fun v w' h => Sub_at t (r : Int) v w' h (by omega)
          rw [subE_whole hW hJc hct hr2] at s2
          generalize Ts[j] = T at hr2 hTj hIj hsuc s2
          have hva := List.getElem?_eq_getElem (show j < va.length by omega)
          generalize va[j] = xv at hva
          have hRj := fun (w' : World) (hm : Mem w w' F) => hheld.one hva hIj hm
          have hrv : (intsV (kidsH (t.length - 1) (Ts, nodeF (fewN root) Ts)))[0 + j * 1]? = some (.int .i64 (r : Int)) := by rw [Nat.zero_add, Nat.mul_one]; simp [intsV, hr1]
          have hxv : va[0 + j * 1]? = some xv := by rw [Nat.zero_add, Nat.mul_one]; exact hva
          obtain ⟨k, hk, hmx⟩ : ∃ k : Nat, depthE T.ns = ((k : Int), (depthE T.ns).2) ∧ max (max ((Ts.take j).foldl (fun d S => max d S.d) 0) k) 1 = (Ts.take (j + 1)).foldl (fun d S => max d S.d) 0 := by
            have h1 := hTj.1.deep
            rw [depthE_good hTj.1 hTj.2, hsuc]
            by_cases h3 : T.kind = 3
            · have h4 := hTj.1.range1 h3
              exact ⟨0, by rw [if_pos h3]; rfl, by omega⟩
            · exact ⟨T.d, by rw [if_neg h3], by omega⟩
          have d2 := fun w' h => Depth_at T.ns xv w' h
          rw [hk] at d2
          generalize (Ts.take j).foldl (fun d S => max d S.d) 0 = D at hmx hD0 ⊢
          dsimp only at s2 d2
          repeat' (first
            | ((with_reducible apply wl_v); exact rfl; (with_reducible apply v_indexAddr); exact rfl; exact rfl; omega)
            | ((with_reducible apply wl_v); exact rfl; (with_reducible apply v_load_own); exact rfl; (repeat first | exact .hd | apply Sel.tl | apply In.tl); first | exact hrv | exact hxv)
            | ((with_reducible apply wl_call (f := 22)); exact rfl; exact rfl; (intro w' h; exact s2 _ w' (Reads.of_own (A := A7) h (by (repeat first | exact .hd | apply Sel.tl | apply In.tl)))); (rintro v H' ⟨A5, cap5, rfl, rfl⟩))
            | ((with_reducible apply wl_callp (f := 27)); exact rfl; exact rfl; (intro w' h; exact EqualTree_same T.ns _ _ w' (Reads.of_own (A := A5) h (by (repeat first | exact .hd | apply Sel.tl | apply In.tl))) (hRj w' (MSub.use (by (repeat (first | exact MSub.nil _ | refine MSub.pick (by (repeat first | exact .hd | apply Sel.tl | apply In.tl)) ?_ | exact MSub.refl _ | refine MSub.drop .hd ?_))) h))))
            | ((with_reducible apply wl_callp (f := 18)); exact rfl; exact rfl; (intro w' h; exact d2 w' (hRj w' (MSub.use (by (repeat (first | exact MSub.nil _ | refine MSub.pick (by (repeat first | exact .hd | apply Sel.tl | apply In.tl)) ?_ | exact MSub.refl _ | refine MSub.drop .hd ?_))) h))))
            | ((with_reducible apply wl_v); exact rfl; (with_reducible apply v_max3N (c := 1)); exact rfl; exact rfl; exact rfl; exact hmx)
            | ((with_reducible apply wl_v); exact rfl; (first | ((with_reducible apply vop_ok); exact rfl) | ((with_reducible apply v_fieldAddr); exact rfl) | ((with_reducible apply v_len); exact rfl) | ((with_reducible apply v_lens); exact rfl) | ((with_reducible apply v_load_box); exact rfl; (repeat first | exact .hd | apply Sel.tl | apply In.tl); exact rfl) | ((with_reducible apply v_eqlb); exact rfl; exact rfl) | ((with_reducible apply v_neqb); exact rfl; exact rfl) | ((with_reducible apply v_max); exact rfl; exact rfl) | ((with_reducible apply v_min); exact rfl; exact rfl) | ((with_reducible apply v_loadw_box); exact rfl; (repeat first | exact .hd | apply Sel.tl | apply In.tl); exact rfl) | ((with_reducible apply v_loadn_box); exact rfl; (repeat first | exact .hd | apply Sel.tl | apply In.tl); exact rfl; exact rfl)))
            | ((with_reducible apply wl_gyes); exact rfl; exact rfl)
            | ((with_reducible apply wl_gno_b); exact rfl; exact rfl; exact rfl; exact rfl)
            | ((with_reducible apply wl_gno_u); exact rfl; exact rfl; exact rfl)
            | ((with_reducible apply wl_boxs); exact rfl; exact rfl; intro _)
            | ((with_reducible apply wl_box1); exact rfl; exact rfl; exact rfl; intro _)
            | ((with_reducible apply wl_storen_box); exact rfl; exact rfl; (repeat first | exact .hd | apply Sel.tl | apply In.tl); exact rfl; exact rfl; exact rfl)
            | ((with_reducible apply wl_putn_box); exact rfl; exact rfl; (repeat first | exact .hd | apply Sel.tl | apply In.tl); exact rfl; exact rfl; exact rfl; exact rfl)
            | ((with_reducible apply wl_buildSlice); exact rfl; exact rfl; exact rfl; exact rfl; exact rfl; exact rfl; exact rfl; intro _)
            | ((with_reducible apply wl_gsplit) <;> first | exact rfl | (intro hb; (replace hb := Tidy.out hb; try (exfalso; omega))))
            | (with_reducible first | apply wl_nil | apply thn_n | apply w_seq | apply w_region | apply w_ret | apply w_skip | apply w_exit | apply w_block | apply thn_r | apply thn_e | apply blk_n | apply blk_r | apply blk_e | apply cut_r | apply cut_e)
            | ((with_reducible apply w_cond_true); exact rfl)
            | ((with_reducible apply w_cond_false); exact rfl)
            | ((with_reducible apply w_cond) <;> first | exact rfl | (intro hb; (replace hb := Tidy.out hb; try (exfalso; omega))))
            | ((with_reducible apply blk_x); exact rfl)
            | ((with_reducible apply cut_n (i := ())) <;> first | exact trivial | ((repeat (first | exact Sub.nil _ | refine Sub.cons rfl ?_)); done) | ((repeat (first | exact MSub.nil _ | refine MSub.pick (by (repeat first | exact .hd | apply Sel.tl | apply In.tl)) ?_ | exact MSub.refl _ | refine MSub.drop .hd ?_)); done))
            | ((with_reducible apply wl_v); exact rfl; (with_reducible apply v_succN); exact rfl; exact rfl; (simp only [maxLen] at *; omega))
            | ((with_reducible apply wl_v); exact rfl; (with_reducible apply v_1addN); exact rfl; exact rfl; (simp only [maxLen] at *; omega))
            | ((with_reducible apply wl_v); exact rfl; (with_reducible apply v_addN); exact rfl; exact rfl; (simp only [maxLen] at *; omega))
            | ((with_reducible apply wl_v); exact rfl; (with_reducible apply v_predN); exact rfl; exact rfl; omega; (simp only [maxLen] at *; omega))
            | ((with_reducible apply wl_v); exact rfl; (with_reducible apply v_subN); exact rfl; exact rfl; omega; (simp only [maxLen] at *; omega))
            | ((with_reducible apply wl_v); exact rfl; (with_reducible apply v_maxN); exact rfl; exact rfl))
          refine ⟨j + 1, ?_, (by first | omega | (dsimp only; omega)), (by (repeat (first | exact Sub.nil _ | refine Sub.cons rfl ?_))), (by (repeat (first | exact Sub.nil _ | refine Sub.cons rfl ?_))), (by (repeat (first | exact MSub.nil _ | refine MSub.pick (by (repeat first | exact .hd | apply Sel.tl | apply In.tl)) ?_ | exact MSub.refl _ | refine MSub.drop .hd ?_)))⟩
          exact hji
        · have e : j = i := by omega
          subst e
          rw [List.take_of_length_le (by omega)]
          have hD0 := foldl_d_le Ts 32 fun T hT => (hTg T hT).1.le32
          repeat' (first
            | ((with_reducible apply wl_callp); exact rfl; exact rfl; (intro w' h; exact awake_at w'))
            | ((with_reducible apply wl_v); exact rfl; (first | ((with_reducible apply vop_ok); exact rfl) | ((with_reducible apply v_fieldAddr); exact rfl) | ((with_reducible apply v_len); exact rfl) | ((with_reducible apply v_lens); exact rfl) | ((with_reducible apply v_load_box); exact rfl; (repeat first | exact .hd | apply Sel.tl | apply In.tl); exact rfl) | ((with_reducible apply v_eqlb); exact rfl; exact rfl) | ((with_reducible apply v_neqb); exact rfl; exact rfl) | ((with_reducible apply v_max); exact rfl; exact rfl) | ((with_reducible apply v_min); exact rfl; exact rfl) | ((with_reducible apply v_loadw_box); exact rfl; (repeat first | exact .hd | apply Sel.tl | apply In.tl); exact rfl) | ((with_reducible apply v_loadn_box); exact rfl; (repeat first | exact .hd | apply Sel.tl | apply In.tl); exact rfl; exact rfl)))
            | ((with_reducible apply wl_gyes); exact rfl; exact rfl)
            | ((with_reducible apply wl_gno_b); exact rfl; exact rfl; exact rfl; exact rfl)
            | ((with_reducible apply wl_gno_u); exact rfl; exact rfl; exact rfl)
            | ((with_reducible apply wl_boxs); exact rfl; exact rfl; intro _)
            | ((with_reducible apply wl_box1); exact rfl; exact rfl; exact rfl; intro _)
            | ((with_reducible apply wl_storen_box); exact rfl; exact rfl; (repeat first | exact .hd | apply Sel.tl | apply In.tl); exact rfl; exact rfl; exact rfl)
            | ((with_reducible apply wl_putn_box); exact rfl; exact rfl; (repeat first | exact .hd | apply Sel.tl | apply In.tl); exact rfl; exact rfl; exact rfl; exact rfl)
            | ((with_reducible apply wl_buildSlice); exact rfl; exact rfl; exact rfl; exact rfl; exact rfl; exact rfl; exact rfl; intro _)
            | ((with_reducible apply wl_gsplit) <;> first | exact rfl | (intro hb; (replace hb := Tidy.out hb; try (exfalso; omega))))
            | (with_reducible first | apply wl_nil | apply thn_n | apply w_seq | apply w_region | apply w_ret | apply w_skip | apply w_exit | apply w_block | apply thn_r | apply thn_e | apply blk_n | apply blk_r | apply blk_e | apply cut_r | apply cut_e)
            | ((with_reducible apply w_cond_true); exact rfl)
            | ((with_reducible apply w_cond_false); exact rfl)
            | ((with_reducible apply w_cond) <;> first | exact rfl | (intro hb; (replace hb := Tidy.out hb; try (exfalso; omega))))
            | ((with_reducible apply blk_x); exact rfl)
            | ((with_reducible apply cut_n (i := ())) <;> first | exact trivial | ((repeat (first | exact Sub.nil _ | refine Sub.cons rfl ?_)); done) | ((repeat (first | exact MSub.nil _ | refine MSub.pick (by (repeat first | exact .hd | apply Sel.tl | apply In.tl)) ?_ | exact MSub.refl _ | refine MSub.drop .hd ?_)); done))
            | ((with_reducible apply wl_v); exact rfl; (with_reducible apply v_succN); exact rfl; exact rfl; (simp only [maxLen] at *; omega))
            | ((with_reducible apply wl_v); exact rfl; (with_reducible apply v_1addN); exact rfl; exact rfl; (simp only [maxLen] at *; omega))
            | ((with_reducible apply wl_v); exact rfl; (with_reducible apply v_addN); exact rfl; exact rfl; (simp only [maxLen] at *; omega))
            | ((with_reducible apply wl_v); exact rfl; (with_reducible apply v_predN); exact rfl; exact rfl; omega; (simp only [maxLen] at *; omega))
            | ((with_reducible apply wl_v); exact rfl; (with_reducible apply v_subN); exact rfl; exact rfl; omega; (simp only [maxLen] at *; omega))
            | ((with_reducible apply wl_v); exact rfl; (with_reducible apply v_maxN); exact rfl; exact rfl))
          all_goals (((with_reducible apply ret1); exact .inl rfl; exact rfl; exact rfl; exact MSub.nil _))
          all_goals first | rfl | (exfalso; omega)
    · have hJe := joinE_err hJ
      generalize joinE (fewN root) Is = J at hJ hJe hj
      obtain ⟨J1, J2⟩ := J
      dsimp only at hJ hJe hj
      subst hJe
      repeat' (first
        | ((with_reducible apply wl_call (f := 30)); exact rfl; exact rfl; (intro w' h; exact hj _ w' (hheld.readsLL h (by (repeat (first | exact MSub.nil _ | refine MSub.pick (by (repeat first | exact .hd | apply Sel.tl | apply In.tl)) ?_ | exact MSub.refl _ | refine MSub.drop .hd ?_))) (by rw [hIl]; exact Reads.of_own (A := Aa) h (by (repeat first | exact .hd | apply Sel.tl | apply In.tl))))); (rintro v H' ⟨A7, cap7, rfl, rfl⟩))
        | ((with_reducible apply wl_callp); exact rfl; exact rfl; (intro w' h; exact awake_at w'))
        | ((with_reducible apply wl_v); exact rfl; (first | ((with_reducible apply vop_ok); exact rfl) | ((with_reducible apply v_fieldAddr); exact rfl) | ((with_reducible apply v_len); exact rfl) | ((with_reducible apply v_lens); exact rfl) | ((with_reducible apply v_load_box); exact rfl; (repeat first | exact .hd | apply Sel.tl | apply In.tl); exact rfl) | ((with_reducible apply v_eqlb); exact rfl; exact rfl) | ((with_reducible apply v_neqb); exact rfl; exact rfl) | ((with_reducible apply v_max); exact rfl; exact rfl) | ((with_reducible apply v_min); exact rfl; exact rfl) | ((with_reducible apply v_loadw_box); exact rfl; (repeat first | exact .hd | apply Sel.tl | apply In.tl); exact rfl) | ((with_reducible apply v_loadn_box); exact rfl; (repeat first | exact .hd | apply Sel.tl | apply In.tl); exact rfl; exact rfl)))
        | ((with_reducible apply wl_gyes); exact rfl; exact rfl)
        | ((with_reducible apply wl_gno_b); exact rfl; exact rfl; exact rfl; exact rfl)
        | ((with_reducible apply wl_gno_u); exact rfl; exact rfl; exact rfl)
        | ((with_reducible apply wl_boxs); exact rfl; exact rfl; intro _)
        | ((with_reducible apply wl_box1); exact rfl; exact rfl; exact rfl; intro _)
        | ((with_reducible apply wl_storen_box); exact rfl; exact rfl; (repeat first | exact .hd | apply Sel.tl | apply In.tl); exact rfl; exact rfl; exact rfl)
        | ((with_reducible apply wl_putn_box); exact rfl; exact rfl; (repeat first | exact .hd | apply Sel.tl | apply In.tl); exact rfl; exact rfl; exact rfl; exact rfl)
        | ((with_reducible apply wl_buildSlice); exact rfl; exact rfl; exact rfl; exact rfl; exact rfl; exact rfl; exact rfl; intro _)
        | ((with_reducible apply wl_gsplit) <;> first | exact rfl | (intro hb; (replace hb := Tidy.out hb; try (exfalso; omega))))
        | (with_reducible first | apply wl_nil | apply thn_n | apply w_seq | apply w_region | apply w_ret | apply w_skip | apply w_exit | apply w_block | apply thn_r | apply thn_e | apply blk_n | apply blk_r | apply blk_e | apply cut_r | apply cut_e)
        | ((with_reducible apply w_cond_true); exact rfl)
        | ((with_reducible apply w_cond_false); exact rfl)
        | ((with_reducible apply w_cond) <;> first | exact rfl | (intro hb; (replace hb := Tidy.out hb; try (exfalso; omega))))
        | ((with_reducible apply blk_x); exact rfl)
        | ((with_reducible apply cut_n (i := ())) <;> first | exact trivial | ((repeat (first | exact Sub.nil _ | refine Sub.cons rfl ?_)); done) | ((repeat (first | exact MSub.nil _ | refine MSub.pick (by (repeat first | exact .hd | apply Sel.tl | apply In.tl)) ?_ | exact MSub.refl _ | refine MSub.drop .hd ?_)); done))
        | ((with_reducible apply wl_v); exact rfl; (with_reducible apply v_succN); exact rfl; exact rfl; (simp only [maxLen] at *; omega))
        | ((with_reducible apply wl_v); exact rfl; (with_reducible apply v_1addN); exact rfl; exact rfl; (simp only [maxLen] at *; omega))
        | ((with_reducible apply wl_v); exact rfl; (with_reducible apply v_addN); exact rfl; exact rfl; (simp only [maxLen] at *; omega))
        | ((with_reducible apply wl_v); exact rfl; (with_reducible apply v_predN); exact rfl; exact rfl; omega; (simp only [maxLen] at *; omega))
        | ((with_reducible apply wl_v); exact rfl; (with_reducible apply v_subN); exact rfl; exact rfl; omega; (simp only [maxLen] at *; omega))
        | ((with_reducible apply wl_v); exact rfl; (with_reducible apply v_maxN); exact rfl; exact rfl))
      ((with_reducible apply ret1); exact .inl rfl; exact rfl; exact rfl; exact MSub.nil _)
      rfl
end Go.SL

/-
  Lemmas and walks, packed: W26.
-/
import Derived.Test.YtfkklicpnoeclaaGg
import Derived.Test.YtfkklicpnoeclaaGb
set_option linter.unusedSimpArgs false
set_option linter.unusedVariables false
/-
  What TreeJoins returns.
-/
namespace Go.SL
open Go Go.Proofs
attribute [local irreducible] W WL WQ WG WA WX VOp thn blk cutP retP FnAt FnIn Held

set_option maxRecDepth 20000 in
set_option maxHeartbeats 4000000 in
theorem TreeJoins_at (root : Nd) (Ls : List (List Nd)) (hwr : wfN root) (hwf : ∀ L ∈ Ls, ∀ n ∈ L, wfN n) (lv : Value) (w : World) (hl : ReadsLL w lv Ls) : Pure Try.prog 5 [.agg (encN root).toArray, lv] w (.bool true) := by
  obtain ⟨vals, hvl, ⟨Al, cl, rfl, hl1, hl2, hl3⟩, hel⟩ := hl
  refine fn_at Try.func5 rfl Try.ntmps5 rfl ?_
  repeat' (first
    | ((with_reducible apply wl_v); exact rfl; (with_reducible apply v_minN (a := root.v.text.size) (b := 300)); exact rfl; exact rfl; exact rfl)
    | ((with_reducible apply wl_v); exact rfl; (with_reducible apply v_cut_str); exact rfl; exact rfl; omega)
    | ((with_reducible apply w_cutB (id := 0) (ι := Nat × (Option Nat × Nat) × List Value × (Option Nat × Nat) × List Value × List Blk × Nat) (fun y => [(2, .pointer (some ⟨y.2.2.2.2.2.2, 0, none⟩)), (5, sl y.2.1.1 y.1 y.2.1.2), (6, sl y.2.2.2.1.1 y.1 y.2.2.2.1.2)]) (fun y => .own y.2.1.1 22 1 y.1 y.2.1.2 y.2.2.1 :: .own y.2.2.2.1.1 22 1 y.1 y.2.2.2.1.2 y.2.2.2.2.1 :: .box y.2.2.2.2.2.2 40 (encN (fewN root)) :: y.2.2.2.2.2.1) (fun y => y.1 = min Ls.length 18 ∧ Held encN w y.2.2.2.2.2.1 y.2.2.1 ((Ls.take y.1).map fewT) ∧ Held encN w y.2.2.2.2.2.1 y.2.2.2.2.1 ((Ls.take y.1).map fewT))))
    | ((with_reducible apply wl_v); exact rfl; (first | ((with_reducible apply vop_ok); exact rfl) | ((with_reducible apply v_fieldAddr); exact rfl) | ((with_reducible apply v_len); exact rfl) | ((with_reducible apply v_lens); exact rfl) | ((with_reducible apply v_load_box); exact rfl; (repeat first | exact .hd | apply Sel.tl | apply In.tl); exact rfl) | ((with_reducible apply v_eqlb); exact rfl; exact rfl) | ((with_reducible apply v_neqb); exact rfl; exact rfl) | ((with_reducible apply v_min); exact rfl; exact rfl) | ((with_reducible apply v_loadw_box); exact rfl; (repeat first | exact .hd | apply Sel.tl | apply In.tl); exact rfl) | ((with_reducible apply v_loadn_box); exact rfl; (repeat first | exact .hd | apply Sel.tl | apply In.tl); exact rfl; exact rfl) | ((with_reducible apply v_build); exact rfl; exact rfl; exact rfl)))
    | ((with_reducible apply wl_gyes); exact rfl; exact rfl)
    | ((with_reducible apply wl_gno_b); exact rfl; exact rfl; exact rfl; exact rfl)
    | ((with_reducible apply wl_gno_u); exact rfl; exact rfl; exact rfl)
    | ((with_reducible apply wl_boxs); exact rfl; exact rfl; intro _)
    | ((with_reducible apply wl_box1); exact rfl; exact rfl; exact rfl; intro _)
    | ((with_reducible apply wl_storen_box); exact rfl; exact rfl; (repeat first | exact .hd | apply Sel.tl | apply In.tl); exact rfl; exact rfl; exact rfl)
    | ((with_reducible apply wl_putn_box); exact rfl; exact rfl; (repeat first | exact .hd | apply Sel.tl | apply In.tl); exact rfl; exact rfl; exact rfl; exact rfl)
    | ((with_reducible apply wl_buildSlice); exact rfl; exact rfl; exact rfl; exact rfl; exact rfl; exact rfl; exact rfl; intro _)
    | ((with_reducible apply wl_gsplit) <;> first | exact rfl | (intro hb; (replace hb := Tidy.out hb; try (exfalso; omega))))
    | (with_reducible first | apply wl_nil | apply thn_n | apply w_seq | apply w_region | apply w_ret | apply w_skip | apply w_exit | apply w_block | apply thn_r | apply thn_e | apply blk_n | apply blk_r | apply blk_e | apply cut_r | apply cut_e)
    | ((with_reducible apply w_cond_true); exact rfl)
    | ((with_reducible apply w_cond_false); exact rfl)
    | ((with_reducible apply w_cond) <;> first | exact rfl | (intro hb; (replace hb := Tidy.out hb; try (exfalso; omega))))
    | ((with_reducible apply blk_x); exact rfl)
    | ((with_reducible apply cut_n (i := ())) <;> first | exact trivial | ((repeat (first | exact Sub.nil _ | refine Sub.cons rfl ?_)); done) | ((repeat (first | exact MSub.nil _ | refine MSub.pick (by (repeat first | exact .hd | apply Sel.tl | apply In.tl)) ?_ | exact MSub.refl _ | refine MSub.drop .hd ?_)); done)))
  · rename_i g
    refine w_nilrow 22 1 ?_
    refine w_nilrow 22 1 ?_
    refine w_loopK [1, 2] rfl (fun y : Nat × (Option Nat × Nat) × List Value × (Option Nat × Nat) × List Value × List Blk => [(5, sl y.2.1.1 y.1 y.2.1.2), (6, sl y.2.2.2.1.1 y.1 y.2.2.2.1.2), (7, .int .i64 (y.1 : Int))])
      (fun y => .own y.2.1.1 22 1 y.1 y.2.1.2 y.2.2.1 :: .own y.2.2.2.1.1 22 1 y.1 y.2.2.2.1.2 y.2.2.2.2.1 :: .box g 40 (encN (fewN root)) :: y.2.2.2.2.2)
      (fun y => y.1 ≤ Ls.length ∧ y.1 ≤ 18 ∧ Held encN w y.2.2.2.2.2 y.2.2.1 ((Ls.take y.1).map fewT) ∧ Held encN w y.2.2.2.2.2 y.2.2.2.2.1 ((Ls.take y.1).map fewT)) (fun y => 18 - y.1) (0, (none, 0), [], (none, 0), [], []) ⟨Nat.zero_le _, Nat.zero_le _, Held.nil, Held.nil⟩ (by (repeat (first | exact Sub.nil _ | refine Sub.cons rfl ?_))) (by (repeat (first | exact MSub.nil _ | refine MSub.pick (by (repeat first | exact .hd | apply Sel.tl | apply In.tl)) ?_ | exact MSub.refl _ | refine MSub.drop .hd ?_))) ?_
    rintro ⟨i, ⟨Aa, ca⟩, va, ⟨Ab, cb⟩, vb, F⟩ ⟨hi, hi18, hha, hhb⟩
    dsimp only at hi hi18 hha hhb ⊢
    have hla : va.length = i := by unfold Held at hha; rw [hha.1]; simp; omega
    have hlb : vb.length = i := by unfold Held at hhb; rw [hhb.1]; simp; omega
    by_cases hlt : i < Ls.length ∧ i < 18
    · obtain ⟨gl, ol, rfl, hrl⟩ := hl3 (by omega)
      have hx := List.getElem?_eq_getElem (show i < vals.length by omega)
      have hL := List.getElem?_eq_getElem hlt.1
      have hr1 := hrl.cellV i hx
      have hR := hel i _ _ hx hL
      generalize vals[i] = xv at hr1 hR
      have hfew := fun (w' : World) (H : List Blk) (hm : Mem w w' H) => Few_at Ls[i] xv w' (hR.of_w0 hm)
      have hTc : (Ls.take (i + 1)).map fewT = (Ls.take i).map fewT ++ [fewT Ls[i]] := by
        rw [List.take_succ_eq_append_getElem hlt.1, List.map_append]; rfl
      generalize fewT Ls[i] = X at hfew hTc
      have hdr : ∀ i' : Nat, True := fun _ => trivial
      repeat' (first
        | ((with_reducible apply wl_v); exact rfl; (first | ((with_reducible apply vop_ok); exact rfl) | ((with_reducible apply v_fieldAddr); exact rfl) | ((with_reducible apply v_len); exact rfl) | ((with_reducible apply v_lens); exact rfl) | ((with_reducible apply v_load_box); exact rfl; (repeat first | exact .hd | apply Sel.tl | apply In.tl); exact rfl) | ((with_reducible apply v_eqlb); exact rfl; exact rfl) | ((with_reducible apply v_neqb); exact rfl; exact rfl) | ((with_reducible apply v_min); exact rfl; exact rfl) | ((with_reducible apply v_loadw_box); exact rfl; (repeat first | exact .hd | apply Sel.tl | apply In.tl); exact rfl) | ((with_reducible apply v_loadn_box); exact rfl; (repeat first | exact .hd | apply Sel.tl | apply In.tl); exact rfl; exact rfl) | ((with_reducible apply v_build); exact rfl; exact rfl; exact rfl)))
        | ((with_reducible apply wl_gyes); exact rfl; exact rfl)
        | ((with_reducible apply wl_gno_b); exact rfl; exact rfl; exact rfl; exact rfl)
        | ((with_reducible apply wl_gno_u); exact rfl; exact rfl; exact rfl)
        | ((with_reducible apply wl_boxs); exact rfl; exact rfl; intro _)
        | ((with_reducible apply wl_box1); exact rfl; exact rfl; exact rfl; intro _)
        | ((with_reducible apply wl_storen_box); exact rfl; exact rfl; (repeat first | exact .hd | apply Sel.tl | apply In.tl); exact rfl; exact rfl; exact rfl)
        | ((with_reducible apply wl_putn_box); exact rfl; exact rfl; (repeat first | exact .hd | apply Sel.tl | apply In.tl); exact rfl; exact rfl; exact rfl; exact rfl)
        | ((with_reducible apply wl_buildSlice); exact rfl; exact rfl; exact rfl; exact rfl; exact rfl; exact rfl; exact rfl; intro _)
        | ((with_reducible apply wl_gsplit) <;> first | exact rfl | (intro hb; (replace hb := Tidy.out hb; try (exfalso; omega))))
        | (with_reducible first | apply wl_nil | apply thn_n | apply w_seq | apply w_region | apply w_ret | apply w_skip | apply w_exit | apply w_block | apply thn_r | apply thn_e | apply blk_n | apply blk_r | apply blk_e | apply wx_nil | apply cut_r | apply cut_e)
        | ((with_reducible apply w_cond_true); exact rfl)
        | ((with_reducible apply w_cond_false); exact rfl)
        | ((with_reducible apply w_cond) <;> first | exact rfl | (intro hb; (replace hb := Tidy.out hb; try (exfalso; omega))))
        | ((with_reducible apply blk_x); exact rfl)
        | ((with_reducible apply cut_n (i := ())) <;> first | exact trivial | ((repeat (first | exact Sub.nil _ | refine Sub.cons rfl ?_)); done) | ((repeat (first | exact MSub.nil _ | refine MSub.pick (by (repeat first | exact .hd | apply Sel.tl | apply In.tl)) ?_ | exact MSub.refl _ | refine MSub.drop .hd ?_)); done))
        | ((with_reducible apply wx_v); exact rfl; exact rfl; exact rfl; (intro D ht; (first | ((with_reducible apply vop_ok); exact rfl) | ((with_reducible apply v_fieldAddr); exact rfl) | ((with_reducible apply v_len); exact rfl) | ((with_reducible apply v_lens); exact rfl) | ((with_reducible apply v_load_box); exact rfl; (repeat first | exact .hd | apply Sel.tl | apply In.tl); exact rfl) | ((with_reducible apply v_eqlb); exact rfl; exact rfl) | ((with_reducible apply v_neqb); exact rfl; exact rfl) | ((with_reducible apply v_min); exact rfl; exact rfl) | ((with_reducible apply v_loadw_box); exact rfl; (repeat first | exact .hd | apply Sel.tl | apply In.tl); exact rfl) | ((with_reducible apply v_loadn_box); exact rfl; (repeat first | exact .hd | apply Sel.tl | apply In.tl); exact rfl; exact rfl) | ((with_reducible apply v_build); exact rfl; exact rfl; exact rfl))); exact fun _ => rfl)
        | ((with_reducible apply wx_gno); exact rfl; exact rfl; exact rfl; exact fun _ => rfl)
        | ((with_reducible apply wx_gsplit) <;> first | exact rfl | (intro hb; (replace hb := Tidy.out hb; try (exfalso; omega))))
        | ((with_reducible apply wx_v); exact rfl; exact rfl; exact rfl; (intro D ht; ((with_reducible apply v_indexAddr); exact rfl; exact rfl; (first | assumption | omega))); exact fun _ => rfl)
        | ((with_reducible apply wx_v); exact rfl; exact rfl; exact rfl; (intro D ht; ((with_reducible apply v_loadw_ro); exact rfl; assumption; exact rfl)); exact fun _ => rfl)
        | ((with_reducible apply wx_v); exact rfl; exact rfl; exact rfl; (intro D ht; ((with_reducible apply v_load1_ro); exact rfl; assumption)); exact fun _ => rfl)
        | ((with_reducible apply wx_v); exact rfl; exact rfl; exact rfl; (intro D ht; ((with_reducible apply v_loadf_ro); exact rfl; assumption; exact rfl)); exact fun _ => rfl)
        | ((with_reducible apply wl_v); exact rfl; (with_reducible apply v_succN); exact rfl; exact rfl; (simp only [maxLen] at *; omega))
        | ((with_reducible apply wl_v); exact rfl; (with_reducible apply v_1addN); exact rfl; exact rfl; (simp only [maxLen] at *; omega))
        | ((with_reducible apply wl_v); exact rfl; (with_reducible apply v_addN); exact rfl; exact rfl; (simp only [maxLen] at *; omega))
        | ((with_reducible apply wl_v); exact rfl; (with_reducible apply v_indexAddr); exact rfl; exact rfl; (first | assumption | omega))
        | ((with_reducible apply wl_v); exact rfl; (with_reducible apply v_loadw_ro); exact rfl; assumption; exact rfl)
        | ((with_reducible apply wl_v); exact rfl; (with_reducible apply v_load1_ro); exact rfl; assumption)
        | ((with_reducible apply wl_v); exact rfl; (with_reducible apply v_loadf_ro); exact rfl; assumption; exact rfl))
      refine w_nilrow 0 0 ?_
      refine w_nilrow 0 0 ?_
      refine w_nilrow 0 0 ?_
      refine w_nilrow 0 0 ?_
      refine w_drawXg (id := 6) (fun | 5 => some fun g => sl g.1 X.length g.2 | 6 => some fun g => .slice (some ⟨g.2, 0, none⟩) 1 1 | 7 => some fun g => sl g.1 (i + 1) g.2 | 13 => some fun g => sl g.1 X.length g.2 | 14 => some fun g => .slice (some ⟨g.2, 0, none⟩) 1 1 | 15 => some fun g => sl g.1 (i + 1) g.2 | _ => none)
        (fun (D : Done) (q : Nat → Gh) => (bif D 7 then Blk.own (q 7).1 22 1 (i + 1) (q 7).2 (va ++ [sl (q 5).1 X.length (q 5).2]) else .own Aa 22 1 i ca va) :: (bif D 15 then Blk.own (q 15).1 22 1 (i + 1) (q 15).2 (vb ++ [sl (q 13).1 X.length (q 13).2]) else .own Ab 22 1 i cb vb) :: .box g 40 (encN (fewN root)) ::
          (bif D 5 then Blk.own (q 5).1 40 11 X.length (q 5).2 (X.flatMap encN) else nilB) :: (bif D 13 then Blk.own (q 13).1 40 11 X.length (q 13).2 (X.flatMap encN) else nilB) :: (bif D 6 then Blk.own (some (q 6).2) 22 1 1 1 [sl (q 5).1 X.length (q 5).2] else nilB) :: (bif D 14 then Blk.own (some (q 14).2) 22 1 1 1 [sl (q 13).1 X.length (q 13).2] else nilB) :: F) ?_ ?_ ?_ ?_
      · kernel_rfl
      · kernel_rfl
      · intro γ
        (repeat (first | exact MSub.nil _ | refine MSub.pick (by (repeat first | exact .hd | apply Sel.tl | apply In.tl)) ?_ | exact MSub.refl _ | refine MSub.drop .hd ?_))
      intro γ
      repeat' (first
        | ((with_reducible apply wl_v); exact rfl; (first | ((with_reducible apply vop_ok); exact rfl) | ((with_reducible apply v_fieldAddr); exact rfl) | ((with_reducible apply v_len); exact rfl) | ((with_reducible apply v_lens); exact rfl) | ((with_reducible apply v_load_box); exact rfl; (repeat first | exact .hd | apply Sel.tl | apply In.tl); exact rfl) | ((with_reducible apply v_eqlb); exact rfl; exact rfl) | ((with_reducible apply v_neqb); exact rfl; exact rfl) | ((with_reducible apply v_min); exact rfl; exact rfl) | ((with_reducible apply v_loadw_box); exact rfl; (repeat first | exact .hd | apply Sel.tl | apply In.tl); exact rfl) | ((with_reducible apply v_loadn_box); exact rfl; (repeat first | exact .hd | apply Sel.tl | apply In.tl); exact rfl; exact rfl) | ((with_reducible apply v_build); exact rfl; exact rfl; exact rfl)))
        | ((with_reducible apply wl_gyes); exact rfl; exact rfl)
        | ((with_reducible apply wl_gno_b); exact rfl; exact rfl; exact rfl; exact rfl)
        | ((with_reducible apply wl_gno_u); exact rfl; exact rfl; exact rfl)
        | ((with_reducible apply wl_boxs); exact rfl; exact rfl; intro _)
        | ((with_reducible apply wl_box1); exact rfl; exact rfl; exact rfl; intro _)
        | ((with_reducible apply wl_storen_box); exact rfl; exact rfl; (repeat first | exact .hd | apply Sel.tl | apply In.tl); exact rfl; exact rfl; exact rfl)
        | ((with_reducible apply wl_putn_box); exact rfl; exact rfl; (repeat first | exact .hd | apply Sel.tl | apply In.tl); exact rfl; exact rfl; exact rfl; exact rfl)
        | ((with_reducible apply wl_buildSlice); exact rfl; exact rfl; exact rfl; exact rfl; exact rfl; exact rfl; exact rfl; intro _)
        | ((with_reducible apply wl_gsplit) <;> first | exact rfl | (intro hb; (replace hb := Tidy.out hb; try (exfalso; omega))))
        | (with_reducible first | apply wl_nil | apply thn_n | apply w_seq | apply w_region | apply w_ret | apply w_skip | apply w_exit | apply w_block | apply thn_r | apply thn_e | apply blk_n | apply blk_r | apply blk_e | apply wx_nil | apply cut_r | apply cut_e)
        | ((with_reducible apply w_cond_true); exact rfl)
        | ((with_reducible apply w_cond_false); exact rfl)
        | ((with_reducible apply w_cond) <;> first | exact rfl | (intro hb; (replace hb := Tidy.out hb; try (exfalso; omega))))
        | ((with_reducible apply blk_x); exact rfl)
        | ((with_reducible apply cut_n (i := ())) <;> first | exact trivial | ((repeat (first | exact Sub.nil _ | refine Sub.cons rfl ?_)); done) | ((repeat (first | exact MSub.nil _ | refine MSub.pick (by (repeat first | exact .hd | apply Sel.tl | apply In.tl)) ?_ | exact MSub.refl _ | refine MSub.drop .hd ?_)); done))
        | ((with_reducible apply wx_v); exact rfl; exact rfl; exact rfl; (intro D ht; (first | ((with_reducible apply vop_ok); exact rfl) | ((with_reducible apply v_fieldAddr); exact rfl) | ((with_reducible apply v_len); exact rfl) | ((with_reducible apply v_lens); exact rfl) | ((with_reducible apply v_load_box); exact rfl; (repeat first | exact .hd | apply Sel.tl | apply In.tl); exact rfl) | ((with_reducible apply v_eqlb); exact rfl; exact rfl) | ((with_reducible apply v_neqb); exact rfl; exact rfl) | ((with_reducible apply v_min); exact rfl; exact rfl) | ((with_reducible apply v_loadw_box); exact rfl; (repeat first | exact .hd | apply Sel.tl | apply In.tl); exact rfl) | ((with_reducible apply v_loadn_box); exact rfl; (repeat first | exact .hd | apply Sel.tl | apply In.tl); exact rfl; exact rfl) | ((with_reducible apply v_build); exact rfl; exact rfl; exact rfl))); exact fun _ => rfl)
        | ((with_reducible apply wx_gno); exact rfl; exact rfl; exact rfl; exact fun _ => rfl)
        | ((with_reducible apply wx_gsplit) <;> first | exact rfl | (intro hb; (replace hb := Tidy.out hb; try (exfalso; omega))))
        | ((with_reducible apply wx_v); exact rfl; exact rfl; exact rfl; (intro D ht; ((with_reducible apply v_indexAddr); exact rfl; exact rfl; (first | assumption | omega))); exact fun _ => rfl)
        | ((with_reducible apply wx_v); exact rfl; exact rfl; exact rfl; (intro D ht; ((with_reducible apply v_loadw_ro); exact rfl; assumption; exact rfl)); exact fun _ => rfl)
        | ((with_reducible apply wx_v); exact rfl; exact rfl; exact rfl; (intro D ht; ((with_reducible apply v_load1_ro); exact rfl; assumption)); exact fun _ => rfl)
        | ((with_reducible apply wx_v); exact rfl; exact rfl; exact rfl; (intro D ht; ((with_reducible apply v_loadf_ro); exact rfl; assumption; exact rfl)); exact fun _ => rfl)
        | ((with_reducible apply wl_v); exact rfl; (with_reducible apply v_succN); exact rfl; exact rfl; (simp only [maxLen] at *; omega))
        | ((with_reducible apply wl_v); exact rfl; (with_reducible apply v_1addN); exact rfl; exact rfl; (simp only [maxLen] at *; omega))
        | ((with_reducible apply wl_v); exact rfl; (with_reducible apply v_addN); exact rfl; exact rfl; (simp only [maxLen] at *; omega))
        | ((with_reducible apply wl_v); exact rfl; (with_reducible apply v_indexAddr); exact rfl; exact rfl; (first | assumption | omega))
        | ((with_reducible apply wl_v); exact rfl; (with_reducible apply v_loadw_ro); exact rfl; assumption; exact rfl)
        | ((with_reducible apply wl_v); exact rfl; (with_reducible apply v_load1_ro); exact rfl; assumption)
        | ((with_reducible apply wl_v); exact rfl; (with_reducible apply v_loadf_ro); exact rfl; assumption; exact rfl))
      refine wx_non rfl rfl rfl (fun D ht => ?_) ?_
      · have n5 : D 5 = false := ht.not
        have n6 : D 6 = false := ht.late (j := 6) (f := 60) (by decide +kernel)
        have n7 : D 7 = false := ht.late (j := 7) (f := 60) (by decide +kernel)
        have n13 : D 13 = false := ht.late (j := 13) (f := 60) (by decide +kernel)
        have n14 : D 14 = false := ht.late (j := 14) (f := 60) (by decide +kernel)
        have n15 : D 15 = false := ht.late (j := 15) (f := 60) (by decide +kernel)
        (simp only [gat, put, upd, Nat.reduceEqDiff, Nat.reduceAdd, reduceIte, n5, n6, n7, n13, n14, n15, cond_true, cond_false, List.nil_append, List.cons_append, Bool.and_true, Bool.and_false, Bool.true_and, Bool.false_and])
        (with_reducible apply wl_call (f := 17)); exact rfl; exact rfl; (intro w' h; exact hfew w' _ h); (rintro v H' ⟨A3, c3, rfl, rfl⟩)
        refine wl_nil ⟨rfl, (A3, c3), rfl, ?_⟩
        (simp only [gat, put, upd, Nat.reduceEqDiff, Nat.reduceAdd, reduceIte, n5, n6, n7, n13, n14, n15, cond_true, cond_false, List.nil_append, List.cons_append, Bool.and_true, Bool.and_false, Bool.true_and, Bool.false_and])
        (repeat (first | exact MSub.nil _ | refine MSub.pick (by (repeat first | exact .hd | apply Sel.tl | apply In.tl)) ?_ | exact MSub.refl _ | refine MSub.drop .hd ?_))
      refine wx_non rfl rfl rfl (fun D ht => ?_) ?_
      · have n6 : D 6 = false := ht.not
        have n5 : D 5 = true := ht.early (i := 5) (f := 60) (by decide +kernel)
        have n7 : D 7 = false := ht.late (j := 7) (f := 60) (by decide +kernel)
        have n13 : D 13 = false := ht.late (j := 13) (f := 60) (by decide +kernel)
        have n14 : D 14 = false := ht.late (j := 14) (f := 60) (by decide +kernel)
        have n15 : D 15 = false := ht.late (j := 15) (f := 60) (by decide +kernel)
        (simp only [gat, put, upd, Nat.reduceEqDiff, Nat.reduceAdd, reduceIte, n6, n5, n7, n13, n14, n15, cond_true, cond_false, List.nil_append, List.cons_append, Bool.and_true, Bool.and_false, Bool.true_and, Bool.false_and])
        (with_reducible apply wl_buildSlice); exact rfl; exact rfl; exact rfl; exact rfl; exact rfl; exact rfl; exact rfl; intro gs
        refine wl_nil ⟨rfl, (none, gs), rfl, ?_⟩
        (simp only [gat, put, upd, Nat.reduceEqDiff, Nat.reduceAdd, reduceIte, n6, n5, n7, n13, n14, n15, cond_true, cond_false, List.nil_append, List.cons_append, Bool.and_true, Bool.and_false, Bool.true_and, Bool.false_and])
        (repeat (first | exact MSub.nil _ | refine MSub.pick (by (repeat first | exact .hd | apply Sel.tl | apply In.tl)) ?_ | exact MSub.refl _ | refine MSub.drop .hd ?_))
      refine wx_non rfl rfl rfl (fun D ht => ?_) ?_
      · have n7 : D 7 = false := ht.not
        have n5 : D 5 = true := ht.early (i := 5) (f := 60) (by decide +kernel)
        have n6 : D 6 = true := ht.early (i := 6) (f := 60) (by decide +kernel)
        have n13 : D 13 = false := ht.late (j := 13) (f := 60) (by decide +kernel)
        have n14 : D 14 = false := ht.late (j := 14) (f := 60) (by decide +kernel)
        have n15 : D 15 = false := ht.late (j := 15) (f := 60) (by decide +kernel)
        (simp only [gat, put, upd, Nat.reduceEqDiff, Nat.reduceAdd, reduceIte, n7, n5, n6, n13, n14, n15, cond_true, cond_false, List.nil_append, List.cons_append, Bool.and_true, Bool.and_false, Bool.true_and, Bool.false_and])
        ((with_reducible apply wl_append); exact rfl; exact rfl; exact rfl; (repeat first | exact .hd | apply Sel.tl | apply In.tl); (intro w hm; exact hm.cells_own (by (repeat first | exact .hd | apply Sel.tl | apply In.tl))); exact rfl; (simp [Value.oneCell', sl]); omega; (simp only [maxLen]; omega); (intro A6 c6 h6))
        refine wl_nil ⟨rfl, (A6, c6), rfl, ?_⟩
        (simp only [gat, put, upd, Nat.reduceEqDiff, Nat.reduceAdd, reduceIte, n7, n5, n6, n13, n14, n15, cond_true, cond_false, List.nil_append, List.cons_append, Bool.and_true, Bool.and_false, Bool.true_and, Bool.false_and])
        (repeat (first | exact MSub.nil _ | refine MSub.pick (by (repeat first | exact .hd | apply Sel.tl | apply In.tl)) ?_ | exact MSub.refl _ | refine MSub.drop .hd ?_))
      repeat' (first
        | ((with_reducible apply wl_v); exact rfl; (first | ((with_reducible apply vop_ok); exact rfl) | ((with_reducible apply v_fieldAddr); exact rfl) | ((with_reducible apply v_len); exact rfl) | ((with_reducible apply v_lens); exact rfl) | ((with_reducible apply v_load_box); exact rfl; (repeat first | exact .hd | apply Sel.tl | apply In.tl); exact rfl) | ((with_reducible apply v_eqlb); exact rfl; exact rfl) | ((with_reducible apply v_neqb); exact rfl; exact rfl) | ((with_reducible apply v_min); exact rfl; exact rfl) | ((with_reducible apply v_loadw_box); exact rfl; (repeat first | exact .hd | apply Sel.tl | apply In.tl); exact rfl) | ((with_reducible apply v_loadn_box); exact rfl; (repeat first | exact .hd | apply Sel.tl | apply In.tl); exact rfl; exact rfl) | ((with_reducible apply v_build); exact rfl; exact rfl; exact rfl)))
        | ((with_reducible apply wl_gyes); exact rfl; exact rfl)
        | ((with_reducible apply wl_gno_b); exact rfl; exact rfl; exact rfl; exact rfl)
        | ((with_reducible apply wl_gno_u); exact rfl; exact rfl; exact rfl)
        | ((with_reducible apply wl_boxs); exact rfl; exact rfl; intro _)
        | ((with_reducible apply wl_box1); exact rfl; exact rfl; exact rfl; intro _)
        | ((with_reducible apply wl_storen_box); exact rfl; exact rfl; (repeat first | exact .hd | apply Sel.tl | apply In.tl); exact rfl; exact rfl; exact rfl)
        | ((with_reducible apply wl_putn_box); exact rfl; exact rfl; (repeat first | exact .hd | apply Sel.tl | apply In.tl); exact rfl; exact rfl; exact rfl; exact rfl)
        | ((with_reducible apply wl_buildSlice); exact rfl; exact rfl; exact rfl; exact rfl; exact rfl; exact rfl; exact rfl; intro _)
        | ((with_reducible apply wl_gsplit) <;> first | exact rfl | (intro hb; (replace hb := Tidy.out hb; try (exfalso; omega))))
        | (with_reducible first | apply wl_nil | apply thn_n | apply w_seq | apply w_region | apply w_ret | apply w_skip | apply w_exit | apply w_block | apply thn_r | apply thn_e | apply blk_n | apply blk_r | apply blk_e | apply wx_nil | apply cut_r | apply cut_e)
        | ((with_reducible apply w_cond_true); exact rfl)
        | ((with_reducible apply w_cond_false); exact rfl)
        | ((with_reducible apply w_cond) <;> first | exact rfl | (intro hb; (replace hb := Tidy.out hb; try (exfalso; omega))))
        | ((with_reducible apply blk_x); exact rfl)
        | ((with_reducible apply cut_n (i := ())) <;> first | exact trivial | ((repeat (first | exact Sub.nil _ | refine Sub.cons rfl ?_)); done) | ((repeat (first | exact MSub.nil _ | refine MSub.pick (by (repeat first | exact .hd | apply Sel.tl | apply In.tl)) ?_ | exact MSub.refl _ | refine MSub.drop .hd ?_)); done))
        | ((with_reducible apply wx_v); exact rfl; exact rfl; exact rfl; (intro D ht; (first | ((with_reducible apply vop_ok); exact rfl) | ((with_reducible apply v_fieldAddr); exact rfl) | ((with_reducible apply v_len); exact rfl) | ((with_reducible apply v_lens); exact rfl) | ((with_reducible apply v_load_box); exact rfl; (repeat first | exact .hd | apply Sel.tl | apply In.tl); exact rfl) | ((with_reducible apply v_eqlb); exact rfl; exact rfl) | ((with_reducible apply v_neqb); exact rfl; exact rfl) | ((with_reducible apply v_min); exact rfl; exact rfl) | ((with_reducible apply v_loadw_box); exact rfl; (repeat first | exact .hd | apply Sel.tl | apply In.tl); exact rfl) | ((with_reducible apply v_loadn_box); exact rfl; (repeat first | exact .hd | apply Sel.tl | apply In.tl); exact rfl; exact rfl) | ((with_reducible apply v_build); exact rfl; exact rfl; exact rfl))); exact fun _ => rfl)
        | ((with_reducible apply wx_gno); exact rfl; exact rfl; exact rfl; exact fun _ => rfl)
        | ((with_reducible apply wx_gsplit) <;> first | exact rfl | (intro hb; (replace hb := Tidy.out hb; try (exfalso; omega))))
        | ((with_reducible apply wx_v); exact rfl; exact rfl; exact rfl; (intro D ht; ((with_reducible apply v_indexAddr); exact rfl; exact rfl; (first | assumption | omega))); exact fun _ => rfl)
        | ((with_reducible apply wx_v); exact rfl; exact rfl; exact rfl; (intro D ht; ((with_reducible apply v_loadw_ro); exact rfl; assumption; exact rfl)); exact fun _ => rfl)
        | ((with_reducible apply wx_v); exact rfl; exact rfl; exact rfl; (intro D ht; ((with_reducible apply v_load1_ro); exact rfl; assumption)); exact fun _ => rfl)
        | ((with_reducible apply wx_v); exact rfl; exact rfl; exact rfl; (intro D ht; ((with_reducible apply v_loadf_ro); exact rfl; assumption; exact rfl)); exact fun _ => rfl)
        | ((with_reducible apply wl_v); exact rfl; (with_reducible apply v_succN); exact rfl; exact rfl; (simp only [maxLen] at *; omega))
        | ((with_reducible apply wl_v); exact rfl; (with_reducible apply v_1addN); exact rfl; exact rfl; (simp only [maxLen] at *; omega))
        | ((with_reducible apply wl_v); exact rfl; (with_reducible apply v_addN); exact rfl; exact rfl; (simp only [maxLen] at *; omega))
        | ((with_reducible apply wl_v); exact rfl; (with_reducible apply v_indexAddr); exact rfl; exact rfl; (first | assumption | omega))
        | ((with_reducible apply wl_v); exact rfl; (with_reducible apply v_loadw_ro); exact rfl; assumption; exact rfl)
        | ((with_reducible apply wl_v); exact rfl; (with_reducible apply v_load1_ro); exact rfl; assumption)
        | ((with_reducible apply wl_v); exact rfl; (with_reducible apply v_loadf_ro); exact rfl; assumption; exact rfl))
      refine wx_non rfl rfl rfl (fun D ht => ?_) ?_
      · have n13 : D 13 = false := ht.not
        have n5 : D 5 = true := ht.early (i := 5) (f := 60) (by decide +kernel)
        have n6 : D 6 = true := ht.early (i := 6) (f := 60) (by decide +kernel)
        have n7 : D 7 = true := ht.early (i := 7) (f := 60) (by decide +kernel)
        have n14 : D 14 = false := ht.late (j := 14) (f := 60) (by decide +kernel)
        have n15 : D 15 = false := ht.late (j := 15) (f := 60) (by decide +kernel)
        (simp only [gat, put, upd, Nat.reduceEqDiff, Nat.reduceAdd, reduceIte, n13, n5, n6, n7, n14, n15, cond_true, cond_false, List.nil_append, List.cons_append, Bool.and_true, Bool.and_false, Bool.true_and, Bool.false_and])
        (with_reducible apply wl_call (f := 17)); exact rfl; exact rfl; (intro w' h; exact hfew w' _ h); (rintro v H' ⟨A3, c3, rfl, rfl⟩)
        refine wl_nil ⟨rfl, (A3, c3), rfl, ?_⟩
        (simp only [gat, put, upd, Nat.reduceEqDiff, Nat.reduceAdd, reduceIte, n13, n5, n6, n7, n14, n15, cond_true, cond_false, List.nil_append, List.cons_append, Bool.and_true, Bool.and_false, Bool.true_and, Bool.false_and])
        (repeat (first | exact MSub.nil _ | refine MSub.pick (by (repeat first | exact .hd | apply Sel.tl | apply In.tl)) ?_ | exact MSub.refl _ | refine MSub.drop .hd ?_))
      refine wx_non rfl rfl rfl (fun D ht => ?_) ?_
      · have n14 : D 14 = false := ht.not
        have n5 : D 5 = true := ht.early (i := 5) (f := 60) (by decide +kernel)
        have n6 : D 6 = true := ht.early (i := 6) (f := 60) (by decide +kernel)
        have n7 : D 7 = true := ht.early (i := 7) (f := 60) (by decide +kernel)
        have n13 : D 13 = true := ht.early (i := 13) (f := 60) (by decide +kernel)
        have n15 : D 15 = false := ht.late (j := 15) (f := 60) (by decide +kernel)
        (simp only [gat, put, upd, Nat.reduceEqDiff, Nat.reduceAdd, reduceIte, n14, n5, n6, n7, n13, n15, cond_true, cond_false, List.nil_append, List.cons_append, Bool.and_true, Bool.and_false, Bool.true_and, Bool.false_and])
        (with_reducible apply wl_buildSlice); exact rfl; exact rfl; exact rfl; exact rfl; exact rfl; exact rfl; exact rfl; intro gs
        refine wl_nil ⟨rfl, (none, gs), rfl, ?_⟩
        (simp only [gat, put, upd, Nat.reduceEqDiff, Nat.reduceAdd, reduceIte, n14, n5, n6, n7, n13, n15, cond_true, cond_false, List.nil_append, List.cons_append, Bool.and_true, Bool.and_false, Bool.true_and, Bool.false_and])
        (repeat (first | exact MSub.nil _ | refine MSub.pick (by (repeat first | exact .hd | apply Sel.tl | apply In.tl)) ?_ | exact MSub.refl _ | refine MSub.drop .hd ?_))
      refine wx_non rfl rfl rfl (fun D ht => ?_) ?_
      · have n15 : D 15 = false := ht.not
        have n5 : D 5 = true := ht.early (i := 5) (f := 60) (by decide +kernel)
        have n6 : D 6 = true := ht.early (i := 6) (f := 60) (by decide +kernel)
        have n7 : D 7 = true := ht.early (i := 7) (f := 60) (by decide +kernel)
        have n13 : D 13 = true := ht.early (i := 13) (f := 60) (by decide +kernel)
        have n14 : D 14 = true := ht.early (i := 14) (f := 60) (by decide +kernel)
        (simp only [gat, put, upd, Nat.reduceEqDiff, Nat.reduceAdd, reduceIte, n15, n5, n6, n7, n13, n14, cond_true, cond_false, List.nil_append, List.cons_append, Bool.and_true, Bool.and_false, Bool.true_and, Bool.false_and])
        ((with_reducible apply wl_append); exact rfl; exact rfl; exact rfl; (repeat first | exact .hd | apply Sel.tl | apply In.tl); (intro w hm; exact hm.cells_own (by (repeat first | exact .hd | apply Sel.tl | apply In.tl))); exact rfl; (simp [Value.oneCell', sl]); omega; (simp only [maxLen]; omega); (intro A6 c6 h6))
        refine wl_nil ⟨rfl, (A6, c6), rfl, ?_⟩
        (simp only [gat, put, upd, Nat.reduceEqDiff, Nat.reduceAdd, reduceIte, n15, n5, n6, n7, n13, n14, cond_true, cond_false, List.nil_append, List.cons_append, Bool.and_true, Bool.and_false, Bool.true_and, Bool.false_and])
        (repeat (first | exact MSub.nil _ | refine MSub.pick (by (repeat first | exact .hd | apply Sel.tl | apply In.tl)) ?_ | exact MSub.refl _ | refine MSub.drop .hd ?_))
      repeat' (first
        | ((with_reducible apply wl_v); exact rfl; (first | ((with_reducible apply vop_ok); exact rfl) | ((with_reducible apply v_fieldAddr); exact rfl) | ((with_reducible apply v_len); exact rfl) | ((with_reducible apply v_lens); exact rfl) | ((with_reducible apply v_load_box); exact rfl; (repeat first | exact .hd | apply Sel.tl | apply In.tl); exact rfl) | ((with_reducible apply v_eqlb); exact rfl; exact rfl) | ((with_reducible apply v_neqb); exact rfl; exact rfl) | ((with_reducible apply v_min); exact rfl; exact rfl) | ((with_reducible apply v_loadw_box); exact rfl; (repeat first | exact .hd | apply Sel.tl | apply In.tl); exact rfl) | ((with_reducible apply v_loadn_box); exact rfl; (repeat first | exact .hd | apply Sel.tl | apply In.tl); exact rfl; exact rfl) | ((with_reducible apply v_build); exact rfl; exact rfl; exact rfl)))
        | ((with_reducible apply wl_gyes); exact rfl; exact rfl)
        | ((with_reducible apply wl_gno_b); exact rfl; exact rfl; exact rfl; exact rfl)
        | ((with_reducible apply wl_gno_u); exact rfl; exact rfl; exact rfl)
        | ((with_reducible apply wl_boxs); exact rfl; exact rfl; intro _)
        | ((with_reducible apply wl_box1); exact rfl; exact rfl; exact rfl; intro _)
        | ((with_reducible apply wl_storen_box); exact rfl; exact rfl; (repeat first | exact .hd | apply Sel.tl | apply In.tl); exact rfl; exact rfl; exact rfl)
        | ((with_reducible apply wl_putn_box); exact rfl; exact rfl; (repeat first | exact .hd | apply Sel.tl | apply In.tl); exact rfl; exact rfl; exact rfl; exact rfl)
        | ((with_reducible apply wl_buildSlice); exact rfl; exact rfl; exact rfl; exact rfl; exact rfl; exact rfl; exact rfl; intro _)
        | ((with_reducible apply wl_gsplit) <;> first | exact rfl | (intro hb; (replace hb := Tidy.out hb; try (exfalso; omega))))
        | (with_reducible first | apply wl_nil | apply thn_n | apply w_seq | apply w_region | apply w_ret | apply w_skip | apply w_exit | apply w_block | apply thn_r | apply thn_e | apply blk_n | apply blk_r | apply blk_e | apply wx_nil | apply cut_r | apply cut_e)
        | ((with_reducible apply w_cond_true); exact rfl)
        | ((with_reducible apply w_cond_false); exact rfl)
        | ((with_reducible apply w_cond) <;> first | exact rfl | (intro hb; (replace hb := Tidy.out hb; try (exfalso; omega))))
        | ((with_reducible apply blk_x); exact rfl)
        | ((with_reducible apply cut_n (i := ())) <;> first | exact trivial | ((repeat (first | exact Sub.nil _ | refine Sub.cons rfl ?_)); done) | ((repeat (first | exact MSub.nil _ | refine MSub.pick (by (repeat first | exact .hd | apply Sel.tl | apply In.tl)) ?_ | exact MSub.refl _ | refine MSub.drop .hd ?_)); done))
        | ((with_reducible apply wx_v); exact rfl; exact rfl; exact rfl; (intro D ht; (first | ((with_reducible apply vop_ok); exact rfl) | ((with_reducible apply v_fieldAddr); exact rfl) | ((with_reducible apply v_len); exact rfl) | ((with_reducible apply v_lens); exact rfl) | ((with_reducible apply v_load_box); exact rfl; (repeat first | exact .hd | apply Sel.tl | apply In.tl); exact rfl) | ((with_reducible apply v_eqlb); exact rfl; exact rfl) | ((with_reducible apply v_neqb); exact rfl; exact rfl) | ((with_reducible apply v_min); exact rfl; exact rfl) | ((with_reducible apply v_loadw_box); exact rfl; (repeat first | exact .hd | apply Sel.tl | apply In.tl); exact rfl) | ((with_reducible apply v_loadn_box); exact rfl; (repeat first | exact .hd | apply Sel.tl | apply In.tl); exact rfl; exact rfl) | ((with_reducible apply v_build); exact rfl; exact rfl; exact rfl))); exact fun _ => rfl)
        | ((with_reducible apply wx_gno); exact rfl; exact rfl; exact rfl; exact fun _ => rfl)
        | ((with_reducible apply wx_gsplit) <;> first | exact rfl | (intro hb; (replace hb := Tidy.out hb; try (exfalso; omega))))
        | ((with_reducible apply wx_v); exact rfl; exact rfl; exact rfl; (intro D ht; ((with_reducible apply v_indexAddr); exact rfl; exact rfl; (first | assumption | omega))); exact fun _ => rfl)
        | ((with_reducible apply wx_v); exact rfl; exact rfl; exact rfl; (intro D ht; ((with_reducible apply v_loadw_ro); exact rfl; assumption; exact rfl)); exact fun _ => rfl)
        | ((with_reducible apply wx_v); exact rfl; exact rfl; exact rfl; (intro D ht; ((with_reducible apply v_load1_ro); exact rfl; assumption)); exact fun _ => rfl)
        | ((with_reducible apply wx_v); exact rfl; exact rfl; exact rfl; (intro D ht; ((with_reducible apply v_loadf_ro); exact rfl; assumption; exact rfl)); exact fun _ => rfl)
        | ((with_reducible apply wl_v); exact rfl; (with_reducible apply v_succN); exact rfl; exact rfl; (simp only [maxLen] at *; omega))
        | ((with_reducible apply wl_v); exact rfl; (with_reducible apply v_1addN); exact rfl; exact rfl; (simp only [maxLen] at *; omega))
        | ((with_reducible apply wl_v); exact rfl; (with_reducible apply v_addN); exact rfl; exact rfl; (simp only [maxLen] at *; omega))
        | ((with_reducible apply wl_v); exact rfl; (with_reducible apply v_indexAddr); exact rfl; exact rfl; (first | assumption | omega))
        | ((with_reducible apply wl_v); exact rfl; (with_reducible apply v_loadw_ro); exact rfl; assumption; exact rfl)
        | ((with_reducible apply wl_v); exact rfl; (with_reducible apply v_load1_ro); exact rfl; assumption)
        | ((with_reducible apply wl_v); exact rfl; (with_reducible apply v_loadf_ro); exact rfl; assumption; exact rfl))
      intro D hD
      have n5 := hD 5 (by decide)
      have n6 := hD 6 (by decide)
      have n7 := hD 7 (by decide)
      have n13 := hD 13 (by decide)
      have n14 := hD 14 (by decide)
      have n15 := hD 15 (by decide)
      (simp only [gat, put, upd, Nat.reduceEqDiff, Nat.reduceAdd, reduceIte, n5, n6, n7, n13, n14, n15, cond_true, cond_false, List.nil_append, List.cons_append, Bool.and_true, Bool.and_false, Bool.true_and, Bool.false_and])
      repeat' (first
        | ((with_reducible apply wl_v); exact rfl; (first | ((with_reducible apply vop_ok); exact rfl) | ((with_reducible apply v_fieldAddr); exact rfl) | ((with_reducible apply v_len); exact rfl) | ((with_reducible apply v_lens); exact rfl) | ((with_reducible apply v_load_box); exact rfl; (repeat first | exact .hd | apply Sel.tl | apply In.tl); exact rfl) | ((with_reducible apply v_eqlb); exact rfl; exact rfl) | ((with_reducible apply v_neqb); exact rfl; exact rfl) | ((with_reducible apply v_min); exact rfl; exact rfl) | ((with_reducible apply v_loadw_box); exact rfl; (repeat first | exact .hd | apply Sel.tl | apply In.tl); exact rfl) | ((with_reducible apply v_loadn_box); exact rfl; (repeat first | exact .hd | apply Sel.tl | apply In.tl); exact rfl; exact rfl) | ((with_reducible apply v_build); exact rfl; exact rfl; exact rfl)))
        | ((with_reducible apply wl_gyes); exact rfl; exact rfl)
        | ((with_reducible apply wl_gno_b); exact rfl; exact rfl; exact rfl; exact rfl)
        | ((with_reducible apply wl_gno_u); exact rfl; exact rfl; exact rfl)
        | ((with_reducible apply wl_boxs); exact rfl; exact rfl; intro _)
        | ((with_reducible apply wl_box1); exact rfl; exact rfl; exact rfl; intro _)
        | ((with_reducible apply wl_storen_box); exact rfl; exact rfl; (repeat first | exact .hd | apply Sel.tl | apply In.tl); exact rfl; exact rfl; exact rfl)
        | ((with_reducible apply wl_putn_box); exact rfl; exact rfl; (repeat first | exact .hd | apply Sel.tl | apply In.tl); exact rfl; exact rfl; exact rfl; exact rfl)
        | ((with_reducible apply wl_buildSlice); exact rfl; exact rfl; exact rfl; exact rfl; exact rfl; exact rfl; exact rfl; intro _)
        | ((with_reducible apply wl_gsplit) <;> first | exact rfl | (intro hb; (replace hb := Tidy.out hb; try (exfalso; omega))))
        | (with_reducible first | apply wl_nil | apply thn_n | apply w_seq | apply w_region | apply w_ret | apply w_skip | apply w_exit | apply w_block | apply thn_r | apply thn_e | apply blk_n | apply blk_r | apply blk_e | apply cut_r | apply cut_e)
        | ((with_reducible apply w_cond_true); exact rfl)
        | ((with_reducible apply w_cond_false); exact rfl)
        | ((with_reducible apply w_cond) <;> first | exact rfl | (intro hb; (replace hb := Tidy.out hb; try (exfalso; omega))))
        | ((with_reducible apply blk_x); exact rfl)
        | ((with_reducible apply cut_n (i := ())) <;> first | exact trivial | ((repeat (first | exact Sub.nil _ | refine Sub.cons rfl ?_)); done) | ((repeat (first | exact MSub.nil _ | refine MSub.pick (by (repeat first | exact .hd | apply Sel.tl | apply In.tl)) ?_ | exact MSub.refl _ | refine MSub.drop .hd ?_)); done))
        | ((with_reducible apply wl_v); exact rfl; (with_reducible apply v_succN); exact rfl; exact rfl; (simp only [maxLen] at *; omega))
        | ((with_reducible apply wl_v); exact rfl; (with_reducible apply v_1addN); exact rfl; exact rfl; (simp only [maxLen] at *; omega))
        | ((with_reducible apply wl_v); exact rfl; (with_reducible apply v_addN); exact rfl; exact rfl; (simp only [maxLen] at *; omega)))
      refine ⟨(i + 1, ((γ 7).1, (γ 7).2), va ++ [sl (γ 5).1 X.length (γ 5).2], ((γ 15).1, (γ 15).2), vb ++ [sl (γ 13).1 X.length (γ 13).2], .own (γ 5).1 40 11 X.length (γ 5).2 (X.flatMap encN) :: .own (γ 13).1 40 11 X.length (γ 13).2 (X.flatMap encN) :: F), ⟨by omega, by omega, ?_, ?_⟩, (by first | omega | (dsimp only; omega)), (by (repeat (first | exact Sub.nil _ | refine Sub.cons rfl ?_))), (by (repeat (first | exact Sub.nil _ | refine Sub.cons rfl ?_))), (by (repeat (first | exact MSub.nil _ | refine MSub.pick (by (repeat first | exact .hd | apply Sel.tl | apply In.tl)) ?_ | exact MSub.refl _ | refine MSub.drop .hd ?_)))⟩
      · dsimp only
        rw [hTc]
        exact hha.snoc (.drop .hd (.drop .hd (.refl _))) fun w' hm => Reads.of_own (A := (γ 5).1) hm .hd
      · dsimp only
        rw [hTc]
        exact hhb.snoc (.drop .hd (.drop .hd (.refl _))) fun w' hm => Reads.of_own (A := (γ 13).1) hm (.tl .hd)
    · repeat' (first
        | ((with_reducible apply wl_v); exact rfl; (first | ((with_reducible apply vop_ok); exact rfl) | ((with_reducible apply v_fieldAddr); exact rfl) | ((with_reducible apply v_len); exact rfl) | ((with_reducible apply v_lens); exact rfl) | ((with_reducible apply v_load_box); exact rfl; (repeat first | exact .hd | apply Sel.tl | apply In.tl); exact rfl) | ((with_reducible apply v_eqlb); exact rfl; exact rfl) | ((with_reducible apply v_neqb); exact rfl; exact rfl) | ((with_reducible apply v_min); exact rfl; exact rfl) | ((with_reducible apply v_loadw_box); exact rfl; (repeat first | exact .hd | apply Sel.tl | apply In.tl); exact rfl) | ((with_reducible apply v_loadn_box); exact rfl; (repeat first | exact .hd | apply Sel.tl | apply In.tl); exact rfl; exact rfl) | ((with_reducible apply v_build); exact rfl; exact rfl; exact rfl)))
        | ((with_reducible apply wl_gyes); exact rfl; exact rfl)
        | ((with_reducible apply wl_gno_b); exact rfl; exact rfl; exact rfl; exact rfl)
        | ((with_reducible apply wl_gno_u); exact rfl; exact rfl; exact rfl)
        | ((with_reducible apply wl_boxs); exact rfl; exact rfl; intro _)
        | ((with_reducible apply wl_box1); exact rfl; exact rfl; exact rfl; intro _)
        | ((with_reducible apply wl_storen_box); exact rfl; exact rfl; (repeat first | exact .hd | apply Sel.tl | apply In.tl); exact rfl; exact rfl; exact rfl)
        | ((with_reducible apply wl_putn_box); exact rfl; exact rfl; (repeat first | exact .hd | apply Sel.tl | apply In.tl); exact rfl; exact rfl; exact rfl; exact rfl)
        | ((with_reducible apply wl_buildSlice); exact rfl; exact rfl; exact rfl; exact rfl; exact rfl; exact rfl; exact rfl; intro _)
        | ((with_reducible apply wl_gsplit) <;> first | exact rfl | (intro hb; (replace hb := Tidy.out hb; try (exfalso; omega))))
        | (with_reducible first | apply wl_nil | apply thn_n | apply w_seq | apply w_region | apply w_ret | apply w_skip | apply w_exit | apply w_block | apply thn_r | apply thn_e | apply blk_n | apply blk_r | apply blk_e | apply cut_r | apply cut_e)
        | ((with_reducible apply w_cond_true); exact rfl)
        | ((with_reducible apply w_cond_false); exact rfl)
        | ((with_reducible apply w_cond) <;> first | exact rfl | (intro hb; (replace hb := Tidy.out hb; try (exfalso; omega))))
        | ((with_reducible apply blk_x); exact rfl)
        | ((with_reducible apply cut_n (i := ())) <;> first | exact trivial | ((repeat (first | exact Sub.nil _ | refine Sub.cons rfl ?_)); done) | ((repeat (first | exact MSub.nil _ | refine MSub.pick (by (repeat first | exact .hd | apply Sel.tl | apply In.tl)) ?_ | exact MSub.refl _ | refine MSub.drop .hd ?_)); done)))
      all_goals exact cut_n (i, (Aa, ca), va, (Ab, cb), vb, F, g) ⟨by dsimp only; omega, hha, hhb⟩ (by (repeat (first | exact Sub.nil _ | refine Sub.cons rfl ?_))) (by (repeat (first | exact MSub.nil _ | refine MSub.pick (by (repeat first | exact .hd | apply Sel.tl | apply In.tl)) ?_ | exact MSub.refl _ | refine MSub.drop .hd ?_)))
  · rintro ⟨i, ⟨Aa, ca⟩, va, ⟨Ab, cb⟩, vb, F, g⟩ ⟨hi, hha, hhb⟩
    dsimp only at hi hha hhb ⊢
    have hIl : ((Ls.take i).map fewT).length = i := by simp; omega
    have hla : va.length = i := by unfold Held at hha; rw [hha.1]; exact hIl
    have hlb : vb.length = i := by unfold Held at hhb; rw [hhb.1]; exact hIl
    have hwI : ∀ L ∈ (Ls.take i).map fewT, ∀ n ∈ L, wfN n := fun L hL => by
      obtain ⟨L0, h0, rfl⟩ := List.mem_map.1 hL
      exact wf_few (hwf L0 (List.mem_of_mem_take h0))
    generalize (Ls.take i).map fewT = Is at hha hhb hIl hwI
    have hj1 := fun v w' h => Join_at (fewN root) Is v w' h
    have hj2 := fun v w' h => refJoin_at (fewN root) Is hwr hwI v w' h
    generalize joinE (fewN root) Is = J at hj1 hj2
    repeat' (first
      | ((with_reducible apply wl_call (f := 30)); exact rfl; exact rfl; (intro w' h; exact hj1 _ w' (hha.readsLL h (by (repeat (first | exact MSub.nil _ | refine MSub.pick (by (repeat first | exact .hd | apply Sel.tl | apply In.tl)) ?_ | exact MSub.refl _ | refine MSub.drop .hd ?_))) (by rw [hIl]; exact Reads.of_own (A := Aa) h (by (repeat first | exact .hd | apply Sel.tl | apply In.tl))))); (rintro v H' ⟨A7, cap7, rfl, rfl⟩))
      | ((with_reducible apply wl_call (f := 31)); exact rfl; exact rfl; (intro w' h; exact hj2 _ w' (hhb.readsLL h (by (repeat (first | exact MSub.nil _ | refine MSub.pick (by (repeat first | exact .hd | apply Sel.tl | apply In.tl)) ?_ | exact MSub.refl _ | refine MSub.drop .hd ?_))) (by rw [hIl]; exact Reads.of_own (A := Ab) h (by (repeat first | exact .hd | apply Sel.tl | apply In.tl))))); (rintro v H' ⟨A8, cap8, rfl, rfl⟩))
      | ((with_reducible apply wl_callp (f := 27)); exact rfl; exact rfl; (intro w' h; exact EqualTree_same J.1 _ _ w' (Reads.of_own (A := A7) h (by (repeat first | exact .hd | apply Sel.tl | apply In.tl))) (Reads.of_own (A := A8) h (by (repeat first | exact .hd | apply Sel.tl | apply In.tl)))))
      | ((with_reducible apply wl_v); exact rfl; (with_reducible apply v_neq_same); exact rfl; exact rfl)
      | ((with_reducible apply wl_v); exact rfl; (first | ((with_reducible apply vop_ok); exact rfl) | ((with_reducible apply v_fieldAddr); exact rfl) | ((with_reducible apply v_len); exact rfl) | ((with_reducible apply v_lens); exact rfl) | ((with_reducible apply v_load_box); exact rfl; (repeat first | exact .hd | apply Sel.tl | apply In.tl); exact rfl) | ((with_reducible apply v_eqlb); exact rfl; exact rfl) | ((with_reducible apply v_neqb); exact rfl; exact rfl) | ((with_reducible apply v_min); exact rfl; exact rfl) | ((with_reducible apply v_loadw_box); exact rfl; (repeat first | exact .hd | apply Sel.tl | apply In.tl); exact rfl) | ((with_reducible apply v_loadn_box); exact rfl; (repeat first | exact .hd | apply Sel.tl | apply In.tl); exact rfl; exact rfl) | ((with_reducible apply v_build); exact rfl; exact rfl; exact rfl)))
      | ((with_reducible apply wl_gyes); exact rfl; exact rfl)
      | ((with_reducible apply wl_gno_b); exact rfl; exact rfl; exact rfl; exact rfl)
      | ((with_reducible apply wl_gno_u); exact rfl; exact rfl; exact rfl)
      | ((with_reducible apply wl_boxs); exact rfl; exact rfl; intro _)
      | ((with_reducible apply wl_box1); exact rfl; exact rfl; exact rfl; intro _)
      | ((with_reducible apply wl_storen_box); exact rfl; exact rfl; (repeat first | exact .hd | apply Sel.tl | apply In.tl); exact rfl; exact rfl; exact rfl)
      | ((with_reducible apply wl_putn_box); exact rfl; exact rfl; (repeat first | exact .hd | apply Sel.tl | apply In.tl); exact rfl; exact rfl; exact rfl; exact rfl)
      | ((with_reducible apply wl_buildSlice); exact rfl; exact rfl; exact rfl; exact rfl; exact rfl; exact rfl; exact rfl; intro _)
      | ((with_reducible apply wl_gsplit) <;> first | exact rfl | (intro hb; (replace hb := Tidy.out hb; try (exfalso; omega))))
      | (with_reducible first | apply wl_nil | apply thn_n | apply w_seq | apply w_region | apply w_ret | apply w_skip | apply w_exit | apply w_block | apply thn_r | apply thn_e | apply blk_n | apply blk_r | apply blk_e | apply cut_r | apply cut_e)
      | ((with_reducible apply w_cond_true); exact rfl)
      | ((with_reducible apply w_cond_false); exact rfl)
      | ((with_reducible apply w_cond) <;> first | exact rfl | (intro hb; (replace hb := Tidy.out hb; try (exfalso; omega))))
      | ((with_reducible apply blk_x); exact rfl)
      | ((with_reducible apply cut_n (i := ())) <;> first | exact trivial | ((repeat (first | exact Sub.nil _ | refine Sub.cons rfl ?_)); done) | ((repeat (first | exact MSub.nil _ | refine MSub.pick (by (repeat first | exact .hd | apply Sel.tl | apply In.tl)) ?_ | exact MSub.refl _ | refine MSub.drop .hd ?_)); done))
      | ((with_reducible apply wl_v); exact rfl; (with_reducible apply v_succN); exact rfl; exact rfl; (simp only [maxLen] at *; omega))
      | ((with_reducible apply wl_v); exact rfl; (with_reducible apply v_1addN); exact rfl; exact rfl; (simp only [maxLen] at *; omega))
      | ((with_reducible apply wl_v); exact rfl; (with_reducible apply v_addN); exact rfl; exact rfl; (simp only [maxLen] at *; omega)))
    refine w_loopK [5, 6, 8] rfl (fun x : Nat × List Value => [(12, .int .i64 (x.1 : Int))]) (fun x => .own A7 40 11 J.1.length cap7 x.2 :: .own Aa 22 1 i ca va :: .own Ab 22 1 i cb vb :: F)
      (fun x => x.1 ≤ J.1.length ∧ x.2.length = J.1.length * 11) (fun x => J.1.length - x.1) (0, J.1.flatMap encN) ⟨by omega, flat_length' encN_len _⟩ (by (repeat (first | exact Sub.nil _ | refine Sub.cons rfl ?_))) (by (repeat (first | exact MSub.nil _ | refine MSub.pick (by (repeat first | exact .hd | apply Sel.tl | apply In.tl)) ?_ | exact MSub.refl _ | refine MSub.drop .hd ?_))) ?_
    rintro ⟨y, ys⟩ ⟨hy, hys⟩
    dsimp only at hy hys ⊢
    refine w_row (A := A7) .hd fun p1 p2 p3 => ?_
    by_cases hyk : y < J.1.length
    · refine w_some (A := A7) .hd (by omega) fun g5 hA => ?_
      subst hA
      repeat' (first
        | ((with_reducible apply wl_v); exact rfl; (with_reducible apply v_indexAddr); exact rfl; exact rfl; omega)
        | ((with_reducible apply wl_put_own (vs := encN ⟨0, zeroV, zeroR, 0, 0, 0⟩)); exact rfl; exact rfl; (repeat first | exact .hd | apply Sel.tl | apply In.tl); exact rfl; exact rfl; decide; omega)
        | ((with_reducible apply wl_v); exact rfl; (first | ((with_reducible apply vop_ok); exact rfl) | ((with_reducible apply v_fieldAddr); exact rfl) | ((with_reducible apply v_len); exact rfl) | ((with_reducible apply v_lens); exact rfl) | ((with_reducible apply v_load_box); exact rfl; (repeat first | exact .hd | apply Sel.tl | apply In.tl); exact rfl) | ((with_reducible apply v_eqlb); exact rfl; exact rfl) | ((with_reducible apply v_neqb); exact rfl; exact rfl) | ((with_reducible apply v_min); exact rfl; exact rfl) | ((with_reducible apply v_loadw_box); exact rfl; (repeat first | exact .hd | apply Sel.tl | apply In.tl); exact rfl) | ((with_reducible apply v_loadn_box); exact rfl; (repeat first | exact .hd | apply Sel.tl | apply In.tl); exact rfl; exact rfl) | ((with_reducible apply v_build); exact rfl; exact rfl; exact rfl)))
        | ((with_reducible apply wl_gyes); exact rfl; exact rfl)
        | ((with_reducible apply wl_gno_b); exact rfl; exact rfl; exact rfl; exact rfl)
        | ((with_reducible apply wl_gno_u); exact rfl; exact rfl; exact rfl)
        | ((with_reducible apply wl_boxs); exact rfl; exact rfl; intro _)
        | ((with_reducible apply wl_box1); exact rfl; exact rfl; exact rfl; intro _)
        | ((with_reducible apply wl_storen_box); exact rfl; exact rfl; (repeat first | exact .hd | apply Sel.tl | apply In.tl); exact rfl; exact rfl; exact rfl)
        | ((with_reducible apply wl_putn_box); exact rfl; exact rfl; (repeat first | exact .hd | apply Sel.tl | apply In.tl); exact rfl; exact rfl; exact rfl; exact rfl)
        | ((with_reducible apply wl_buildSlice); exact rfl; exact rfl; exact rfl; exact rfl; exact rfl; exact rfl; exact rfl; intro _)
        | ((with_reducible apply wl_gsplit) <;> first | exact rfl | (intro hb; (replace hb := Tidy.out hb; try (exfalso; omega))))
        | (with_reducible first | apply wl_nil | apply thn_n | apply w_seq | apply w_region | apply w_ret | apply w_skip | apply w_exit | apply w_block | apply thn_r | apply thn_e | apply blk_n | apply blk_r | apply blk_e | apply cut_r | apply cut_e)
        | ((with_reducible apply w_cond_true); exact rfl)
        | ((with_reducible apply w_cond_false); exact rfl)
        | ((with_reducible apply w_cond) <;> first | exact rfl | (intro hb; (replace hb := Tidy.out hb; try (exfalso; omega))))
        | ((with_reducible apply blk_x); exact rfl)
        | ((with_reducible apply cut_n (i := ())) <;> first | exact trivial | ((repeat (first | exact Sub.nil _ | refine Sub.cons rfl ?_)); done) | ((repeat (first | exact MSub.nil _ | refine MSub.pick (by (repeat first | exact .hd | apply Sel.tl | apply In.tl)) ?_ | exact MSub.refl _ | refine MSub.drop .hd ?_)); done))
        | ((with_reducible apply wl_v); exact rfl; (with_reducible apply v_succN); exact rfl; exact rfl; (simp only [maxLen] at *; omega))
        | ((with_reducible apply wl_v); exact rfl; (with_reducible apply v_1addN); exact rfl; exact rfl; (simp only [maxLen] at *; omega))
        | ((with_reducible apply wl_v); exact rfl; (with_reducible apply v_addN); exact rfl; exact rfl; (simp only [maxLen] at *; omega)))
      refine ⟨(y + 1, ys.take (0 + y * 11) ++ encN ⟨0, zeroV, zeroR, 0, 0, 0⟩ ++ ys.drop (0 + y * 11 + 11)), ?_, (by first | omega | (dsimp only; omega)), (by (repeat (first | exact Sub.nil _ | refine Sub.cons rfl ?_))), (by (repeat (first | exact Sub.nil _ | refine Sub.cons rfl ?_))), (by (repeat (first | exact MSub.nil _ | refine MSub.pick (by (repeat first | exact .hd | apply Sel.tl | apply In.tl)) ?_ | exact MSub.refl _ | refine MSub.drop .hd ?_)))⟩
      refine ⟨hyk, ?_⟩
      simp only [List.length_append, List.length_take, List.length_drop, encN_len]
      omega
    · repeat' (first
        | ((with_reducible apply wl_v); exact rfl; (first | ((with_reducible apply vop_ok); exact rfl) | ((with_reducible apply v_fieldAddr); exact rfl) | ((with_reducible apply v_len); exact rfl) | ((with_reducible apply v_lens); exact rfl) | ((with_reducible apply v_load_box); exact rfl; (repeat first | exact .hd | apply Sel.tl | apply In.tl); exact rfl) | ((with_reducible apply v_eqlb); exact rfl; exact rfl) | ((with_reducible apply v_neqb); exact rfl; exact rfl) | ((with_reducible apply v_min); exact rfl; exact rfl) | ((with_reducible apply v_loadw_box); exact rfl; (repeat first | exact .hd | apply Sel.tl | apply In.tl); exact rfl) | ((with_reducible apply v_loadn_box); exact rfl; (repeat first | exact .hd | apply Sel.tl | apply In.tl); exact rfl; exact rfl) | ((with_reducible apply v_build); exact rfl; exact rfl; exact rfl)))
        | ((with_reducible apply wl_gyes); exact rfl; exact rfl)
        | ((with_reducible apply wl_gno_b); exact rfl; exact rfl; exact rfl; exact rfl)
        | ((with_reducible apply wl_gno_u); exact rfl; exact rfl; exact rfl)
        | ((with_reducible apply wl_boxs); exact rfl; exact rfl; intro _)
        | ((with_reducible apply wl_box1); exact rfl; exact rfl; exact rfl; intro _)
        | ((with_reducible apply wl_storen_box); exact rfl; exact rfl; (repeat first | exact .hd | apply Sel.tl | apply In.tl); exact rfl; exact rfl; exact rfl)
        | ((with_reducible apply wl_putn_box); exact rfl; exact rfl; (repeat first | exact .hd | apply Sel.tl | apply In.tl); exact rfl; exact rfl; exact rfl; exact rfl)
        | ((with_reducible apply wl_buildSlice); exact rfl; exact rfl; exact rfl; exact rfl; exact rfl; exact rfl; exact rfl; intro _)
        | ((with_reducible apply wl_gsplit) <;> first | exact rfl | (intro hb; (replace hb := Tidy.out hb; try (exfalso; omega))))
        | (with_reducible first | apply wl_nil | apply thn_n | apply w_seq | apply w_region | apply w_ret | apply w_skip | apply w_exit | apply w_block | apply thn_r | apply thn_e | apply blk_n | apply blk_r | apply blk_e | apply cut_r | apply cut_e)
        | ((with_reducible apply w_cond_true); exact rfl)
        | ((with_reducible apply w_cond_false); exact rfl)
        | ((with_reducible apply w_cond) <;> first | exact rfl | (intro hb; (replace hb := Tidy.out hb; try (exfalso; omega))))
        | ((with_reducible apply blk_x); exact rfl)
        | ((with_reducible apply cut_n (i := ())) <;> first | exact trivial | ((repeat (first | exact Sub.nil _ | refine Sub.cons rfl ?_)); done) | ((repeat (first | exact MSub.nil _ | refine MSub.pick (by (repeat first | exact .hd | apply Sel.tl | apply In.tl)) ?_ | exact MSub.refl _ | refine MSub.drop .hd ?_)); done))
        | ((with_reducible apply wl_v); exact rfl; (with_reducible apply v_succN); exact rfl; exact rfl; (simp only [maxLen] at *; omega))
        | ((with_reducible apply wl_v); exact rfl; (with_reducible apply v_1addN); exact rfl; exact rfl; (simp only [maxLen] at *; omega))
        | ((with_reducible apply wl_v); exact rfl; (with_reducible apply v_addN); exact rfl; exact rfl; (simp only [maxLen] at *; omega)))
      refine w_loopK [5, 6] rfl (fun j : Nat => [(13, .int .i64 (j : Int))]) (fun _ => .own Aa 22 1 i ca va :: .own Ab 22 1 i cb vb :: F) (fun j => j ≤ i) (fun j => i - j) 0 (Nat.zero_le _) (by (repeat (first | exact Sub.nil _ | refine Sub.cons rfl ?_))) (by (repeat (first | exact MSub.nil _ | refine MSub.pick (by (repeat first | exact .hd | apply Sel.tl | apply In.tl)) ?_ | exact MSub.refl _ | refine MSub.drop .hd ?_))) ?_
      rintro j hj
      by_cases hji : j < i
      · refine w_some (A := Aa) .hd (by omega) fun ga hAa => ?_
        refine w_some (A := Ab) (.tl .hd) (by omega) fun gb hAb => ?_
        subst hAa hAb
        have hIj := List.getElem?_eq_getElem (show j < Is.length by omega)
        generalize Is[j] = T at hIj
        have hva := List.getElem?_eq_getElem (show j < va.length by omega)
        generalize va[j] = xa at hva
        have hvb := List.getElem?_eq_getElem (show j < vb.length by omega)
        generalize vb[j] = xb at hvb
        have hRa := fun (w' : World) (hm : Mem w w' F) => hha.one hva hIj hm
        have hRb := fun (w' : World) (hm : Mem w w' F) => hhb.one hvb hIj hm
        have hxa : va[0 + j * 1]? = some xa := by rw [Nat.zero_add, Nat.mul_one]; exact hva
        have hxb : vb[0 + j * 1]? = some xb := by rw [Nat.zero_add, Nat.mul_one]; exact hvb
        repeat' (first
          | ((with_reducible apply wq_v); exact rfl; (with_reducible apply v_indexAddr); exact rfl; exact rfl; omega)
          | ((with_reducible apply wq_v); exact rfl; (with_reducible apply v_load_own); exact rfl; (repeat first | exact .hd | apply Sel.tl | apply In.tl); first | exact hxa | exact hxb)
          | ((with_reducible apply wq_callp (f := 27)); exact rfl; exact rfl; (intro w' h; exact EqualTree_same T _ _ w' (hRa w' (MSub.use (by (repeat (first | exact MSub.nil _ | refine MSub.pick (by (repeat first | exact .hd | apply Sel.tl | apply In.tl)) ?_ | exact MSub.refl _ | refine MSub.drop .hd ?_))) h)) (hRb w' (MSub.use (by (repeat (first | exact MSub.nil _ | refine MSub.pick (by (repeat first | exact .hd | apply Sel.tl | apply In.tl)) ?_ | exact MSub.refl _ | refine MSub.drop .hd ?_))) h))))
          | ((with_reducible first | apply wl_v | apply wq_v); exact rfl; (first | ((with_reducible apply vop_ok); exact rfl) | ((with_reducible apply v_fieldAddr); exact rfl) | ((with_reducible apply v_len); exact rfl) | ((with_reducible apply v_lens); exact rfl) | ((with_reducible apply v_load_box); exact rfl; (repeat first | exact .hd | apply Sel.tl | apply In.tl); exact rfl) | ((with_reducible apply v_eqlb); exact rfl; exact rfl) | ((with_reducible apply v_neqb); exact rfl; exact rfl) | ((with_reducible apply v_min); exact rfl; exact rfl) | ((with_reducible apply v_loadw_box); exact rfl; (repeat first | exact .hd | apply Sel.tl | apply In.tl); exact rfl) | ((with_reducible apply v_loadn_box); exact rfl; (repeat first | exact .hd | apply Sel.tl | apply In.tl); exact rfl; exact rfl) | ((with_reducible apply v_build); exact rfl; exact rfl; exact rfl)))
          | ((with_reducible first | apply wl_gyes | apply wq_gyes); exact rfl; exact rfl)
          | ((with_reducible first | apply wl_gno_b | apply wq_gno_b); exact rfl; exact rfl; exact rfl; exact rfl)
          | ((with_reducible first | apply wl_gno_u | apply wq_gno_u); exact rfl; exact rfl; exact rfl)
          | ((with_reducible apply wl_boxs); exact rfl; exact rfl; intro _)
          | ((with_reducible apply wl_box1); exact rfl; exact rfl; exact rfl; intro _)
          | ((with_reducible apply wl_storen_box); exact rfl; exact rfl; (repeat first | exact .hd | apply Sel.tl | apply In.tl); exact rfl; exact rfl; exact rfl)
          | ((with_reducible apply wl_putn_box); exact rfl; exact rfl; (repeat first | exact .hd | apply Sel.tl | apply In.tl); exact rfl; exact rfl; exact rfl; exact rfl)
          | ((with_reducible apply wl_buildSlice); exact rfl; exact rfl; exact rfl; exact rfl; exact rfl; exact rfl; exact rfl; intro _)
          | ((with_reducible first | apply wl_gsplit | apply wq_gsplit) <;> first | exact rfl | (intro hb; (replace hb := Tidy.out hb; try (exfalso; omega))))
          | (with_reducible first | apply wl_nil | apply thn_n | apply w_seq | apply w_region | apply w_ret | apply w_skip | apply w_exit | apply w_block | apply thn_r | apply thn_e | apply blk_n | apply blk_r | apply blk_e | apply wq_nil | apply cut_r | apply cut_e)
          | ((with_reducible apply w_cond_true); exact rfl)
          | ((with_reducible apply w_cond_false); exact rfl)
          | ((with_reducible apply w_cond) <;> first | exact rfl | (intro hb; (replace hb := Tidy.out hb; try (exfalso; omega))))
          | ((with_reducible apply blk_x); exact rfl)
          | ((with_reducible apply cut_n (i := ())) <;> first | exact trivial | ((repeat (first | exact Sub.nil _ | refine Sub.cons rfl ?_)); done) | ((repeat (first | exact MSub.nil _ | refine MSub.pick (by (repeat first | exact .hd | apply Sel.tl | apply In.tl)) ?_ | exact MSub.refl _ | refine MSub.drop .hd ?_)); done))
          | ((with_reducible first | apply wl_v | apply wq_v); exact rfl; (with_reducible apply v_succN); exact rfl; exact rfl; (simp only [maxLen] at *; omega))
          | ((with_reducible first | apply wl_v | apply wq_v); exact rfl; (with_reducible apply v_1addN); exact rfl; exact rfl; (simp only [maxLen] at *; omega))
          | ((with_reducible first | apply wl_v | apply wq_v); exact rfl; (with_reducible apply v_addN); exact rfl; exact rfl; (simp only [maxLen] at *; omega))
          | ((with_reducible apply w_draw); kernel_rfl; kernel_rfl))
        refine ⟨j + 1, ?_, (by first | omega | (dsimp only; omega)), (by (repeat (first | exact Sub.nil _ | refine Sub.cons rfl ?_))), (by (repeat (first | exact Sub.nil _ | refine Sub.cons rfl ?_))), (by (repeat (first | exact MSub.nil _ | refine MSub.pick (by (repeat first | exact .hd | apply Sel.tl | apply In.tl)) ?_ | exact MSub.refl _ | refine MSub.drop .hd ?_)))⟩
        exact hji
      · repeat' (first
          | ((with_reducible apply wl_callp); exact rfl; exact rfl; (intro w' h; exact awake_at w'))
          | ((with_reducible apply wl_v); exact rfl; (first | ((with_reducible apply vop_ok); exact rfl) | ((with_reducible apply v_fieldAddr); exact rfl) | ((with_reducible apply v_len); exact rfl) | ((with_reducible apply v_lens); exact rfl) | ((with_reducible apply v_load_box); exact rfl; (repeat first | exact .hd | apply Sel.tl | apply In.tl); exact rfl) | ((with_reducible apply v_eqlb); exact rfl; exact rfl) | ((with_reducible apply v_neqb); exact rfl; exact rfl) | ((with_reducible apply v_min); exact rfl; exact rfl) | ((with_reducible apply v_loadw_box); exact rfl; (repeat first | exact .hd | apply Sel.tl | apply In.tl); exact rfl) | ((with_reducible apply v_loadn_box); exact rfl; (repeat first | exact .hd | apply Sel.tl | apply In.tl); exact rfl; exact rfl) | ((with_reducible apply v_build); exact rfl; exact rfl; exact rfl)))
          | ((with_reducible apply wl_gyes); exact rfl; exact rfl)
          | ((with_reducible apply wl_gno_b); exact rfl; exact rfl; exact rfl; exact rfl)
          | ((with_reducible apply wl_gno_u); exact rfl; exact rfl; exact rfl)
          | ((with_reducible apply wl_boxs); exact rfl; exact rfl; intro _)
          | ((with_reducible apply wl_box1); exact rfl; exact rfl; exact rfl; intro _)
          | ((with_reducible apply wl_storen_box); exact rfl; exact rfl; (repeat first | exact .hd | apply Sel.tl | apply In.tl); exact rfl; exact rfl; exact rfl)
          | ((with_reducible apply wl_putn_box); exact rfl; exact rfl; (repeat first | exact .hd | apply Sel.tl | apply In.tl); exact rfl; exact rfl; exact rfl; exact rfl)
          | ((with_reducible apply wl_buildSlice); exact rfl; exact rfl; exact rfl; exact rfl; exact rfl; exact rfl; exact rfl; intro _)
          | ((with_reducible apply wl_gsplit) <;> first | exact rfl | (intro hb; (replace hb := Tidy.out hb; try (exfalso; omega))))
          | (with_reducible first | apply wl_nil | apply thn_n | apply w_seq | apply w_region | apply w_ret | apply w_skip | apply w_exit | apply w_block | apply thn_r | apply thn_e | apply blk_n | apply blk_r | apply blk_e | apply cut_r | apply cut_e)
          | ((with_reducible apply w_cond_true); exact rfl)
          | ((with_reducible apply w_cond_false); exact rfl)
          | ((with_reducible apply w_cond) <;> first | exact rfl | (intro hb; (replace hb := Tidy.out hb; try (exfalso; omega))))
          | ((with_reducible apply blk_x); exact rfl)
          | ((with_reducible apply cut_n (i := ())) <;> first | exact trivial | ((repeat (first | exact Sub.nil _ | refine Sub.cons rfl ?_)); done) | ((repeat (first | exact MSub.nil _ | refine MSub.pick (by (repeat first | exact .hd | apply Sel.tl | apply In.tl)) ?_ | exact MSub.refl _ | refine MSub.drop .hd ?_)); done)))
        ((with_reducible apply ret1); exact .inl rfl; exact rfl; exact rfl; exact MSub.nil _)
        rfl
end Go.SL

/-
  What the document's Join returns.
-/
import Derived.Test.YtfkklicpnoeclaaW22
import Derived.Test.YtfkklicpnoeclaaW14
namespace Go.SL
open Go Go.Proofs
attribute [local irreducible] W WL WQ WG WA VOp thn blk cutP retP FnAt FnIn

/-- A tree of one node that is a range alone. -/
def aloneT (t : List Nd) : Bool :=
  match t with
  | [n] => decide (n.kind = 3) && refFields n
  | _ => false

theorem checkT_alone (t : List Nd) : (checkT t (decide ((t.length : Int) = 1))).1 = (if aloneT t then 0 else checkE t) := by
  unfold checkE
  by_cases hl : t.length = 1
  · obtain ⟨n, rfl⟩ : ∃ n, t = [n] := by
      match t, hl with
      | [n], _ => exact ⟨n, rfl⟩
    have e1 : decide ((([n] : List Nd).length : Int) = 1) = true := by simp
    have hk : kindAt [n] (([n] : List Nd).length - 1) = n.kind := rfl
    rw [e1]
    by_cases h3 : n.kind = 3
    · have hw : (walkT [n] [n] 0 [] []).1 = fieldsE n := by
        have hb : below n = 0 := by simp [below, h3]
        unfold walkT stepT
        by_cases hf : fieldsE n = 0
        · rw [if_neg (by simp [hf]), hb]
          simp [topOf, fitsFrom, depthOf, walkT, hf]
        · rw [if_pos hf]
      have hfe : fieldsE n = if refFields n then 0 else 2 := by
        unfold fieldsE refFields
        cases ha : kindOk n <;> cases hb : eqN n (want n) <;> simp [h3]
      have ha : aloneT [n] = refFields n := by simp [aloneT, h3]
      rw [ha]
      simp only [checkT, hk, h3]
      cases hr : refFields n
      · rw [hr] at hfe
        simp [hw, hfe]
      · rw [hr] at hfe
        simp [hw, hfe]
    · have ha : aloneT [n] = false := by simp [aloneT, h3]
      rw [ha]
      have hk0 : kindAt [n] 0 = n.kind := rfl
      simp [checkT, hk0, h3]
  · have ha : aloneT t = false := by
      match t, hl with
      | [], _ => rfl
      | [n], h => exact absurd rfl h
      | a :: b :: r, _ => rfl
    rw [ha, decide_eq_false (by omega)]
    rfl

set_option maxRecDepth 20000 in
set_option maxHeartbeats 1000000 in
theorem refJoin_at (root : Nd) (Ls : List (List Nd)) (hwr : wfN root) (hwf : ∀ L ∈ Ls, ∀ n ∈ L, wfN n) (lv : Value) (w : World) (hl : ReadsLL w lv Ls) :
    FnAt Try.prog 31 [.agg (encN root).toArray, lv] w fun v H => ∃ A cap, v = .tuple #[sl A (joinE root Ls).1.length cap, .int .i64 (joinE root Ls).2] ∧ H = [.own A 40 11 (joinE root Ls).1.length cap ((joinE root Ls).1.flatMap encN)] := by
  obtain ⟨vals, hvl, ⟨Al, cl, rfl, hl1, hl2, hl3⟩, hel⟩ := hl
  refine fn_at Try.func31 rfl Try.ntmps31 rfl ?_
  generalize hJ : joinE root Ls = J
  unfold joinE at hJ
  repeat' (first
    | ((with_reducible apply wl_v); exact rfl; (first | ((with_reducible apply vop_ok); exact rfl) | ((with_reducible apply v_fieldAddr); exact rfl) | ((with_reducible apply v_len); exact rfl) | ((with_reducible apply v_lens); exact rfl) | ((with_reducible apply v_load_box); exact rfl; (repeat first | exact .hd | apply Sel.tl | apply In.tl); exact rfl) | ((with_reducible apply v_eqlb); exact rfl; exact rfl) | ((with_reducible apply v_neqb); exact rfl; exact rfl) | ((with_reducible apply v_loadw_box); exact rfl; (repeat first | exact .hd | apply Sel.tl | apply In.tl); exact rfl) | ((with_reducible apply v_loadn_box); exact rfl; (repeat first | exact .hd | apply Sel.tl | apply In.tl); exact rfl; exact rfl)))
    | ((with_reducible apply wl_gyes); exact rfl; exact rfl)
    | ((with_reducible apply wl_gno_b); exact rfl; exact rfl; exact rfl; exact rfl)
    | ((with_reducible apply wl_gno_u); exact rfl; exact rfl; exact rfl)
    | ((with_reducible apply wl_boxs); exact rfl; exact rfl; intro _)
    | ((with_reducible apply wl_box1); exact rfl; exact rfl; exact rfl; intro _)
    | ((with_reducible apply wl_buildSlice); exact rfl; exact rfl; exact rfl; exact rfl; exact rfl; exact rfl; exact rfl; intro _)
    | ((with_reducible apply wl_gsplit) <;> first | exact rfl | (intro hb; (replace hb := Tidy.out hb; try (exfalso; omega))))
    | (with_reducible first | apply wl_nil | apply thn_n | apply w_seq | apply w_region | apply w_ret | apply w_skip | apply w_exit | apply w_block | apply thn_r | apply thn_e | apply blk_n | apply blk_r | apply blk_e)
    | ((with_reducible apply w_cond_true); exact rfl)
    | ((with_reducible apply w_cond_false); exact rfl)
    | ((with_reducible apply w_cond) <;> first | exact rfl | (intro hb; (replace hb := Tidy.out hb; try (exfalso; omega))))
    | ((with_reducible apply blk_x); exact rfl))
  rename_i g
  refine w_nilrow 40 11 ?_
  refine w_nilrow 40 11 ?_
  refine w_loopK [1, 2] rfl (fun x : Nat × List Nd × Option Nat × Nat => [(6, sl x.2.2.1 x.2.1.length x.2.2.2), (7, .int .i64 (x.1 : Int))]) (fun x => [.own x.2.2.1 40 11 x.2.1.length x.2.2.2 (x.2.1.flatMap encN), .own none 40 11 0 0 [], .box g 40 (encN root)])
    (fun x => x.1 ≤ Ls.length ∧ x.2.1.length ≤ 512 ∧ (∀ n ∈ x.2.1, wfN n) ∧ joinLoop Ls [] = joinLoop (Ls.drop x.1) x.2.1) (fun x => Ls.length - x.1) (0, [], none, 0) ⟨by omega, by simp, (fun _ h => by cases h), rfl⟩ (by (repeat (first | exact Sub.nil _ | refine Sub.cons rfl ?_))) (by (repeat (first | exact MSub.nil _ | refine MSub.pick (by (repeat first | exact .hd | apply Sel.tl | apply In.tl)) ?_ | exact MSub.refl _ | refine MSub.drop .hd ?_))) ?_
  rintro ⟨i, out, A, cap⟩ ⟨hi, ho, hwo, hrec⟩
  dsimp only at hi ho hwo hrec ⊢
  have hfl : (out.flatMap encN).length = out.length * 11 := flat_length' encN_len out
  by_cases hlt : i < Ls.length
  · obtain ⟨gl, ol, rfl, hrl⟩ := hl3 (by omega)
    have hx := List.getElem?_eq_getElem (show i < vals.length by omega)
    have hL := List.getElem?_eq_getElem hlt
    have hr1 := hrl.cellV i hx
    have hR := hel i _ _ hx hL
    have hR' := hR
    have hwL := hwf _ (List.getElem_mem hlt)
    rw [List.drop_eq_getElem_cons hlt, joinLoop, checkT_alone] at hrec
    generalize Ls[i] = L at hR hR' hrec hwL
    obtain ⟨Ax, cx, hv, hx1, hx2, hx3⟩ := hR
    rw [hv] at hr1 hR'
    have hck := fun (w' : World) (H : List Blk) (hm : Mem w w' H) => refCheck_at L hwL _ w' (hR'.of_w0 hm)
    have hsm : (if aloneT L then 0 else checkE L) = 0 → L.length ≤ 256 := fun h => checkT_small (t := L) (b := decide ((L.length : Int) = 1)) (by rw [checkT_alone]; exact h)
    have hfl2 : (L.flatMap encN).length = L.length * 11 := flat_length' encN_len L
    generalize hce : checkE L = ce at hck hrec hsm
    have hx4 : out.length + L.length ≤ 4000000 ∨ (if aloneT L then (0 : Int) else ce) ≠ 0 := by
      by_cases h : (if aloneT L then (0 : Int) else ce) = 0
      · have := hsm h; left; omega
      · exact .inr h
    by_cases h1 : L.length = 1
    · obtain ⟨n, hLn⟩ : ∃ n, L = [n] := by
        match L, h1 with
        | [n], _ => exact ⟨n, rfl⟩
      obtain ⟨gx, ox, rfl, hrx⟩ := hx3 (by omega)
      have hrn : Ro w gx (ox + 0 * 11) (encN n) := by subst hLn; exact hrx.elem encN_len 0 (by simp)
      have hal : aloneT L = (decide (n.kind = 3) && refFields n) := by subst hLn; rfl
      have hfc := fun w => refFields_at n (hwL n (by simp [hLn])).1 w
      generalize refFields n = rf at hal hfc
      clear hLn
      repeat' (first
        | ((with_reducible apply wl_v); exact rfl; (with_reducible apply v_indexAddr); exact rfl; exact rfl; exact hlt)
        | ((with_reducible apply wl_v); exact rfl; (with_reducible apply v_indexAddr (j := 0)); exact rfl; exact rfl; omega)
        | ((with_reducible apply wl_callp); exact rfl; exact rfl; (intro w hm; exact hfc w))
        | ((with_reducible apply wl_callp); exact rfl; exact rfl; (intro w' hm; exact hck w' _ hm))
        | ((with_reducible apply wl_appendR (A := A) (m := L.length)); exact rfl; exact rfl; exact rfl; (repeat first | exact .hd | apply Sel.tl | apply In.tl); (intro w' hm; exact hR'.of_w0 hm); exact hfl2; exact encNs_one L; omega; (simp only [maxLen] at *; omega); intro A4 c4 h4)
        | ((with_reducible apply wl_v); exact rfl; (first | ((with_reducible apply vop_ok); exact rfl) | ((with_reducible apply v_fieldAddr); exact rfl) | ((with_reducible apply v_len); exact rfl) | ((with_reducible apply v_lens); exact rfl) | ((with_reducible apply v_load_box); exact rfl; (repeat first | exact .hd | apply Sel.tl | apply In.tl); exact rfl) | ((with_reducible apply v_eqlb); exact rfl; exact rfl) | ((with_reducible apply v_neqb); exact rfl; exact rfl) | ((with_reducible apply v_loadw_box); exact rfl; (repeat first | exact .hd | apply Sel.tl | apply In.tl); exact rfl) | ((with_reducible apply v_loadn_box); exact rfl; (repeat first | exact .hd | apply Sel.tl | apply In.tl); exact rfl; exact rfl)))
        | ((with_reducible apply wl_gyes); exact rfl; exact rfl)
        | ((with_reducible apply wl_gno_b); exact rfl; exact rfl; exact rfl; exact rfl)
        | ((with_reducible apply wl_gno_u); exact rfl; exact rfl; exact rfl)
        | ((with_reducible apply wl_boxs); exact rfl; exact rfl; intro _)
        | ((with_reducible apply wl_box1); exact rfl; exact rfl; exact rfl; intro _)
        | ((with_reducible apply wl_buildSlice); exact rfl; exact rfl; exact rfl; exact rfl; exact rfl; exact rfl; exact rfl; intro _)
        | ((with_reducible apply wl_gsplit) <;> first | exact rfl | (intro hb; (replace hb := Tidy.out hb; try (exfalso; omega))))
        | (with_reducible first | apply wl_nil | apply thn_n | apply w_seq | apply w_region | apply w_ret | apply w_skip | apply w_exit | apply w_block | apply thn_r | apply thn_e | apply blk_n | apply blk_r | apply blk_e)
        | ((with_reducible apply w_cond_true); exact rfl)
        | ((with_reducible apply w_cond_false); exact rfl)
        | ((with_reducible apply w_cond) <;> first | exact rfl | (intro hb; (replace hb := Tidy.out hb; try (exfalso; omega))))
        | ((with_reducible apply blk_x); exact rfl)
        | ((with_reducible apply wl_v); exact rfl; (with_reducible apply v_succN); exact rfl; exact rfl; (simp only [maxLen] at *; omega))
        | ((with_reducible apply wl_v); exact rfl; (with_reducible apply v_1addN); exact rfl; exact rfl; (simp only [maxLen] at *; omega))
        | ((with_reducible apply wl_v); exact rfl; (with_reducible apply v_addN); exact rfl; exact rfl; (simp only [maxLen] at *; omega))
        | ((with_reducible apply wl_v); exact rfl; (with_reducible apply v_indexAddr); exact rfl; exact rfl; (first | assumption | omega))
        | ((with_reducible apply wl_v); exact rfl; (with_reducible apply v_loadw_ro); exact rfl; assumption; exact rfl)
        | ((with_reducible apply wl_v); exact rfl; (with_reducible apply v_load1_ro); exact rfl; assumption)
        | ((with_reducible apply wl_v); exact rfl; (with_reducible apply v_loadf_ro); exact rfl; assumption; exact rfl))
      all_goals first
        | (rw [show (if aloneT L then (0 : Int) else ce) = ce by simp_all, if_pos (by assumption)] at hrec
           rw [hrec, if_pos (by exact (by assumption : ce ≠ 0))] at hJ
           subst hJ
           exact ret2 (.inl rfl) Try.results31 rfl rfl (H' := [.own none 40 11 0 0 []]) (by (repeat (first | exact MSub.nil _ | refine MSub.pick (by (repeat first | exact .hd | apply Sel.tl | apply In.tl)) ?_ | exact MSub.refl _ | refine MSub.drop .hd ?_))) ⟨none, 0, rfl, rfl⟩)
        | (have hr0 : (if aloneT L then (0 : Int) else ce) = 0 := by simp_all
           have hs0 := hsm hr0
           rw [hr0, if_neg (by simp), if_pos (by omega)] at hrec
           have e1 : out.length + L.length = (out ++ L).length := List.length_append.symm
           have e2 : out.flatMap encN ++ L.flatMap encN = (out ++ L).flatMap encN := List.flatMap_append.symm
           rw [e1, e2]
           refine ⟨(i + 1, out ++ L, A4, c4), ?_, (by first | omega | (dsimp only; omega)), (by (repeat (first | exact Sub.nil _ | refine Sub.cons rfl ?_))), (by (repeat (first | exact Sub.nil _ | refine Sub.cons rfl ?_))), (by (repeat (first | exact MSub.nil _ | refine MSub.pick (by (repeat first | exact .hd | apply Sel.tl | apply In.tl)) ?_ | exact MSub.refl _ | refine MSub.drop .hd ?_)))⟩
           exact ⟨hlt, by rw [List.length_append]; omega, (fun n hn => by rcases List.mem_append.1 hn with hn | hn; (· exact hwo n hn); (· exact hwL n hn)), hrec⟩)
        | (have hr0 : (if aloneT L then (0 : Int) else ce) = 0 := by simp_all
           rw [hr0, if_neg (by simp), if_neg (by omega)] at hrec
           refine ⟨(i + 1, out, A, cap), ?_, (by first | omega | (dsimp only; omega)), (by (repeat (first | exact Sub.nil _ | refine Sub.cons rfl ?_))), (by (repeat (first | exact Sub.nil _ | refine Sub.cons rfl ?_))), (by (repeat (first | exact MSub.nil _ | refine MSub.pick (by (repeat first | exact .hd | apply Sel.tl | apply In.tl)) ?_ | exact MSub.refl _ | refine MSub.drop .hd ?_)))⟩
           exact ⟨hlt, ho, hwo, hrec⟩)
    · have hal : aloneT L = false := by
        match L, h1 with
        | [], _ => rfl
        | [n], h => exact absurd rfl h
        | a :: b :: r, _ => rfl
      have hs5 : ce = 0 → L.length ≤ 256 := fun h => hsm (by simp [hal, h])
      repeat' (first
        | ((with_reducible apply wl_v); exact rfl; (with_reducible apply v_indexAddr); exact rfl; exact rfl; exact hlt)
        | ((with_reducible apply wl_callp); exact rfl; exact rfl; (intro w' hm; exact hck w' _ hm))
        | ((with_reducible apply wl_appendR (A := A) (m := L.length)); exact rfl; exact rfl; exact rfl; (repeat first | exact .hd | apply Sel.tl | apply In.tl); (intro w' hm; exact hR'.of_w0 hm); exact hfl2; exact encNs_one L; omega; (simp only [maxLen] at *; omega); intro A4 c4 h4)
        | ((with_reducible apply wl_v); exact rfl; (first | ((with_reducible apply vop_ok); exact rfl) | ((with_reducible apply v_fieldAddr); exact rfl) | ((with_reducible apply v_len); exact rfl) | ((with_reducible apply v_lens); exact rfl) | ((with_reducible apply v_load_box); exact rfl; (repeat first | exact .hd | apply Sel.tl | apply In.tl); exact rfl) | ((with_reducible apply v_eqlb); exact rfl; exact rfl) | ((with_reducible apply v_neqb); exact rfl; exact rfl) | ((with_reducible apply v_loadw_box); exact rfl; (repeat first | exact .hd | apply Sel.tl | apply In.tl); exact rfl) | ((with_reducible apply v_loadn_box); exact rfl; (repeat first | exact .hd | apply Sel.tl | apply In.tl); exact rfl; exact rfl)))
        | ((with_reducible apply wl_gyes); exact rfl; exact rfl)
        | ((with_reducible apply wl_gno_b); exact rfl; exact rfl; exact rfl; exact rfl)
        | ((with_reducible apply wl_gno_u); exact rfl; exact rfl; exact rfl)
        | ((with_reducible apply wl_boxs); exact rfl; exact rfl; intro _)
        | ((with_reducible apply wl_box1); exact rfl; exact rfl; exact rfl; intro _)
        | ((with_reducible apply wl_buildSlice); exact rfl; exact rfl; exact rfl; exact rfl; exact rfl; exact rfl; exact rfl; intro _)
        | ((with_reducible apply wl_gsplit) <;> first | exact rfl | (intro hb; (replace hb := Tidy.out hb; try (exfalso; omega))))
        | (with_reducible first | apply wl_nil | apply thn_n | apply w_seq | apply w_region | apply w_ret | apply w_skip | apply w_exit | apply w_block | apply thn_r | apply thn_e | apply blk_n | apply blk_r | apply blk_e)
        | ((with_reducible apply w_cond_true); exact rfl)
        | ((with_reducible apply w_cond_false); exact rfl)
        | ((with_reducible apply w_cond) <;> first | exact rfl | (intro hb; (replace hb := Tidy.out hb; try (exfalso; omega))))
        | ((with_reducible apply blk_x); exact rfl)
        | ((with_reducible apply wl_v); exact rfl; (with_reducible apply v_succN); exact rfl; exact rfl; (simp only [maxLen] at *; omega))
        | ((with_reducible apply wl_v); exact rfl; (with_reducible apply v_1addN); exact rfl; exact rfl; (simp only [maxLen] at *; omega))
        | ((with_reducible apply wl_v); exact rfl; (with_reducible apply v_addN); exact rfl; exact rfl; (simp only [maxLen] at *; omega))
        | ((with_reducible apply wl_v); exact rfl; (with_reducible apply v_indexAddr); exact rfl; exact rfl; (first | assumption | omega))
        | ((with_reducible apply wl_v); exact rfl; (with_reducible apply v_loadw_ro); exact rfl; assumption; exact rfl)
        | ((with_reducible apply wl_v); exact rfl; (with_reducible apply v_load1_ro); exact rfl; assumption)
        | ((with_reducible apply wl_v); exact rfl; (with_reducible apply v_loadf_ro); exact rfl; assumption; exact rfl))
      all_goals first
        | (rw [show (if aloneT L then (0 : Int) else ce) = ce by simp_all, if_pos (by assumption)] at hrec
           rw [hrec, if_pos (by exact (by assumption : ce ≠ 0))] at hJ
           subst hJ
           exact ret2 (.inl rfl) Try.results31 rfl rfl (H' := [.own none 40 11 0 0 []]) (by (repeat (first | exact MSub.nil _ | refine MSub.pick (by (repeat first | exact .hd | apply Sel.tl | apply In.tl)) ?_ | exact MSub.refl _ | refine MSub.drop .hd ?_))) ⟨none, 0, rfl, rfl⟩)
        | (have hr0 : (if aloneT L then (0 : Int) else ce) = 0 := by simp_all
           have hs0 := hsm hr0
           rw [hr0, if_neg (by simp), if_pos (by omega)] at hrec
           have e1 : out.length + L.length = (out ++ L).length := List.length_append.symm
           have e2 : out.flatMap encN ++ L.flatMap encN = (out ++ L).flatMap encN := List.flatMap_append.symm
           rw [e1, e2]
           refine ⟨(i + 1, out ++ L, A4, c4), ?_, (by first | omega | (dsimp only; omega)), (by (repeat (first | exact Sub.nil _ | refine Sub.cons rfl ?_))), (by (repeat (first | exact Sub.nil _ | refine Sub.cons rfl ?_))), (by (repeat (first | exact MSub.nil _ | refine MSub.pick (by (repeat first | exact .hd | apply Sel.tl | apply In.tl)) ?_ | exact MSub.refl _ | refine MSub.drop .hd ?_)))⟩
           exact ⟨hlt, by rw [List.length_append]; omega, (fun n hn => by rcases List.mem_append.1 hn with hn | hn; (· exact hwo n hn); (· exact hwL n hn)), hrec⟩)
        | (have hr0 : (if aloneT L then (0 : Int) else ce) = 0 := by simp_all
           rw [hr0, if_neg (by simp), if_neg (by omega)] at hrec
           refine ⟨(i + 1, out, A, cap), ?_, (by first | omega | (dsimp only; omega)), (by (repeat (first | exact Sub.nil _ | refine Sub.cons rfl ?_))), (by (repeat (first | exact Sub.nil _ | refine Sub.cons rfl ?_))), (by (repeat (first | exact MSub.nil _ | refine MSub.pick (by (repeat first | exact .hd | apply Sel.tl | apply In.tl)) ?_ | exact MSub.refl _ | refine MSub.drop .hd ?_)))⟩
           exact ⟨hlt, ho, hwo, hrec⟩)
  · have e : i = Ls.length := by omega
    subst e
    rw [List.drop_length, joinLoop] at hrec
    have e1 : out.length + 1 = (out ++ [root]).length := by simp
    have e2 : out.flatMap encN ++ encN root = (out ++ [root]).flatMap encN := by simp
    rw [hrec, if_neg (by simp)] at hJ
    have hck := refCheck_at (out ++ [root]) (fun n hn => by
      rcases List.mem_append.1 hn with hn | hn
      · exact hwo n hn
      · rw [List.mem_singleton.1 hn]; exact hwr)
    dsimp only at hJ
    generalize checkE (out ++ [root]) = ce at hck hJ
    repeat' (first
      | ((with_reducible apply wl_append); exact rfl; exact rfl; exact rfl; (repeat first | exact .hd | apply Sel.tl | apply In.tl); (intro w hm; exact hm.cells_own (by (repeat first | exact .hd | apply Sel.tl | apply In.tl))); exact rfl; (simp [Value.oneCell', sl]); omega; (simp only [maxLen]; omega); (intro A4 c4 h4))
      | ((with_reducible apply wl_callp); exact rfl; exact rfl; (intro w' hm; exact hck _ w' (by rw [← e1, ← e2]; exact Reads.of_own (A := A4) hm (by (repeat first | exact .hd | apply Sel.tl | apply In.tl)))))
      | ((with_reducible apply wl_v); exact rfl; (first | ((with_reducible apply vop_ok); exact rfl) | ((with_reducible apply v_fieldAddr); exact rfl) | ((with_reducible apply v_len); exact rfl) | ((with_reducible apply v_lens); exact rfl) | ((with_reducible apply v_load_box); exact rfl; (repeat first | exact .hd | apply Sel.tl | apply In.tl); exact rfl) | ((with_reducible apply v_eqlb); exact rfl; exact rfl) | ((with_reducible apply v_neqb); exact rfl; exact rfl) | ((with_reducible apply v_loadw_box); exact rfl; (repeat first | exact .hd | apply Sel.tl | apply In.tl); exact rfl) | ((with_reducible apply v_loadn_box); exact rfl; (repeat first | exact .hd | apply Sel.tl | apply In.tl); exact rfl; exact rfl)))
      | ((with_reducible apply wl_gyes); exact rfl; exact rfl)
      | ((with_reducible apply wl_gno_b); exact rfl; exact rfl; exact rfl; exact rfl)
      | ((with_reducible apply wl_gno_u); exact rfl; exact rfl; exact rfl)
      | ((with_reducible apply wl_boxs); exact rfl; exact rfl; intro _)
      | ((with_reducible apply wl_box1); exact rfl; exact rfl; exact rfl; intro _)
      | ((with_reducible apply wl_buildSlice); exact rfl; exact rfl; exact rfl; exact rfl; exact rfl; exact rfl; exact rfl; intro _)
      | ((with_reducible apply wl_gsplit) <;> first | exact rfl | (intro hb; (replace hb := Tidy.out hb; try (exfalso; omega))))
      | (with_reducible first | apply wl_nil | apply thn_n | apply w_seq | apply w_region | apply w_ret | apply w_skip | apply w_exit | apply w_block | apply thn_r | apply thn_e | apply blk_n | apply blk_r | apply blk_e)
      | ((with_reducible apply w_cond_true); exact rfl)
      | ((with_reducible apply w_cond_false); exact rfl)
      | ((with_reducible apply w_cond) <;> first | exact rfl | (intro hb; (replace hb := Tidy.out hb; try (exfalso; omega))))
      | ((with_reducible apply blk_x); exact rfl))
    · rw [if_pos hb] at hJ
      subst hJ
      exact ret2 (.inl rfl) Try.results31 rfl rfl (H' := [.own none 40 11 0 0 []]) (by (repeat (first | exact MSub.nil _ | refine MSub.pick (by (repeat first | exact .hd | apply Sel.tl | apply In.tl)) ?_ | exact MSub.refl _ | refine MSub.drop .hd ?_))) ⟨none, 0, rfl, rfl⟩
    · rw [if_neg (by omega)] at hJ
      subst hJ
      rw [e1]
      exact ret2 (.inl rfl) Try.results31 rfl rfl (H' := [.own A4 40 11 (out ++ [root]).length c4 (out.flatMap encN ++ encN root)]) (by (repeat (first | exact MSub.nil _ | refine MSub.pick (by (repeat first | exact .hd | apply Sel.tl | apply In.tl)) ?_ | exact MSub.refl _ | refine MSub.drop .hd ?_))) ⟨A4, c4, rfl, by rw [e2]⟩
end Go.SL

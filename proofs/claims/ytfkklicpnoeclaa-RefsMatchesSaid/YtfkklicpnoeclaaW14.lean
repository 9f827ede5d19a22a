/-
  What Join of package tree returns.
-/
import Derived.Test.YtfkklicpnoeclaaW10
import Derived.Test.YtfkklicpnoeclaaSl11
namespace Go.SL
open Go Go.Proofs
attribute [local irreducible] W WL WQ WG WA VOp thn blk retP FnAt FnIn

/-- A slice of trees reads. -/
def ReadsLL (w : World) (v : Value) (Ls : List (List Nd)) : Prop :=
  ∃ vals : List Value, vals.length = Ls.length ∧ Reads w v Ls.length vals ∧ ∀ (i : Nat) (x : Value) (L : List Nd), vals[i]? = some x → Ls[i]? = some L → Reads w x L.length (L.flatMap encN)

def joinLoop : List (List Nd) → List Nd → List Nd × Int
  | [], out => (out, 0)
  | t :: r, out => if (checkT t (decide ((t.length : Int) = 1))).1 ≠ 0 then ([], (checkT t (decide ((t.length : Int) = 1))).1) else joinLoop r (if out.length ≤ 256 then out ++ t else out)

/-- Join: the tree, and the error. -/
def joinE (root : Nd) (Ls : List (List Nd)) : List Nd × Int :=
  if (joinLoop Ls []).2 ≠ 0 then joinLoop Ls []
  else if checkE ((joinLoop Ls []).1 ++ [root]) ≠ 0 then ([], checkE ((joinLoop Ls []).1 ++ [root])) else ((joinLoop Ls []).1 ++ [root], 0)

theorem checkT_small {t : List Nd} {b : Bool} (h : (checkT t b).1 = 0) : t.length ≤ 256 := by
  unfold checkT at h
  split at h
  · cases h
  · omega

set_option maxRecDepth 20000 in
set_option maxHeartbeats 1000000 in
theorem Join_at (root : Nd) (Ls : List (List Nd)) (lv : Value) (w : World) (hl : ReadsLL w lv Ls) :
    FnAt Try.prog 30 [.agg (encN root).toArray, lv] w fun v H => ∃ A cap, v = .tuple #[sl A (joinE root Ls).1.length cap, .int .i64 (joinE root Ls).2] ∧ H = [.own A 40 11 (joinE root Ls).1.length cap ((joinE root Ls).1.flatMap encN)] := by
  obtain ⟨vals, hvl, ⟨Al, cl, rfl, hl1, hl2, hl3⟩, hel⟩ := hl
  refine fn_at Try.func30 rfl Try.ntmps30 rfl ?_
  repeat' (first
    | ((with_reducible apply wl_v); exact rfl; (first | ((with_reducible apply vop_ok); exact rfl) | ((with_reducible apply v_len); exact rfl) | ((with_reducible apply v_lens); exact rfl) | ((with_reducible apply v_load_box); exact rfl; (repeat first | exact .hd | apply Sel.tl | apply In.tl); exact rfl) | ((with_reducible apply v_eqlb); exact rfl; exact rfl) | ((with_reducible apply v_neqb); exact rfl; exact rfl) | ((with_reducible apply v_loadw_box); exact rfl; (repeat first | exact .hd | apply Sel.tl | apply In.tl); exact rfl) | ((with_reducible apply v_loadn_box); exact rfl; (repeat first | exact .hd | apply Sel.tl | apply In.tl); exact rfl; exact rfl)))
    | ((with_reducible apply wl_boxs); exact rfl; exact rfl; intro _)
    | ((with_reducible apply wl_box1); exact rfl; exact rfl; exact rfl; intro _)
    | ((with_reducible apply wl_buildSlice); exact rfl; exact rfl; exact rfl; exact rfl; exact rfl; exact rfl; exact rfl; intro _)
    | (with_reducible first | apply wl_nil | apply thn_n | apply w_seq | apply w_region | apply w_ret | apply w_skip | apply w_exit | apply w_block | apply thn_r | apply thn_e | apply blk_n | apply blk_r | apply blk_e)
    | ((with_reducible apply w_cond_true); exact rfl)
    | ((with_reducible apply w_cond_false); exact rfl)
    | ((with_reducible apply w_cond) <;> first | exact rfl | (intro hb; (replace hb := Tidy.out hb; try (exfalso; omega))))
    | ((with_reducible apply blk_x); exact rfl))
  rename_i g
  refine w_nilrow 40 11 ?_
  refine w_loopR (fun (i : Nat) s H => ∃ out A cap, s = [(2, .pointer (some ⟨g, 0, none⟩)), (6, sl A out.length cap), (11, .slice Al Ls.length cl), (12, .int .i64 (Ls.length : Int)), (13, .int .i64 (i : Int))] ∧
      H = [.own A 40 11 out.length cap (out.flatMap encN), .box g 40 (encN root)] ∧ i ≤ Ls.length ∧ out.length ≤ 512 ∧ joinLoop Ls [] = joinLoop (Ls.drop i) out) (fun i => Ls.length - i) 0 ?_ ?_
  · refine ⟨_, _, ?_, ?_, ⟨[], none, 0, rfl, rfl, by omega, by simp, rfl⟩⟩
    · (repeat (first | exact Sub.nil _ | refine Sub.cons rfl ?_))
    · (repeat (first | exact MSub.nil _ | refine MSub.pick (by (repeat first | exact .hd | apply Sel.tl | apply In.tl)) ?_ | exact MSub.refl _ | refine MSub.drop .hd ?_))
  · rintro i _ _ ⟨out, A, cap, rfl, rfl, hi, ho, hrec⟩
    have hfl : (out.flatMap encN).length = out.length * 11 := flat_length' encN_len out
    by_cases hlt : i < Ls.length
    · obtain ⟨gl, ol, rfl, hrl⟩ := hl3 (by omega)
      have hx := List.getElem?_eq_getElem (show i < vals.length by omega)
      have hL := List.getElem?_eq_getElem hlt
      have hr1 := hrl.cellV i hx
      have hR := hel i _ _ hx hL
      have hR' := hR
      rw [List.drop_eq_getElem_cons hlt, joinLoop] at hrec
      generalize Ls[i] = L at hR hR' hrec
      obtain ⟨Ax, cx, hv, hx1, hx2, hx3⟩ := hR
      rw [hv] at hr1 hR'
      have hchk := fun H0 => check_in L (decide ((L.length : Int) = 1)) _ w hR' 62 [] (fun _ H => H = H0) (visits_nothing _ w H0) H0 rfl
      have hsm := checkT_small (t := L) (b := decide ((L.length : Int) = 1))
      generalize checkT L (decide ((L.length : Int) = 1)) = r at hchk hsm hrec
      have hfl2 : (L.flatMap encN).length = L.length * 11 := flat_length' encN_len L
      repeat' (first
        | ((with_reducible apply wl_v); exact rfl; (with_reducible apply v_indexAddr); exact rfl; exact rfl; exact hlt)
        | ((with_reducible apply wl_v); exact rfl; (with_reducible apply v_load1_ro); exact rfl; exact hr1)
        | ((with_reducible apply wl_callin); exact rfl; exact rfl; exact hchk _; (rintro v H' ⟨rfl, rfl⟩; refine wl_nilrow 40 11 ?_))
        | ((with_reducible apply wl_appendR (A := A) (m := L.length)); exact rfl; exact rfl; exact rfl; (repeat first | exact .hd | apply Sel.tl | apply In.tl); (intro w hm; exact hR'.of_w0 hm); exact hfl2; exact encNs_one L; omega; (simp only [maxLen]; omega); intro A' cap' hA)
        | ((with_reducible apply wl_v); exact rfl; (with_reducible apply v_succN); exact rfl; exact rfl; (simp only [maxLen] at *; omega))
        | ((with_reducible apply wl_v); exact rfl; (first | ((with_reducible apply vop_ok); exact rfl) | ((with_reducible apply v_len); exact rfl) | ((with_reducible apply v_lens); exact rfl) | ((with_reducible apply v_load_box); exact rfl; (repeat first | exact .hd | apply Sel.tl | apply In.tl); exact rfl) | ((with_reducible apply v_eqlb); exact rfl; exact rfl) | ((with_reducible apply v_neqb); exact rfl; exact rfl) | ((with_reducible apply v_loadw_box); exact rfl; (repeat first | exact .hd | apply Sel.tl | apply In.tl); exact rfl) | ((with_reducible apply v_loadn_box); exact rfl; (repeat first | exact .hd | apply Sel.tl | apply In.tl); exact rfl; exact rfl)))
        | ((with_reducible apply wl_boxs); exact rfl; exact rfl; intro _)
        | ((with_reducible apply wl_box1); exact rfl; exact rfl; exact rfl; intro _)
        | ((with_reducible apply wl_buildSlice); exact rfl; exact rfl; exact rfl; exact rfl; exact rfl; exact rfl; exact rfl; intro _)
        | (with_reducible first | apply wl_nil | apply thn_n | apply w_seq | apply w_region | apply w_ret | apply w_skip | apply w_exit | apply w_block | apply thn_r | apply thn_e | apply blk_n | apply blk_r | apply blk_e)
        | ((with_reducible apply w_cond_true); exact rfl)
        | ((with_reducible apply w_cond_false); exact rfl)
        | ((with_reducible apply w_cond) <;> first | exact rfl | (intro hb; (replace hb := Tidy.out hb; try (exfalso; omega))))
        | ((with_reducible apply blk_x); exact rfl))
      · refine ret2 (.inl rfl) Try.results30 rfl rfl (H' := [.own none 40 11 0 0 []]) (by (repeat (first | exact MSub.nil _ | refine MSub.pick (by (repeat first | exact .hd | apply Sel.tl | apply In.tl)) ?_ | exact MSub.refl _ | refine MSub.drop .hd ?_))) ⟨none, 0, ?_⟩
        rw [if_pos hb] at hrec
        rw [joinE, hrec, if_pos hb]
        exact ⟨rfl, rfl⟩
      · have e1 : (out ++ L).length = out.length + L.length := List.length_append
        have e2 : (out ++ L).flatMap encN = out.flatMap encN ++ L.flatMap encN := List.flatMap_append
        refine ⟨i + 1, _, _, ?_, ?_, ?_, ⟨out ++ L, A', cap', rfl, rfl, by omega, ?_, ?_⟩⟩
        · omega
        · rw [e1]
          (repeat (first | exact Sub.nil _ | refine Sub.cons rfl ?_))
        · rw [e1, e2]
          (repeat (first | exact MSub.nil _ | refine MSub.pick (by (repeat first | exact .hd | apply Sel.tl | apply In.tl)) ?_ | exact MSub.refl _ | refine MSub.drop .hd ?_))
        · have := hsm (by omega)
          omega
        · rw [hrec, if_neg (by omega), if_pos (by omega)]
      · refine ⟨i + 1, _, _, ?_, ?_, ?_, ⟨out, A, cap, rfl, rfl, by omega, ho, ?_⟩⟩
        · omega
        · (repeat (first | exact Sub.nil _ | refine Sub.cons rfl ?_))
        · (repeat (first | exact MSub.nil _ | refine MSub.pick (by (repeat first | exact .hd | apply Sel.tl | apply In.tl)) ?_ | exact MSub.refl _ | refine MSub.drop .hd ?_))
        · rw [hrec, if_neg (by omega), if_neg (by omega)]
    · have e : i = Ls.length := by omega
      subst e
      rw [List.drop_length, joinLoop] at hrec
      have e1 : (out ++ [root]).length = out.length + 1 := by simp
      have e2 : (out ++ [root]).flatMap encN = out.flatMap encN ++ encN root := by simp
      have hck := Check_at (out ++ [root])
      rw [joinE, hrec, if_neg (by simp)]
      generalize checkE (out ++ [root]) = e at hck
      rw [e1, e2] at hck
      refine w_nilrow 40 11 ?_
      repeat' (first
        | ((with_reducible apply wl_append); exact rfl; exact rfl; exact rfl; (repeat first | exact .hd | apply Sel.tl | apply In.tl); (intro w hm; exact hm.cells_own (by (repeat first | exact .hd | apply Sel.tl | apply In.tl))); exact rfl; (simp [Value.oneCell', sl]); omega; (simp only [maxLen]; omega); (intro A' cap' hA'))
        | ((with_reducible apply wl_callp); exact rfl; exact rfl; (intro w' hm; exact hck _ w' (Reads.of_own hm (by (repeat first | exact .hd | apply Sel.tl | apply In.tl)))))
        | ((with_reducible apply wl_v); exact rfl; (first | ((with_reducible apply vop_ok); exact rfl) | ((with_reducible apply v_len); exact rfl) | ((with_reducible apply v_lens); exact rfl) | ((with_reducible apply v_load_box); exact rfl; (repeat first | exact .hd | apply Sel.tl | apply In.tl); exact rfl) | ((with_reducible apply v_eqlb); exact rfl; exact rfl) | ((with_reducible apply v_neqb); exact rfl; exact rfl) | ((with_reducible apply v_loadw_box); exact rfl; (repeat first | exact .hd | apply Sel.tl | apply In.tl); exact rfl) | ((with_reducible apply v_loadn_box); exact rfl; (repeat first | exact .hd | apply Sel.tl | apply In.tl); exact rfl; exact rfl)))
        | ((with_reducible apply wl_boxs); exact rfl; exact rfl; intro _)
        | ((with_reducible apply wl_box1); exact rfl; exact rfl; exact rfl; intro _)
        | ((with_reducible apply wl_buildSlice); exact rfl; exact rfl; exact rfl; exact rfl; exact rfl; exact rfl; exact rfl; intro _)
        | (with_reducible first | apply wl_nil | apply thn_n | apply w_seq | apply w_region | apply w_ret | apply w_skip | apply w_exit | apply w_block | apply thn_r | apply thn_e | apply blk_n | apply blk_r | apply blk_e)
        | ((with_reducible apply w_cond_true); exact rfl)
        | ((with_reducible apply w_cond_false); exact rfl)
        | ((with_reducible apply w_cond) <;> first | exact rfl | (intro hb; (replace hb := Tidy.out hb; try (exfalso; omega))))
        | ((with_reducible apply blk_x); exact rfl))
      · refine ret2 (.inl rfl) Try.results30 rfl rfl (H' := [.own none 40 11 0 0 []]) (by (repeat (first | exact MSub.nil _ | refine MSub.pick (by (repeat first | exact .hd | apply Sel.tl | apply In.tl)) ?_ | exact MSub.refl _ | refine MSub.drop .hd ?_))) ⟨none, 0, ?_⟩
        rw [if_pos hb]
        exact ⟨rfl, rfl⟩
      · refine ret2 (.inl rfl) Try.results30 rfl rfl (H' := [.own A' 40 11 (out.length + 1) cap' (out.flatMap encN ++ encN root)]) (by (repeat (first | exact MSub.nil _ | refine MSub.pick (by (repeat first | exact .hd | apply Sel.tl | apply In.tl)) ?_ | exact MSub.refl _ | refine MSub.drop .hd ?_))) ⟨A', cap', ?_⟩
        rw [if_neg (by omega), e1, e2]
        exact ⟨rfl, rfl⟩
end Go.SL

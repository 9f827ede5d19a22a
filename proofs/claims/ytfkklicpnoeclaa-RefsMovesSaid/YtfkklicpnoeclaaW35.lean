/-
  RefsMoves returns true.
-/
import Derived.Test.YtfkklicpnoeclaaW34
import Derived.Test.YtfkklicpnoeclaaW32
import Derived.Test.YtfkklicpnoeclaaW22
namespace Go.SL
open Go Go.Proofs
attribute [local irreducible] W WL WQ WG WA VOp thn blk cutP retP FnAt FnIn Held

def zeroN : Nd := ⟨0, zeroV, zeroR, 0, 0, 0⟩

set_option maxRecDepth 20000 in
set_option maxHeartbeats 4000000 in
theorem RefsMoves_at (L : List Nd) (hwf : ∀ n ∈ L, wfN n) (c o : Int) (tv : Value) (w : World) (hl : Reads w tv L.length (L.flatMap encN)) : Pure Try.prog 11 [tv, .int .i64 c, .int .i64 o] w (.bool true) := by
  refine fn_at Try.func11 rfl Try.ntmps11 rfl ?_
  have hf1 := fun (w' : World) (H : List Blk) (hm : Mem w w' H) => Few_at L tv w' (hl.of_w0 hm)
  have hidem := fewT_idem L
  have hwf1 := wf_few hwf
  have hle := few_len L
  generalize fewT L = T at hf1 hidem hwf1 hle
  have hf3 := fun (w' : World) (A : Option Nat) (cap : Nat) (h : Reads w' (sl A T.length cap) T.length (T.flatMap encN)) => Few_at T _ w' h
  rw [hidem] at hf3
  have m1 := fun (tv' : Value) (w' : World) h => Move_at T c o tv' w' h (by omega)
  have m2 := fun (tv' : Value) (w' : World) h => refMove_at T hwf1 c o tv' w' h (by omega)
  have hml : (moveE T c o).1.length ≤ 300 := by
    unfold moveE
    split
    · simp
    · split
      · simp
      · simpa using hle
  generalize moveE T c o = M at *
  obtain ⟨M, e⟩ := M
  dsimp only at m1 m2 hml
  repeat' (first
    | ((with_reducible apply wl_call (d := 14)); exact rfl; exact rfl; (intro w' h; exact hf1 w' _ h); (rintro v H' ⟨A1, cap1, rfl, rfl⟩))
    | ((with_reducible apply wl_call (d := 16)); exact rfl; exact rfl; (intro w' h; exact hf3 w' _ _ (Reads.of_own h (by (repeat first | exact .hd | apply Sel.tl | apply In.tl)))); (rintro v H' ⟨A2, cap2, rfl, rfl⟩))
    | ((with_reducible apply wl_call (d := 21)); exact rfl; exact rfl; (intro w' h; exact m1 _ w' (Reads.of_own (A := A2) h (by (repeat first | exact .hd | apply Sel.tl | apply In.tl)))); (rintro v H' ⟨A3, cap3, rfl, rfl⟩))
    | ((with_reducible apply wl_call (d := 28)); exact rfl; exact rfl; (intro w' h; exact m2 _ w' (Reads.of_own (A := A1) h (by (repeat first | exact .hd | apply Sel.tl | apply In.tl)))); (rintro v H' ⟨A4, cap4, rfl, rfl⟩))
    | ((with_reducible apply wl_callp (d := 33)); exact rfl; exact rfl; (intro w' h; exact EqualTree_same M _ _ w' (Reads.of_own (A := A3) h (by (repeat first | exact .hd | apply Sel.tl | apply In.tl))) (Reads.of_own (A := A4) h (by (repeat first | exact .hd | apply Sel.tl | apply In.tl)))))
    | ((with_reducible apply wl_v); exact rfl; (with_reducible apply v_neq_same); exact rfl; exact rfl)
    | ((with_reducible apply wl_v); exact rfl; (first | ((with_reducible apply vop_ok); exact rfl) | ((with_reducible apply v_len); exact rfl) | ((with_reducible apply v_lens); exact rfl) | ((with_reducible apply v_eqlb); exact rfl; exact rfl) | ((with_reducible apply v_neqb); exact rfl; exact rfl) | ((with_reducible apply v_build); exact rfl; exact rfl; exact rfl)))
    | ((with_reducible apply wl_gyes); exact rfl; exact rfl)
    | ((with_reducible apply wl_gno_b); exact rfl; exact rfl; exact rfl; exact rfl)
    | ((with_reducible apply wl_gno_u); exact rfl; exact rfl; exact rfl)
    | ((with_reducible apply wl_storen_box); exact rfl; exact rfl; (repeat first | exact .hd | apply Sel.tl | apply In.tl); exact rfl; exact rfl; exact rfl)
    | ((with_reducible apply wl_putn_box); exact rfl; exact rfl; (repeat first | exact .hd | apply Sel.tl | apply In.tl); exact rfl; exact rfl; exact rfl; exact rfl)
    | ((with_reducible apply wl_gsplit) <;> first | exact rfl | (intro hb; (replace hb := Tidy.out hb; try (exfalso; omega))))
    | (with_reducible first | apply wl_nil | apply thn_n | apply w_seq | apply w_region | apply w_ret | apply w_skip | apply w_exit | apply w_block | apply thn_r | apply thn_e | apply blk_n | apply blk_r | apply blk_e)
    | ((with_reducible apply w_cond_true); exact rfl)
    | ((with_reducible apply w_cond_false); exact rfl)
    | ((with_reducible apply w_cond) <;> first | exact rfl | (intro hb; (replace hb := Tidy.out hb; try (exfalso; omega))))
    | ((with_reducible apply blk_x); exact rfl))
  refine w_loopK [0, 7, 8] rfl (fun x : Nat × List Value => [(12, .int .i64 (x.1 : Int))]) (fun x => [.own A3 40 11 M.length cap3 x.2, .own A2 40 11 T.length cap2 (T.flatMap encN), .own A1 40 11 T.length cap1 (T.flatMap encN)])
    (fun x => x.1 ≤ M.length ∧ x.2.length = M.length * 11) (fun x => M.length - x.1) (0, M.flatMap encN) ⟨by omega, flat_length' encN_len M⟩ (by (repeat (first | exact Sub.nil _ | refine Sub.cons rfl ?_))) (by (repeat (first | exact MSub.nil _ | refine MSub.pick (by (repeat first | exact .hd | apply Sel.tl | apply In.tl)) ?_ | exact MSub.refl _ | refine MSub.drop .hd ?_))) ?_
  rintro ⟨z, xs⟩ ⟨hz, hxs⟩
  dsimp only at hz hxs ⊢
  by_cases hlt : z < M.length
  · refine w_some (A := A3) .hd (by omega) fun g3 hA3 => ?_
    subst hA3
    repeat' (first
      | ((with_reducible apply wl_v); exact rfl; (with_reducible apply v_indexAddr); exact rfl; exact rfl; exact hlt)
      | ((with_reducible apply wl_put_own (vs := encN zeroN)); exact rfl; exact rfl; (repeat first | exact .hd | apply Sel.tl | apply In.tl); exact rfl; exact rfl; (simp [encN, Value.oneCell']); (rw [hxs]; omega))
      | ((with_reducible apply wl_v); exact rfl; (first | ((with_reducible apply vop_ok); exact rfl) | ((with_reducible apply v_len); exact rfl) | ((with_reducible apply v_lens); exact rfl) | ((with_reducible apply v_eqlb); exact rfl; exact rfl) | ((with_reducible apply v_neqb); exact rfl; exact rfl) | ((with_reducible apply v_build); exact rfl; exact rfl; exact rfl)))
      | ((with_reducible apply wl_gyes); exact rfl; exact rfl)
      | ((with_reducible apply wl_gno_b); exact rfl; exact rfl; exact rfl; exact rfl)
      | ((with_reducible apply wl_gno_u); exact rfl; exact rfl; exact rfl)
      | ((with_reducible apply wl_storen_box); exact rfl; exact rfl; (repeat first | exact .hd | apply Sel.tl | apply In.tl); exact rfl; exact rfl; exact rfl)
      | ((with_reducible apply wl_putn_box); exact rfl; exact rfl; (repeat first | exact .hd | apply Sel.tl | apply In.tl); exact rfl; exact rfl; exact rfl; exact rfl)
      | ((with_reducible apply wl_gsplit) <;> first | exact rfl | (intro hb; (replace hb := Tidy.out hb; try (exfalso; omega))))
      | (with_reducible first | apply wl_nil | apply thn_n | apply w_seq | apply w_region | apply w_ret | apply w_skip | apply w_exit | apply w_block | apply thn_r | apply thn_e | apply blk_n | apply blk_r | apply blk_e)
      | ((with_reducible apply w_cond_true); exact rfl)
      | ((with_reducible apply w_cond_false); exact rfl)
      | ((with_reducible apply w_cond) <;> first | exact rfl | (intro hb; (replace hb := Tidy.out hb; try (exfalso; omega))))
      | ((with_reducible apply blk_x); exact rfl)
      | ((with_reducible apply wl_v); exact rfl; (with_reducible apply v_succN); exact rfl; exact rfl; (simp only [maxLen] at *; omega))
      | ((with_reducible apply wl_v); exact rfl; (with_reducible apply v_1addN); exact rfl; exact rfl; (simp only [maxLen] at *; omega))
      | ((with_reducible apply wl_v); exact rfl; (with_reducible apply v_addN); exact rfl; exact rfl; (simp only [maxLen] at *; omega)))
    refine ⟨(z + 1, xs.take (0 + z * 11) ++ encN zeroN ++ xs.drop (0 + z * 11 + 11)), ?_, (by first | omega | (dsimp only; omega)), (by (repeat (first | exact Sub.nil _ | refine Sub.cons rfl ?_))), (by (repeat (first | exact Sub.nil _ | refine Sub.cons rfl ?_))), (by (repeat (first | exact MSub.nil _ | refine MSub.pick (by (repeat first | exact .hd | apply Sel.tl | apply In.tl)) ?_ | exact MSub.refl _ | refine MSub.drop .hd ?_)))⟩
    exact ⟨hlt, by simp only [List.length_append, List.length_take, List.length_drop, encN_len, hxs]; omega⟩
  · have e : z = M.length := by omega
    subst e
    repeat' (first
      | ((with_reducible apply wl_callp (f := 27)); exact rfl; exact rfl; (intro w' h; exact EqualTree_same T _ _ w' (Reads.of_own (A := A2) h (by (repeat first | exact .hd | apply Sel.tl | apply In.tl))) (Reads.of_own (A := A1) h (by (repeat first | exact .hd | apply Sel.tl | apply In.tl)))))
      | ((with_reducible apply wl_callp (f := 47)); exact rfl; exact rfl; (intro w' h; exact awake12_at w'))
      | ((with_reducible apply wl_v); exact rfl; (first | ((with_reducible apply vop_ok); exact rfl) | ((with_reducible apply v_len); exact rfl) | ((with_reducible apply v_lens); exact rfl) | ((with_reducible apply v_eqlb); exact rfl; exact rfl) | ((with_reducible apply v_neqb); exact rfl; exact rfl) | ((with_reducible apply v_build); exact rfl; exact rfl; exact rfl)))
      | ((with_reducible apply wl_gyes); exact rfl; exact rfl)
      | ((with_reducible apply wl_gno_b); exact rfl; exact rfl; exact rfl; exact rfl)
      | ((with_reducible apply wl_gno_u); exact rfl; exact rfl; exact rfl)
      | ((with_reducible apply wl_storen_box); exact rfl; exact rfl; (repeat first | exact .hd | apply Sel.tl | apply In.tl); exact rfl; exact rfl; exact rfl)
      | ((with_reducible apply wl_putn_box); exact rfl; exact rfl; (repeat first | exact .hd | apply Sel.tl | apply In.tl); exact rfl; exact rfl; exact rfl; exact rfl)
      | ((with_reducible apply wl_gsplit) <;> first | exact rfl | (intro hb; (replace hb := Tidy.out hb; try (exfalso; omega))))
      | (with_reducible first | apply wl_nil | apply thn_n | apply w_seq | apply w_region | apply w_ret | apply w_skip | apply w_exit | apply w_block | apply thn_r | apply thn_e | apply blk_n | apply blk_r | apply blk_e)
      | ((with_reducible apply w_cond_true); exact rfl)
      | ((with_reducible apply w_cond_false); exact rfl)
      | ((with_reducible apply w_cond) <;> first | exact rfl | (intro hb; (replace hb := Tidy.out hb; try (exfalso; omega))))
      | ((with_reducible apply blk_x); exact rfl))
    ((with_reducible apply ret1); exact .inl rfl; exact rfl; exact rfl; exact MSub.nil _)
    rfl
end Go.SL

/-
  What TreeMatches returns.
-/
import Derived.Test.YtfkklicpnoeclaaW21
namespace Go.SL
open Go Go.Proofs
attribute [local irreducible] W WL WQ WG WA VOp thn blk cutP retP FnAt FnIn

theorem wf_few {L : List Nd} (h : ∀ n ∈ L, wfN n) : ∀ n ∈ fewT L, wfN n := by
  intro n hn
  obtain ⟨m, hm, rfl⟩ := List.mem_map.1 hn
  exact h m (List.mem_of_mem_take hm)
theorem few_len (L : List Nd) : (fewT L).length ≤ 300 := by
  unfold fewT
  rw [List.length_map, List.length_take]
  omega

theorem EqualTree_same (L : List Nd) (a b : Value) (w : World) (h1 : Reads w a L.length (L.flatMap encN)) (h2 : Reads w b L.length (L.flatMap encN)) : Pure Try.prog 27 [a, b] w (.bool true) := by
  have h := EqualTree_at L L a b w h1 h2
  rwa [decide_eq_true rfl] at h
theorem intsV_intsI (ks : List Nat) : intsV ks = (ks.map fun (k : Nat) => (k : Int)).map (Value.int .i64) := by simp [intsV]
theorem EqualInts_same (ks : List Nat) (a b : Value) (w : World) (h1 : Reads w a ks.length (intsV ks)) (h2 : Reads w b ks.length (intsV ks)) : Pure Try.prog 26 [a, b] w (.bool true) := by
  rw [intsV_intsI] at h1 h2
  have h := EqualInts_at (ks.map fun (k : Nat) => (k : Int)) (ks.map fun (k : Nat) => (k : Int)) a b w (by simpa using h1) (by simpa using h2)
  rwa [decide_eq_true rfl] at h

set_option maxRecDepth 20000 in
set_option maxHeartbeats 1000000 in
theorem TreeMatches_at (L : List Nd) (hwf : ∀ n ∈ L, wfN n) (i : Int) (tv : Value) (w : World) (ht : Reads w tv L.length (L.flatMap encN)) : Pure Try.prog 3 [tv, .int .i64 i] w (.bool true) := by
  refine fn_at Try.func3 rfl Try.ntmps3 rfl ?_
  have hf1 := fun (w' : World) (H : List Blk) (hm : Mem w w' H) => Few_at L tv w' (ht.of_w0 hm)
  have hidem := fewT_idem L
  have hwf1 := wf_few hwf
  have hle := few_len L
  generalize fewT L = M at hf1 hidem hwf1 hle
  have hf3 := fun (w' : World) (A : Option Nat) (cap : Nat) (h : Reads w' (sl A M.length cap) M.length (M.flatMap encN)) => Few_at M _ w' h
  rw [hidem] at hf3
  have d1 := fun v w' h => Depth_at M v w' h
  have d2 := fun v w' h => refDepth_at M hwf1 v w' h
  have k1 := fun v w' h => Kids_at M i v w' h
  have k2 := fun v w' h => refKids_at M hwf1 i v w' h
  have s1 := fun v w' h => Sub_at M i v w' h (by omega)
  have s2 := fun v w' h => refSub_at M hwf1 i v w' h
  have c1 := fun v w' h => Check_at M v w' h
  have c2 := fun v w' h => refCheck_at M hwf1 v w' h
  generalize depthE M = D at d1 d2
  generalize kidsE M i = K at k1 k2
  generalize subE M i = U at s1 s2
  generalize checkE M = C at c1 c2
  repeat' (first
    | ((with_reducible apply wl_call (xs := [.tmp 21])); exact rfl; exact rfl; (intro w' h; exact hf1 w' _ h); (rintro v H' ⟨A1, cap1, rfl, rfl⟩))
    | ((with_reducible apply wl_call (xs := [.tmp 23])); exact rfl; exact rfl; (intro w' h; exact hf3 w' _ _ (Reads.of_own h (by (repeat first | exact .hd | apply Sel.tl | apply In.tl)))); (rintro v H' ⟨A2, cap2, rfl, rfl⟩))
    | ((with_reducible apply wl_v); exact rfl; (first | ((with_reducible apply vop_ok); exact rfl) | ((with_reducible apply v_len); exact rfl) | ((with_reducible apply v_lens); exact rfl) | ((with_reducible apply v_eqlb); exact rfl; exact rfl) | ((with_reducible apply v_neqb); exact rfl; exact rfl) | ((with_reducible apply v_build); exact rfl; exact rfl; exact rfl)))
    | ((with_reducible apply wl_gyes); exact rfl; exact rfl)
    | ((with_reducible apply wl_gno_b); exact rfl; exact rfl; exact rfl; exact rfl)
    | ((with_reducible apply wl_gno_u); exact rfl; exact rfl; exact rfl)
    | ((with_reducible apply wl_storen_box); exact rfl; exact rfl; (repeat first | exact .hd | apply Sel.tl | apply In.tl); exact rfl; exact rfl; exact rfl)
    | ((with_reducible apply wl_putn_box); exact rfl; exact rfl; (repeat first | exact .hd | apply Sel.tl | apply In.tl); exact rfl; exact rfl; exact rfl; exact rfl)
    | ((with_reducible apply wl_gsplit) <;> first | exact rfl | (intro hb; (replace hb := Tidy.out hb; try (exfalso; omega))))
    | (with_reducible first | apply wl_nil | apply thn_n | apply w_seq | apply w_region | apply w_ret | apply w_skip | apply w_exit | apply w_block | apply thn_r | apply thn_e | apply blk_n | apply blk_r | apply blk_e)
    | ((with_reducible apply w_cond_true); exact rfl)
    | ((with_reducible apply w_cond_false); exact rfl)
    | ((with_reducible apply w_cond) <;> first | exact rfl | (intro hb; (replace hb := Tidy.out hb; try (exfalso; omega))))
    | ((with_reducible apply blk_x); exact rfl))
  refine w_loopK [0, 1, 5] rfl (fun r : Nat => [(6, .int .i64 (r : Int))]) (fun _ => [.own A2 40 11 M.length cap2 (M.flatMap encN), .own A1 40 11 M.length cap1 (M.flatMap encN)]) (fun r => r ≤ 2) (fun r => 2 - r) 0 (by omega) (by (repeat (first | exact Sub.nil _ | refine Sub.cons rfl ?_))) (by (repeat (first | exact MSub.nil _ | refine MSub.pick (by (repeat first | exact .hd | apply Sel.tl | apply In.tl)) ?_ | exact MSub.refl _ | refine MSub.drop .hd ?_))) ?_
  intro r hr
  by_cases hr2 : r < 2
  · repeat' (first
      | ((with_reducible apply wl_callp); exact rfl; exact rfl; (intro w' h; exact d1 _ w' (Reads.of_own (A := A2) h (by (repeat first | exact .hd | apply Sel.tl | apply In.tl)))))
      | ((with_reducible apply wl_callp); exact rfl; exact rfl; (intro w' h; exact d2 _ w' (Reads.of_own (A := A1) h (by (repeat first | exact .hd | apply Sel.tl | apply In.tl)))))
      | ((with_reducible apply wl_call); exact rfl; exact rfl; (intro w' h; exact k1 _ w' (Reads.of_own (A := A2) h (by (repeat first | exact .hd | apply Sel.tl | apply In.tl)))); (rintro v H' ⟨A3, cap3, rfl, rfl⟩))
      | ((with_reducible apply wl_call); exact rfl; exact rfl; (intro w' h; exact k2 _ w' (Reads.of_own (A := A1) h (by (repeat first | exact .hd | apply Sel.tl | apply In.tl)))); (rintro v H' ⟨A4, cap4, rfl, rfl⟩))
      | ((with_reducible apply wl_call); exact rfl; exact rfl; (intro w' h; exact s1 _ w' (Reads.of_own (A := A2) h (by (repeat first | exact .hd | apply Sel.tl | apply In.tl)))); (rintro v H' ⟨A5, cap5, rfl, rfl⟩))
      | ((with_reducible apply wl_call); exact rfl; exact rfl; (intro w' h; exact s2 _ w' (Reads.of_own (A := A1) h (by (repeat first | exact .hd | apply Sel.tl | apply In.tl)))); (rintro v H' ⟨A6, cap6, rfl, rfl⟩))
      | ((with_reducible apply wl_callp); exact rfl; exact rfl; (intro w' h; exact c1 _ w' (Reads.of_own (A := A2) h (by (repeat first | exact .hd | apply Sel.tl | apply In.tl)))))
      | ((with_reducible apply wl_callp); exact rfl; exact rfl; (intro w' h; exact c2 _ w' (Reads.of_own (A := A1) h (by (repeat first | exact .hd | apply Sel.tl | apply In.tl)))))
      | ((with_reducible apply wl_callp); exact rfl; exact rfl; (intro w' h; exact EqualInts_same K.1 _ _ w' (Reads.of_own h (by (repeat first | exact .hd | apply Sel.tl | apply In.tl))) (Reads.of_own h (by (repeat first | exact .hd | apply Sel.tl | apply In.tl)))))
      | ((with_reducible apply wl_callp); exact rfl; exact rfl; (intro w' h; exact EqualTree_same U.1 _ _ w' (Reads.of_own h (by (repeat first | exact .hd | apply Sel.tl | apply In.tl))) (Reads.of_own h (by (repeat first | exact .hd | apply Sel.tl | apply In.tl)))))
      | ((with_reducible apply wl_callp); exact rfl; exact rfl; (intro w' h; exact EqualTree_same M _ _ w' (Reads.of_own h (by (repeat first | exact .hd | apply Sel.tl | apply In.tl))) (Reads.of_own h (by (repeat first | exact .hd | apply Sel.tl | apply In.tl)))))
      | ((with_reducible apply wl_v); exact rfl; (with_reducible apply v_neq_same); exact rfl; exact rfl)
      | ((with_reducible apply wl_v); exact rfl; (first | ((with_reducible apply vop_ok); exact rfl) | ((with_reducible apply v_len); exact rfl) | ((with_reducible apply v_lens); exact rfl) | ((with_reducible apply v_eqlb); exact rfl; exact rfl) | ((with_reducible apply v_neqb); exact rfl; exact rfl) | ((with_reducible apply v_build); exact rfl; exact rfl; exact rfl)))
      | ((with_reducible apply wl_gyes); exact rfl; exact rfl)
      | ((with_reducible apply wl_gno_b); exact rfl; exact rfl; exact rfl; exact rfl)
      | ((with_reducible apply wl_gno_u); exact rfl; exact rfl; exact rfl)
      | ((with_reducible apply wl_storen_box); exact rfl; exact rfl; (repeat first | exact .hd | apply Sel.tl | apply In.tl); exact rfl; exact rfl; exact rfl)
      | ((with_reducible apply wl_putn_box); exact rfl; exact rfl; (repeat first | exact .hd | apply Sel.tl | apply In.tl); exact rfl; exact rfl; exact rfl; exact rfl)
      | ((with_reducible apply wl_gsplit) <;> first | exact rfl | (intro hb; (replace hb := Tidy.out hb; try (exfalso; omega))))
      | (with_reducible first | apply wl_nil | apply thn_n | apply w_seq | apply w_region | apply w_ret | apply w_skip | apply w_exit | apply w_block | apply thn_r | apply thn_e | apply blk_n | apply blk_r | apply blk_e)
      | ((with_reducible apply w_cond_true); exact rfl)
      | ((with_reducible apply w_cond_false); exact rfl)
      | ((with_reducible apply w_cond) <;> first | exact rfl | (intro hb; (replace hb := Tidy.out hb; try (exfalso; omega))))
      | ((with_reducible apply blk_x); exact rfl))
    refine w_loopK [0, 1, 5, 6, 11, 15] rfl (fun x : Nat × List Value => [(19, .int .i64 (x.1 : Int))]) (fun x => [.own A3 3 1 K.1.length cap3 x.2, .own A5 40 11 U.1.length cap5 (U.1.flatMap encN), .own A2 40 11 M.length cap2 (M.flatMap encN), .own A1 40 11 M.length cap1 (M.flatMap encN)])
      (fun x => x.1 ≤ K.1.length ∧ x.2.length = K.1.length) (fun x => K.1.length - x.1) (0, intsV K.1) ⟨by omega, intsV_length _⟩ (by (repeat (first | exact Sub.nil _ | refine Sub.cons rfl ?_))) (by (repeat (first | exact MSub.nil _ | refine MSub.pick (by (repeat first | exact .hd | apply Sel.tl | apply In.tl)) ?_ | exact MSub.refl _ | refine MSub.drop .hd ?_))) ?_
    rintro ⟨z, xs⟩ ⟨hz, hxs⟩
    dsimp only at hz hxs ⊢
    refine w_row (A := A3) .hd fun q1 q2 q3 => ?_
    by_cases hzk : z < K.1.length
    · refine w_some (A := A3) .hd (by omega) fun g3 hA => ?_
      subst hA
      repeat' (first
        | ((with_reducible apply wl_v); exact rfl; (with_reducible apply v_indexAddr); exact rfl; exact rfl; omega)
        | ((with_reducible apply wl_store_own); exact rfl; exact rfl; (repeat first | exact .hd | apply Sel.tl | apply In.tl); exact rfl; omega)
        | ((with_reducible apply wl_v); exact rfl; (first | ((with_reducible apply vop_ok); exact rfl) | ((with_reducible apply v_len); exact rfl) | ((with_reducible apply v_lens); exact rfl) | ((with_reducible apply v_eqlb); exact rfl; exact rfl) | ((with_reducible apply v_neqb); exact rfl; exact rfl) | ((with_reducible apply v_build); exact rfl; exact rfl; exact rfl)))
        | ((with_reducible apply wl_gyes); exact rfl; exact rfl)
        | ((with_reducible apply wl_gno_b); exact rfl; exact rfl; exact rfl; exact rfl)
        | ((with_reducible apply wl_gno_u); exact rfl; exact rfl; exact rfl)
        | ((with_reducible apply wl_storen_box); exact rfl; exact rfl; (repeat first | exact .hd | apply Sel.tl | apply In.tl); exact rfl; exact rfl; exact rfl)
        | ((with_reducible apply wl_putn_box); exact rfl; exact rfl; (repeat first | exact .hd | apply Sel.tl | apply In.tl); exact rfl; exact rfl; exact rfl; exact rfl)
        | ((with_reducible apply wl_gsplit) <;> first | exact rfl | (intro hb; (replace hb := Tidy.out hb; try (exfalso; omega))))
        | (with_reducible first | apply wl_nil | apply thn_n | apply w_seq | apply w_region | apply w_ret | apply w_skip | apply w_exit | apply w_block | apply thn_r | apply thn_e | apply blk_n | apply blk_r | apply blk_e)
        | ((with_reducible apply w_cond_true); exact rfl)
        | ((with_reducible apply w_cond_false); exact rfl)
        | ((with_reducible apply w_cond) <;> first | exact rfl | (intro hb; (replace hb := Tidy.out hb; try (exfalso; omega))))
        | ((with_reducible apply blk_x); exact rfl)
        | ((with_reducible apply wl_v); exact rfl; (with_reducible apply v_succN); exact rfl; exact rfl; (simp only [maxLen] at *; omega))
        | ((with_reducible apply wl_v); exact rfl; (with_reducible apply v_1addN); exact rfl; exact rfl; (simp only [maxLen] at *; omega))
        | ((with_reducible apply wl_v); exact rfl; (with_reducible apply v_addN); exact rfl; exact rfl; (simp only [maxLen] at *; omega)))
      refine ⟨(z + 1, xs.set (0 + z * 1) (.int .i64 (-1))), ?_, (by first | omega | (dsimp only; omega)), (by (repeat (first | exact Sub.nil _ | refine Sub.cons rfl ?_))), (by (repeat (first | exact Sub.nil _ | refine Sub.cons rfl ?_))), (by (repeat (first | exact MSub.nil _ | refine MSub.pick (by (repeat first | exact .hd | apply Sel.tl | apply In.tl)) ?_ | exact MSub.refl _ | refine MSub.drop .hd ?_)))⟩
      exact ⟨hzk, by simpa using hxs⟩
    · repeat' (first
        | ((with_reducible apply wl_v); exact rfl; (first | ((with_reducible apply vop_ok); exact rfl) | ((with_reducible apply v_len); exact rfl) | ((with_reducible apply v_lens); exact rfl) | ((with_reducible apply v_eqlb); exact rfl; exact rfl) | ((with_reducible apply v_neqb); exact rfl; exact rfl) | ((with_reducible apply v_build); exact rfl; exact rfl; exact rfl)))
        | ((with_reducible apply wl_gyes); exact rfl; exact rfl)
        | ((with_reducible apply wl_gno_b); exact rfl; exact rfl; exact rfl; exact rfl)
        | ((with_reducible apply wl_gno_u); exact rfl; exact rfl; exact rfl)
        | ((with_reducible apply wl_storen_box); exact rfl; exact rfl; (repeat first | exact .hd | apply Sel.tl | apply In.tl); exact rfl; exact rfl; exact rfl)
        | ((with_reducible apply wl_putn_box); exact rfl; exact rfl; (repeat first | exact .hd | apply Sel.tl | apply In.tl); exact rfl; exact rfl; exact rfl; exact rfl)
        | ((with_reducible apply wl_gsplit) <;> first | exact rfl | (intro hb; (replace hb := Tidy.out hb; try (exfalso; omega))))
        | (with_reducible first | apply wl_nil | apply thn_n | apply w_seq | apply w_region | apply w_ret | apply w_skip | apply w_exit | apply w_block | apply thn_r | apply thn_e | apply blk_n | apply blk_r | apply blk_e)
        | ((with_reducible apply w_cond_true); exact rfl)
        | ((with_reducible apply w_cond_false); exact rfl)
        | ((with_reducible apply w_cond) <;> first | exact rfl | (intro hb; (replace hb := Tidy.out hb; try (exfalso; omega))))
        | ((with_reducible apply blk_x); exact rfl))
      refine w_loopK [0, 1, 5, 6, 15] rfl (fun x : Nat × List Value => [(20, .int .i64 (x.1 : Int))]) (fun x => [.own A5 40 11 U.1.length cap5 x.2, .own A2 40 11 M.length cap2 (M.flatMap encN), .own A1 40 11 M.length cap1 (M.flatMap encN)])
        (fun x => x.1 ≤ U.1.length ∧ x.2.length = U.1.length * 11) (fun x => U.1.length - x.1) (0, U.1.flatMap encN) ⟨by omega, flat_length' encN_len _⟩ (by (repeat (first | exact Sub.nil _ | refine Sub.cons rfl ?_))) (by (repeat (first | exact MSub.nil _ | refine MSub.pick (by (repeat first | exact .hd | apply Sel.tl | apply In.tl)) ?_ | exact MSub.refl _ | refine MSub.drop .hd ?_))) ?_
      rintro ⟨y, ys⟩ ⟨hy, hys⟩
      dsimp only at hy hys ⊢
      refine w_row (A := A5) .hd fun p1 p2 p3 => ?_
      by_cases hyk : y < U.1.length
      · refine w_some (A := A5) .hd (by omega) fun g5 hA => ?_
        subst hA
        repeat' (first
          | ((with_reducible apply wl_v); exact rfl; (with_reducible apply v_indexAddr); exact rfl; exact rfl; omega)
          | ((with_reducible apply wl_put_own (vs := encN ⟨0, zeroV, zeroR, 0, 0, 0⟩)); exact rfl; exact rfl; (repeat first | exact .hd | apply Sel.tl | apply In.tl); exact rfl; exact rfl; decide; omega)
          | ((with_reducible apply wl_v); exact rfl; (first | ((with_reducible apply vop_ok); exact rfl) | ((with_reducible apply v_len); exact rfl) | ((with_reducible apply v_lens); exact rfl) | ((with_reducible apply v_eqlb); exact rfl; exact rfl) | ((with_reducible apply v_neqb); exact rfl; exact rfl) | ((with_reducible apply v_build); exact rfl; exact rfl; exact rfl)))
          | ((with_reducible apply wl_gyes); exact rfl; exact rfl)
          | ((with_reducible apply wl_gno_b); exact rfl; exact rfl; exact rfl; exact rfl)
          | ((with_reducible apply wl_gno_u); exact rfl; exact rfl; exact rfl)
          | ((with_reducible apply wl_storen_box); exact rfl; exact rfl; (repeat first | exact .hd | apply Sel.tl | apply In.tl); exact rfl; exact rfl; exact rfl)
          | ((with_reducible apply wl_putn_box); exact rfl; exact rfl; (repeat first | exact .hd | apply Sel.tl | apply In.tl); exact rfl; exact rfl; exact rfl; exact rfl)
          | ((with_reducible apply wl_gsplit) <;> first | exact rfl | (intro hb; (replace hb := Tidy.out hb; try (exfalso; omega))))
          | (with_reducible first | apply wl_nil | apply thn_n | apply w_seq | apply w_region | apply w_ret | apply w_skip | apply w_exit | apply w_block | apply thn_r | apply thn_e | apply blk_n | apply blk_r | apply blk_e)
          | ((with_reducible apply w_cond_true); exact rfl)
          | ((with_reducible apply w_cond_false); exact rfl)
          | ((with_reducible apply w_cond) <;> first | exact rfl | (intro hb; (replace hb := Tidy.out hb; try (exfalso; omega))))
          | ((with_reducible apply blk_x); exact rfl)
          | ((with_reducible apply wl_v); exact rfl; (with_reducible apply v_succN); exact rfl; exact rfl; (simp only [maxLen] at *; omega))
          | ((with_reducible apply wl_v); exact rfl; (with_reducible apply v_1addN); exact rfl; exact rfl; (simp only [maxLen] at *; omega))
          | ((with_reducible apply wl_v); exact rfl; (with_reducible apply v_addN); exact rfl; exact rfl; (simp only [maxLen] at *; omega)))
        refine ⟨(y + 1, ys.take (0 + y * 11) ++ encN ⟨0, zeroV, zeroR, 0, 0, 0⟩ ++ ys.drop (0 + y * 11 + 11)), ?_, (by first | omega | (dsimp only; omega)), (by (repeat (first | exact Sub.nil _ | refine Sub.cons rfl ?_))), (by (repeat (first | exact Sub.nil _ | refine Sub.cons rfl ?_))), (by (repeat (first | exact MSub.nil _ | refine MSub.pick (by (repeat first | exact .hd | apply Sel.tl | apply In.tl)) ?_ | exact MSub.refl _ | refine MSub.drop .hd ?_)))⟩
        refine ⟨hyk, ?_⟩
        simp only [List.length_append, List.length_take, List.length_drop, encN_len]
        omega
      · repeat' (first
          | ((with_reducible apply wl_v); exact rfl; (first | ((with_reducible apply vop_ok); exact rfl) | ((with_reducible apply v_len); exact rfl) | ((with_reducible apply v_lens); exact rfl) | ((with_reducible apply v_eqlb); exact rfl; exact rfl) | ((with_reducible apply v_neqb); exact rfl; exact rfl) | ((with_reducible apply v_build); exact rfl; exact rfl; exact rfl)))
          | ((with_reducible apply wl_gyes); exact rfl; exact rfl)
          | ((with_reducible apply wl_gno_b); exact rfl; exact rfl; exact rfl; exact rfl)
          | ((with_reducible apply wl_gno_u); exact rfl; exact rfl; exact rfl)
          | ((with_reducible apply wl_storen_box); exact rfl; exact rfl; (repeat first | exact .hd | apply Sel.tl | apply In.tl); exact rfl; exact rfl; exact rfl)
          | ((with_reducible apply wl_putn_box); exact rfl; exact rfl; (repeat first | exact .hd | apply Sel.tl | apply In.tl); exact rfl; exact rfl; exact rfl; exact rfl)
          | ((with_reducible apply wl_gsplit) <;> first | exact rfl | (intro hb; (replace hb := Tidy.out hb; try (exfalso; omega))))
          | (with_reducible first | apply wl_nil | apply thn_n | apply w_seq | apply w_region | apply w_ret | apply w_skip | apply w_exit | apply w_block | apply thn_r | apply thn_e | apply blk_n | apply blk_r | apply blk_e)
          | ((with_reducible apply w_cond_true); exact rfl)
          | ((with_reducible apply w_cond_false); exact rfl)
          | ((with_reducible apply w_cond) <;> first | exact rfl | (intro hb; (replace hb := Tidy.out hb; try (exfalso; omega))))
          | ((with_reducible apply blk_x); exact rfl)
          | ((with_reducible apply wl_v); exact rfl; (with_reducible apply v_succN); exact rfl; exact rfl; (simp only [maxLen] at *; omega))
          | ((with_reducible apply wl_v); exact rfl; (with_reducible apply v_1addN); exact rfl; exact rfl; (simp only [maxLen] at *; omega))
          | ((with_reducible apply wl_v); exact rfl; (with_reducible apply v_addN); exact rfl; exact rfl; (simp only [maxLen] at *; omega)))
        refine ⟨r + 1, ?_, (by first | omega | (dsimp only; omega)), (by (repeat (first | exact Sub.nil _ | refine Sub.cons rfl ?_))), (by (repeat (first | exact Sub.nil _ | refine Sub.cons rfl ?_))), (by (repeat (first | exact MSub.nil _ | refine MSub.pick (by (repeat first | exact .hd | apply Sel.tl | apply In.tl)) ?_ | exact MSub.refl _ | refine MSub.drop .hd ?_)))⟩
        exact hr2
  · repeat' (first
      | ((with_reducible apply wl_callp); exact rfl; exact rfl; (intro w' h; exact awake_at w'))
      | ((with_reducible apply wl_v); exact rfl; (first | ((with_reducible apply vop_ok); exact rfl) | ((with_reducible apply v_len); exact rfl) | ((with_reducible apply v_lens); exact rfl) | ((with_reducible apply v_eqlb); exact rfl; exact rfl) | ((with_reducible apply v_neqb); exact rfl; exact rfl) | ((with_reducible apply v_build); exact rfl; exact rfl; exact rfl)))
      | ((with_reducible apply wl_gyes); exact rfl; exact rfl)
      | ((with_reducible apply wl_gno_b); exact rfl; exact rfl; exact rfl; exact rfl)
      | ((with_reducible apply wl_gno_u); exact rfl; exact rfl; exact rfl)
      | ((with_reducible apply wl_storen_box); exact rfl; exact rfl; (repeat first | exact .hd | apply Sel.tl | apply In.tl); exact rfl; exact rfl; exact rfl)
      | ((with_reducible apply wl_putn_box); exact rfl; exact rfl; (repeat first | exact .hd | apply Sel.tl | apply In.tl); exact rfl; exact rfl; exact rfl; exact rfl)
      | ((with_reducible apply wl_gsplit) <;> first | exact rfl | (intro hb; (replace hb := Tidy.out hb; try (exfalso; omega))))
      | (with_reducible first | apply wl_nil | apply thn_n | apply w_seq | apply w_region | apply w_ret | apply w_skip | apply w_exit | apply w_block | apply thn_r | apply thn_e | apply blk_n | apply blk_r | apply blk_e)
      | ((with_reducible apply w_cond_true); exact rfl)
      | ((with_reducible apply w_cond_false); exact rfl)
      | ((with_reducible apply w_cond) <;> first | exact rfl | (intro hb; (replace hb := Tidy.out hb; try (exfalso; omega))))
      | ((with_reducible apply blk_x); exact rfl))
    ((with_reducible apply ret1); exact .inl rfl; exact rfl; exact rfl; exact MSub.nil _)
    rfl
end Go.SL

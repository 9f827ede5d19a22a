/-
  What Uses, Calls and Touches of package refs return.
-/
import Derived.Test.YtfkklicpnoeclaaW28
namespace Go.SL
open Go Go.Proofs
attribute [local irreducible] W WL WQ WG WA VOp thn blk cutP retP FnAt FnIn WLI WR WT endB bodyB assignQ roundQ

theorem usesV_at (A : Option Addr) (m c : Nat) (w : World) : FnAt Try.prog 68 [.slice A m c] w fun v H => ∃ g, v = .func (.func 81) #[] #[.pointer (some ⟨g, 0, none⟩)] ∧ H = [.box g 22 [.slice A m c]] := by
  refine fn_at Try.func68 rfl Try.ntmps68 rfl ?_
  repeat' (first
    | ((with_reducible apply wl_v); exact rfl; (first | ((with_reducible apply vop_ok); exact rfl) | ((with_reducible apply v_makeFunc); exact rfl)))
    | ((with_reducible apply wl_boxs); exact rfl; exact rfl; intro _)
    | ((with_reducible apply wl_box1); exact rfl; exact rfl; exact rfl; intro _)
    | (with_reducible first | apply wl_nil | apply thn_n | apply w_seq | apply w_region | apply w_ret | apply w_skip | apply w_exit | apply w_block | apply thn_r | apply thn_e | apply blk_n | apply blk_r | apply blk_e)
    | ((with_reducible apply w_cond_true); exact rfl)
    | ((with_reducible apply w_cond_false); exact rfl)
    | ((with_reducible apply w_cond) <;> first | exact rfl | (intro hb; (replace hb := Tidy.out hb; try (exfalso; omega))))
    | ((with_reducible apply blk_x); exact rfl))
  refine ret1 (.inl rfl) Try.results68 rfl (MSub.refl _) ?_
  exact ⟨_, rfl, rfl⟩

def usesE (L : List Nd) : List Us × Int := if checkE L ≠ 0 then ([], checkE L) else (usesF L, 0)

theorem usesFrom_len : ∀ (L : List Nd) (i : Nat), (usesFrom L i).length ≤ L.length
  | [], _ => Nat.le_refl _
  | n :: r, i => by
    have := usesFrom_len r (i + 1)
    unfold usesFrom
    cases rangesF n <;> simp <;> omega
theorem usesF_len (L : List Nd) : (usesF L).length ≤ L.length := usesFrom_len L 0
theorem flat_snoc {α : Type} (f : α → List Value) (xs : List α) (x : α) : (xs ++ [x]).flatMap f = xs.flatMap f ++ f x := by simp

set_option maxRecDepth 20000 in
set_option maxHeartbeats 4000000 in
theorem Uses_at (L : List Nd) (tv : Value) (w : World) (ht : Reads w tv L.length (L.flatMap encN)) (hlen : L.length ≤ 1000000) :
    FnAt Try.prog 40 [tv] w fun v H => ∃ A cap, v = .tuple #[sl A (usesE L).1.length cap, .int .i64 (usesE L).2] ∧ H = [.own A 68 6 (usesE L).1.length cap ((usesE L).1.flatMap encU)] := by
  have ht' := ht
  obtain ⟨Al, cl, rfl, hl1, hl2, hl3⟩ := ht
  refine fn_range_at Try.func40 rfl Try.ntmps40 (by rfl) ?_
  have hck := fun w0 (hm : Reads w0 (.slice Al L.length cl) L.length (L.flatMap encN)) => Check_at L _ w0 hm
  unfold usesE
  generalize checkE L = e at hck
  refine wt_seq_r ?_
  refine w_nilrow 68 6 ?_
  repeat' (first
    | ((with_reducible apply wl_callp); exact rfl; exact rfl; (intro w' hm; exact hck w' (ht'.of_w0 hm)))
    | ((with_reducible apply wl_call); exact rfl; exact rfl; (intro w' hm; exact usesV_at _ _ _ w'); (rintro v H' ⟨gu, rfl, rfl⟩))
    | ((with_reducible apply wl_v); exact rfl; (first | ((with_reducible apply vop_ok); exact rfl) | ((with_reducible apply v_load_box); exact rfl; (repeat first | exact .hd | apply Sel.tl | apply In.tl); exact rfl) | ((with_reducible apply v_eqlb); exact rfl; exact rfl) | ((with_reducible apply v_neqb); exact rfl; exact rfl) | ((with_reducible apply v_loadw_box); exact rfl; (repeat first | exact .hd | apply Sel.tl | apply In.tl); exact rfl) | ((with_reducible apply v_loadn_box); exact rfl; (repeat first | exact .hd | apply Sel.tl | apply In.tl); exact rfl; exact rfl)))
    | ((with_reducible apply wr_cond_true); exact rfl)
    | ((with_reducible apply wr_cond_false); exact rfl)
    | ((with_reducible apply wr_cond) <;> first | exact rfl | (intro hb; (replace hb := Tidy.out hb; try (exfalso; omega))))
    | ((with_reducible apply wr_region); exact rfl; (repeat (first | exact roundQ_no | exact assignQ_no | apply no_thn | apply no_blk | apply no_cut)))
    | (with_reducible first | apply wt_seq_s | apply wt_seq_r | apply wt_seq_c | apply wt_seq_b | apply wt_seq_k | apply wt_last_r | apply wt_last_ret | apply wt_last_c | apply end_thn_n | apply end_thn_r)
    | ((with_reducible apply wl_alloc); exact rfl; intro _)
    | ((with_reducible apply wl_storen_box); exact rfl; exact rfl; (repeat first | exact .hd | apply Sel.tl | apply In.tl); exact rfl; exact rfl; exact rfl)
    | ((with_reducible apply wl_putn_box); exact rfl; exact rfl; (repeat first | exact .hd | apply Sel.tl | apply In.tl); exact rfl; exact rfl; exact rfl; exact rfl)
    | ((with_reducible apply wl_buildSlice); exact rfl; exact rfl; exact rfl; exact rfl; exact rfl; exact rfl; exact rfl; intro _)
    | (with_reducible first | apply wl_nil | apply thn_n | apply w_seq | apply w_region | apply w_ret | apply w_skip | apply w_exit | apply w_block | apply thn_r | apply thn_e | apply blk_n | apply blk_r | apply blk_e | apply wr_seq | apply wr_ret | apply wr_exit | apply wr_skip | apply wr_block)
    | ((with_reducible apply w_cond_true); exact rfl)
    | ((with_reducible apply w_cond_false); exact rfl)
    | ((with_reducible apply w_cond) <;> first | exact rfl | (intro hb; (replace hb := Tidy.out hb; try (exfalso; omega))))
    | ((with_reducible apply blk_x); exact rfl))
  · refine end_ret ?_
    refine ret2 (.inl rfl) Try.results40 rfl rfl (H' := [.own none 68 6 0 0 []]) (by (repeat (first | exact MSub.nil _ | refine MSub.pick (by (repeat first | exact .hd | apply Sel.tl | apply In.tl)) ?_ | exact MSub.refl _ | refine MSub.drop .hd ?_))) ⟨none, 0, ?_⟩
    rw [if_pos hb]
    exact ⟨rfl, rfl⟩
  rename_i gb
  rw [if_neg hb]
  have hul := usesF_len L
  refine wt_range (ps := [14]) (us := usesF L) (encs := fun u => [.agg (encU u).toArray]) (Hc := [.box gu 22 [.slice Al L.length cl]]) (HU0 := [.box gb 62 [.slice none 0 0], .own none 68 6 0 0 []]) rfl (fun _ => rfl) rfl (uses_seq L _ w ht' hlen gu)
    (fun pre HU => ∃ A cap, HU = [.box gb 62 [sl A pre.length cap], .own A 68 6 pre.length cap (pre.flatMap encU)]) (fun _ => False) ?_ ⟨none, 0, rfl⟩ ?_ ?_ ?_
  · (repeat (first | exact MSub.nil _ | refine MSub.pick (by (repeat first | exact .hd | apply Sel.tl | apply In.tl)) ?_ | exact MSub.refl _ | refine MSub.drop .hd ?_))
  · rintro l pre u post hus _ ⟨A, cap, rfl⟩ F F'
    have hlu := congrArg List.length hus
    simp only [List.length_append, List.length_cons] at hlu
    change WR _ _ _ l _ _ ((14, Value.agg (encU u).toArray) :: _) (.box gb 62 [sl A pre.length cap] :: .own A 68 6 pre.length cap (pre.flatMap encU) :: F)
    repeat' (first
      | ((with_reducible apply wl_v); exact rfl; (first | ((with_reducible apply vop_ok); exact rfl) | ((with_reducible apply v_load_box); exact rfl; (repeat first | exact .hd | apply Sel.tl | apply In.tl); exact rfl) | ((with_reducible apply v_eqlb); exact rfl; exact rfl) | ((with_reducible apply v_neqb); exact rfl; exact rfl) | ((with_reducible apply v_loadw_box); exact rfl; (repeat first | exact .hd | apply Sel.tl | apply In.tl); exact rfl) | ((with_reducible apply v_loadn_box); exact rfl; (repeat first | exact .hd | apply Sel.tl | apply In.tl); exact rfl; exact rfl)))
      | ((with_reducible apply wr_cond_true); exact rfl)
      | ((with_reducible apply wr_cond_false); exact rfl)
      | ((with_reducible apply wr_cond) <;> first | exact rfl | (intro hb; (replace hb := Tidy.out hb; try (exfalso; omega))))
      | ((with_reducible apply wr_region); exact rfl; (repeat (first | exact roundQ_no | exact assignQ_no | apply no_thn | apply no_blk | apply no_cut)))
      | (with_reducible first | apply wt_seq_s | apply wt_seq_r | apply wt_seq_c | apply wt_seq_b | apply wt_seq_k | apply wt_last_r | apply wt_last_ret | apply wt_last_c | apply end_thn_n | apply end_thn_r)
      | ((with_reducible apply wl_alloc); exact rfl; intro _)
      | ((with_reducible apply wl_storen_box); exact rfl; exact rfl; (repeat first | exact .hd | apply Sel.tl | apply In.tl); exact rfl; exact rfl; exact rfl)
      | ((with_reducible apply wl_putn_box); exact rfl; exact rfl; (repeat first | exact .hd | apply Sel.tl | apply In.tl); exact rfl; exact rfl; exact rfl; exact rfl)
      | ((with_reducible apply wl_buildSlice); exact rfl; exact rfl; exact rfl; exact rfl; exact rfl; exact rfl; exact rfl; intro _)
      | (with_reducible first | apply wl_nil | apply thn_n | apply w_seq | apply w_region | apply w_ret | apply w_skip | apply w_exit | apply w_block | apply thn_r | apply thn_e | apply blk_n | apply blk_r | apply blk_e | apply wr_seq | apply wr_ret | apply wr_exit | apply wr_skip | apply wr_block)
      | ((with_reducible apply w_cond_true); exact rfl)
      | ((with_reducible apply w_cond_false); exact rfl)
      | ((with_reducible apply w_cond) <;> first | exact rfl | (intro hb; (replace hb := Tidy.out hb; try (exfalso; omega))))
      | ((with_reducible apply blk_x); exact rfl))
    rename_i g6
    refine assign_n ⟨[.box g6 68 (encU u), .box gb 62 [sl A pre.length cap], .own A 68 6 pre.length cap (pre.flatMap encU)], MSub.refl _, ?_⟩
    change WR _ _ _ l _ _ _ (.box g6 68 (encU u) :: .box gb 62 [sl A pre.length cap] :: .own A 68 6 pre.length cap (pre.flatMap encU) :: F')
    repeat' (first
      | ((with_reducible apply wl_append); exact rfl; exact rfl; exact rfl; (repeat first | exact .hd | apply Sel.tl | apply In.tl); (intro w hm; exact hm.cells_own (by (repeat first | exact .hd | apply Sel.tl | apply In.tl))); exact rfl; (simp [Value.oneCell', sl]); omega; (simp only [maxLen]; omega); (intro A' cap' hA'))
      | ((with_reducible apply wl_v); exact rfl; (first | ((with_reducible apply vop_ok); exact rfl) | ((with_reducible apply v_load_box); exact rfl; (repeat first | exact .hd | apply Sel.tl | apply In.tl); exact rfl) | ((with_reducible apply v_eqlb); exact rfl; exact rfl) | ((with_reducible apply v_neqb); exact rfl; exact rfl) | ((with_reducible apply v_loadw_box); exact rfl; (repeat first | exact .hd | apply Sel.tl | apply In.tl); exact rfl) | ((with_reducible apply v_loadn_box); exact rfl; (repeat first | exact .hd | apply Sel.tl | apply In.tl); exact rfl; exact rfl)))
      | ((with_reducible apply wr_cond_true); exact rfl)
      | ((with_reducible apply wr_cond_false); exact rfl)
      | ((with_reducible apply wr_cond) <;> first | exact rfl | (intro hb; (replace hb := Tidy.out hb; try (exfalso; omega))))
      | ((with_reducible apply wr_region); exact rfl; (repeat (first | exact roundQ_no | exact assignQ_no | apply no_thn | apply no_blk | apply no_cut)))
      | (with_reducible first | apply wt_seq_s | apply wt_seq_r | apply wt_seq_c | apply wt_seq_b | apply wt_seq_k | apply wt_last_r | apply wt_last_ret | apply wt_last_c | apply end_thn_n | apply end_thn_r)
      | ((with_reducible apply wl_alloc); exact rfl; intro _)
      | ((with_reducible apply wl_storen_box); exact rfl; exact rfl; (repeat first | exact .hd | apply Sel.tl | apply In.tl); exact rfl; exact rfl; exact rfl)
      | ((with_reducible apply wl_putn_box); exact rfl; exact rfl; (repeat first | exact .hd | apply Sel.tl | apply In.tl); exact rfl; exact rfl; exact rfl; exact rfl)
      | ((with_reducible apply wl_buildSlice); exact rfl; exact rfl; exact rfl; exact rfl; exact rfl; exact rfl; exact rfl; intro _)
      | (with_reducible first | apply wl_nil | apply thn_n | apply w_seq | apply w_region | apply w_ret | apply w_skip | apply w_exit | apply w_block | apply thn_r | apply thn_e | apply blk_n | apply blk_r | apply blk_e | apply wr_seq | apply wr_ret | apply wr_exit | apply wr_skip | apply wr_block)
      | ((with_reducible apply w_cond_true); exact rfl)
      | ((with_reducible apply w_cond_false); exact rfl)
      | ((with_reducible apply w_cond) <;> first | exact rfl | (intro hb; (replace hb := Tidy.out hb; try (exfalso; omega))))
      | ((with_reducible apply blk_x); exact rfl))
    refine round_n [.box gb 62 [sl A' (pre.length + 1) cap'], .own A' 68 6 (pre.length + 1) cap' (pre.flatMap encU ++ encU u)] ?_ ⟨A', cap', ?_⟩
    · change MSub (_ :: _ :: F') _
      (repeat (first | exact MSub.nil _ | refine MSub.pick (by (repeat first | exact .hd | apply Sel.tl | apply In.tl)) ?_ | exact MSub.refl _ | refine MSub.drop .hd ?_))
    · rw [flat_snoc, List.length_append]
      rfl
  · rintro D _ ⟨A, cap, rfl⟩
    change endB _ _ _ _ _ (dObj D :: .box gb 62 [sl A (usesF L).length cap] :: .own A 68 6 (usesF L).length cap ((usesF L).flatMap encU) :: _)
    repeat' (first
      | ((with_reducible apply wl_v); exact rfl; (first | ((with_reducible apply vop_ok); exact rfl) | ((with_reducible apply v_load_box); exact rfl; (repeat first | exact .hd | apply Sel.tl | apply In.tl); exact rfl) | ((with_reducible apply v_eqlb); exact rfl; exact rfl) | ((with_reducible apply v_neqb); exact rfl; exact rfl) | ((with_reducible apply v_loadw_box); exact rfl; (repeat first | exact .hd | apply Sel.tl | apply In.tl); exact rfl) | ((with_reducible apply v_loadn_box); exact rfl; (repeat first | exact .hd | apply Sel.tl | apply In.tl); exact rfl; exact rfl)))
      | ((with_reducible apply wr_cond_true); exact rfl)
      | ((with_reducible apply wr_cond_false); exact rfl)
      | ((with_reducible apply wr_cond) <;> first | exact rfl | (intro hb; (replace hb := Tidy.out hb; try (exfalso; omega))))
      | ((with_reducible apply wr_region); exact rfl; (repeat (first | exact roundQ_no | exact assignQ_no | apply no_thn | apply no_blk | apply no_cut)))
      | (with_reducible first | apply wt_seq_s | apply wt_seq_r | apply wt_seq_c | apply wt_seq_b | apply wt_seq_k | apply wt_last_r | apply wt_last_ret | apply wt_last_c | apply end_thn_n | apply end_thn_r)
      | ((with_reducible apply wl_alloc); exact rfl; intro _)
      | ((with_reducible apply wl_storen_box); exact rfl; exact rfl; (repeat first | exact .hd | apply Sel.tl | apply In.tl); exact rfl; exact rfl; exact rfl)
      | ((with_reducible apply wl_putn_box); exact rfl; exact rfl; (repeat first | exact .hd | apply Sel.tl | apply In.tl); exact rfl; exact rfl; exact rfl; exact rfl)
      | ((with_reducible apply wl_buildSlice); exact rfl; exact rfl; exact rfl; exact rfl; exact rfl; exact rfl; exact rfl; intro _)
      | (with_reducible first | apply wl_nil | apply thn_n | apply w_seq | apply w_region | apply w_ret | apply w_skip | apply w_exit | apply w_block | apply thn_r | apply thn_e | apply blk_n | apply blk_r | apply blk_e | apply wr_seq | apply wr_ret | apply wr_exit | apply wr_skip | apply wr_block)
      | ((with_reducible apply w_cond_true); exact rfl)
      | ((with_reducible apply w_cond_false); exact rfl)
      | ((with_reducible apply w_cond) <;> first | exact rfl | (intro hb; (replace hb := Tidy.out hb; try (exfalso; omega))))
      | ((with_reducible apply blk_x); exact rfl))
    refine end_mark .hd ?_
    refine ret2 (.inl rfl) Try.results40 rfl rfl (H' := [.own A 68 6 (usesF L).length cap ((usesF L).flatMap encU)]) (by (repeat (first | exact MSub.nil _ | refine MSub.pick (by (repeat first | exact .hd | apply Sel.tl | apply In.tl)) ?_ | exact MSub.refl _ | refine MSub.drop .hd ?_))) ⟨A, cap, rfl, rfl⟩
  · rintro D HU h
    exact h.elim

def rel (u : Us) : Bool := decide (0 ≤ u.node)
def callsE (L : List Nd) : List Us × Int := if checkE L ≠ 0 then ([], checkE L) else ((usesF L).filter rel, 0)

set_option maxRecDepth 20000 in
set_option maxHeartbeats 4000000 in
theorem Calls_at (L : List Nd) (tv : Value) (w : World) (ht : Reads w tv L.length (L.flatMap encN)) (hlen : L.length ≤ 1000000) :
    FnAt Try.prog 42 [tv] w fun v H => ∃ A cap, v = .tuple #[sl A (callsE L).1.length cap, .int .i64 (callsE L).2] ∧ H = [.own A 68 6 (callsE L).1.length cap ((callsE L).1.flatMap encU)] := by
  have ht' := ht
  obtain ⟨Al, cl, rfl, hl1, hl2, hl3⟩ := ht
  refine fn_range_at Try.func42 rfl Try.ntmps42 (by rfl) ?_
  have hck := fun w0 (hm : Reads w0 (.slice Al L.length cl) L.length (L.flatMap encN)) => Check_at L _ w0 hm
  unfold callsE
  generalize checkE L = e at hck
  refine wt_seq_r ?_
  refine w_nilrow 68 6 ?_
  repeat' (first
    | ((with_reducible apply wl_callp); exact rfl; exact rfl; (intro w' hm; exact hck w' (ht'.of_w0 hm)))
    | ((with_reducible apply wl_call); exact rfl; exact rfl; (intro w' hm; exact usesV_at _ _ _ w'); (rintro v H' ⟨gu, rfl, rfl⟩))
    | ((with_reducible apply wl_v); exact rfl; (first | ((with_reducible apply vop_ok); exact rfl) | ((with_reducible apply v_fieldAddr); exact rfl) | ((with_reducible apply v_load_box); exact rfl; (repeat first | exact .hd | apply Sel.tl | apply In.tl); exact rfl) | ((with_reducible apply v_eqlb); exact rfl; exact rfl) | ((with_reducible apply v_neqb); exact rfl; exact rfl) | ((with_reducible apply v_loadw_box); exact rfl; (repeat first | exact .hd | apply Sel.tl | apply In.tl); exact rfl) | ((with_reducible apply v_loadn_box); exact rfl; (repeat first | exact .hd | apply Sel.tl | apply In.tl); exact rfl; exact rfl)))
    | ((with_reducible apply wr_cond_true); exact rfl)
    | ((with_reducible apply wr_cond_false); exact rfl)
    | ((with_reducible apply wr_cond) <;> first | exact rfl | (intro hb; (replace hb := Tidy.out hb; try (exfalso; omega))))
    | ((with_reducible apply wr_region); exact rfl; (repeat (first | exact roundQ_no | exact assignQ_no | apply no_thn | apply no_blk | apply no_cut)))
    | (with_reducible first | apply wt_seq_s | apply wt_seq_r | apply wt_seq_c | apply wt_seq_b | apply wt_seq_k | apply wt_last_r | apply wt_last_ret | apply wt_last_c | apply end_thn_n | apply end_thn_r)
    | ((with_reducible apply wl_alloc); exact rfl; intro _)
    | ((with_reducible apply wl_storen_box); exact rfl; exact rfl; (repeat first | exact .hd | apply Sel.tl | apply In.tl); exact rfl; exact rfl; exact rfl)
    | ((with_reducible apply wl_putn_box); exact rfl; exact rfl; (repeat first | exact .hd | apply Sel.tl | apply In.tl); exact rfl; exact rfl; exact rfl; exact rfl)
    | ((with_reducible apply wl_buildSlice); exact rfl; exact rfl; exact rfl; exact rfl; exact rfl; exact rfl; exact rfl; intro _)
    | (with_reducible first | apply wl_nil | apply thn_n | apply w_seq | apply w_region | apply w_ret | apply w_skip | apply w_exit | apply w_block | apply thn_r | apply thn_e | apply blk_n | apply blk_r | apply blk_e | apply wr_seq | apply wr_ret | apply wr_exit | apply wr_skip | apply wr_block)
    | ((with_reducible apply w_cond_true); exact rfl)
    | ((with_reducible apply w_cond_false); exact rfl)
    | ((with_reducible apply w_cond) <;> first | exact rfl | (intro hb; (replace hb := Tidy.out hb; try (exfalso; omega))))
    | ((with_reducible apply blk_x); exact rfl))
  · refine end_ret ?_
    refine ret2 (.inl rfl) Try.results42 rfl rfl (H' := [.own none 68 6 0 0 []]) (by (repeat (first | exact MSub.nil _ | refine MSub.pick (by (repeat first | exact .hd | apply Sel.tl | apply In.tl)) ?_ | exact MSub.refl _ | refine MSub.drop .hd ?_))) ⟨none, 0, ?_⟩
    rw [if_pos hb]
    exact ⟨rfl, rfl⟩
  rename_i gb
  rw [if_neg hb]
  have hul := usesF_len L
  refine wt_range (ps := [14]) (us := usesF L) (encs := fun u => [.agg (encU u).toArray]) (Hc := [.box gu 22 [.slice Al L.length cl]]) (HU0 := [.box gb 62 [.slice none 0 0], .own none 68 6 0 0 []]) rfl (fun _ => rfl) rfl (uses_seq L _ w ht' hlen gu)
    (fun pre HU => ∃ A cap, HU = [.box gb 62 [sl A (pre.filter rel).length cap], .own A 68 6 (pre.filter rel).length cap ((pre.filter rel).flatMap encU)]) (fun _ => False) ?_ ⟨none, 0, rfl⟩ ?_ ?_ ?_
  · (repeat (first | exact MSub.nil _ | refine MSub.pick (by (repeat first | exact .hd | apply Sel.tl | apply In.tl)) ?_ | exact MSub.refl _ | refine MSub.drop .hd ?_))
  · rintro l pre u post hus _ ⟨A, cap, rfl⟩ F F'
    have hlu := congrArg List.length hus
    simp only [List.length_append, List.length_cons] at hlu
    have hfl := List.length_filter_le rel pre
    have hsn : (pre ++ [u]).filter rel = if 0 ≤ u.node then pre.filter rel ++ [u] else pre.filter rel := by
      rw [List.filter_append]
      by_cases h : 0 ≤ u.node <;> simp [List.filter, rel, h]
    generalize hpf : pre.filter rel = pf at hfl hsn
    change WR _ _ _ l _ _ ((14, Value.agg (encU u).toArray) :: _) (.box gb 62 [sl A pf.length cap] :: .own A 68 6 pf.length cap (pf.flatMap encU) :: F)
    repeat' (first
      | ((with_reducible apply wl_v); exact rfl; (first | ((with_reducible apply vop_ok); exact rfl) | ((with_reducible apply v_fieldAddr); exact rfl) | ((with_reducible apply v_load_box); exact rfl; (repeat first | exact .hd | apply Sel.tl | apply In.tl); exact rfl) | ((with_reducible apply v_eqlb); exact rfl; exact rfl) | ((with_reducible apply v_neqb); exact rfl; exact rfl) | ((with_reducible apply v_loadw_box); exact rfl; (repeat first | exact .hd | apply Sel.tl | apply In.tl); exact rfl) | ((with_reducible apply v_loadn_box); exact rfl; (repeat first | exact .hd | apply Sel.tl | apply In.tl); exact rfl; exact rfl)))
      | ((with_reducible apply wr_cond_true); exact rfl)
      | ((with_reducible apply wr_cond_false); exact rfl)
      | ((with_reducible apply wr_cond) <;> first | exact rfl | (intro hb; (replace hb := Tidy.out hb; try (exfalso; omega))))
      | ((with_reducible apply wr_region); exact rfl; (repeat (first | exact roundQ_no | exact assignQ_no | apply no_thn | apply no_blk | apply no_cut)))
      | (with_reducible first | apply wt_seq_s | apply wt_seq_r | apply wt_seq_c | apply wt_seq_b | apply wt_seq_k | apply wt_last_r | apply wt_last_ret | apply wt_last_c | apply end_thn_n | apply end_thn_r)
      | ((with_reducible apply wl_alloc); exact rfl; intro _)
      | ((with_reducible apply wl_storen_box); exact rfl; exact rfl; (repeat first | exact .hd | apply Sel.tl | apply In.tl); exact rfl; exact rfl; exact rfl)
      | ((with_reducible apply wl_putn_box); exact rfl; exact rfl; (repeat first | exact .hd | apply Sel.tl | apply In.tl); exact rfl; exact rfl; exact rfl; exact rfl)
      | ((with_reducible apply wl_buildSlice); exact rfl; exact rfl; exact rfl; exact rfl; exact rfl; exact rfl; exact rfl; intro _)
      | (with_reducible first | apply wl_nil | apply thn_n | apply w_seq | apply w_region | apply w_ret | apply w_skip | apply w_exit | apply w_block | apply thn_r | apply thn_e | apply blk_n | apply blk_r | apply blk_e | apply wr_seq | apply wr_ret | apply wr_exit | apply wr_skip | apply wr_block)
      | ((with_reducible apply w_cond_true); exact rfl)
      | ((with_reducible apply w_cond_false); exact rfl)
      | ((with_reducible apply w_cond) <;> first | exact rfl | (intro hb; (replace hb := Tidy.out hb; try (exfalso; omega))))
      | ((with_reducible apply blk_x); exact rfl))
    rename_i g6
    refine assign_n ⟨[.box g6 68 (encU u), .box gb 62 [sl A pf.length cap], .own A 68 6 pf.length cap (pf.flatMap encU)], MSub.refl _, ?_⟩
    change WR _ _ _ l _ _ _ (.box g6 68 (encU u) :: .box gb 62 [sl A pf.length cap] :: .own A 68 6 pf.length cap (pf.flatMap encU) :: F')
    repeat' (first
      | ((with_reducible apply wl_append); exact rfl; exact rfl; exact rfl; (repeat first | exact .hd | apply Sel.tl | apply In.tl); (intro w hm; exact hm.cells_own (by (repeat first | exact .hd | apply Sel.tl | apply In.tl))); exact rfl; (simp [Value.oneCell', sl]); omega; (simp only [maxLen]; omega); (intro A' cap' hA'))
      | ((with_reducible apply wl_v); exact rfl; (first | ((with_reducible apply vop_ok); exact rfl) | ((with_reducible apply v_fieldAddr); exact rfl) | ((with_reducible apply v_load_box); exact rfl; (repeat first | exact .hd | apply Sel.tl | apply In.tl); exact rfl) | ((with_reducible apply v_eqlb); exact rfl; exact rfl) | ((with_reducible apply v_neqb); exact rfl; exact rfl) | ((with_reducible apply v_loadw_box); exact rfl; (repeat first | exact .hd | apply Sel.tl | apply In.tl); exact rfl) | ((with_reducible apply v_loadn_box); exact rfl; (repeat first | exact .hd | apply Sel.tl | apply In.tl); exact rfl; exact rfl)))
      | ((with_reducible apply wr_cond_true); exact rfl)
      | ((with_reducible apply wr_cond_false); exact rfl)
      | ((with_reducible apply wr_cond) <;> first | exact rfl | (intro hb; (replace hb := Tidy.out hb; try (exfalso; omega))))
      | ((with_reducible apply wr_region); exact rfl; (repeat (first | exact roundQ_no | exact assignQ_no | apply no_thn | apply no_blk | apply no_cut)))
      | (with_reducible first | apply wt_seq_s | apply wt_seq_r | apply wt_seq_c | apply wt_seq_b | apply wt_seq_k | apply wt_last_r | apply wt_last_ret | apply wt_last_c | apply end_thn_n | apply end_thn_r)
      | ((with_reducible apply wl_alloc); exact rfl; intro _)
      | ((with_reducible apply wl_storen_box); exact rfl; exact rfl; (repeat first | exact .hd | apply Sel.tl | apply In.tl); exact rfl; exact rfl; exact rfl)
      | ((with_reducible apply wl_putn_box); exact rfl; exact rfl; (repeat first | exact .hd | apply Sel.tl | apply In.tl); exact rfl; exact rfl; exact rfl; exact rfl)
      | ((with_reducible apply wl_buildSlice); exact rfl; exact rfl; exact rfl; exact rfl; exact rfl; exact rfl; exact rfl; intro _)
      | (with_reducible first | apply wl_nil | apply thn_n | apply w_seq | apply w_region | apply w_ret | apply w_skip | apply w_exit | apply w_block | apply thn_r | apply thn_e | apply blk_n | apply blk_r | apply blk_e | apply wr_seq | apply wr_ret | apply wr_exit | apply wr_skip | apply wr_block)
      | ((with_reducible apply w_cond_true); exact rfl)
      | ((with_reducible apply w_cond_false); exact rfl)
      | ((with_reducible apply w_cond) <;> first | exact rfl | (intro hb; (replace hb := Tidy.out hb; try (exfalso; omega))))
      | ((with_reducible apply blk_x); exact rfl))
    · rw [if_pos hb] at hsn
      refine round_n [.box gb 62 [sl A' (pf.length + 1) cap'], .own A' 68 6 (pf.length + 1) cap' (pf.flatMap encU ++ encU u)] ?_ ⟨A', cap', ?_⟩
      · change MSub (_ :: _ :: F') _
        (repeat (first | exact MSub.nil _ | refine MSub.pick (by (repeat first | exact .hd | apply Sel.tl | apply In.tl)) ?_ | exact MSub.refl _ | refine MSub.drop .hd ?_))
      · rw [hsn, flat_snoc, List.length_append]
        rfl
    · rw [if_neg (by omega)] at hsn
      refine round_n [.box gb 62 [sl A pf.length cap], .own A 68 6 pf.length cap (pf.flatMap encU)] ?_ ⟨A, cap, by rw [hsn]⟩
      change MSub (_ :: _ :: F') _
      (repeat (first | exact MSub.nil _ | refine MSub.pick (by (repeat first | exact .hd | apply Sel.tl | apply In.tl)) ?_ | exact MSub.refl _ | refine MSub.drop .hd ?_))
  · rintro D _ ⟨A, cap, rfl⟩
    change endB _ _ _ _ _ (dObj D :: .box gb 62 [sl A ((usesF L).filter rel).length cap] :: .own A 68 6 ((usesF L).filter rel).length cap (((usesF L).filter rel).flatMap encU) :: _)
    repeat' (first
      | ((with_reducible apply wl_v); exact rfl; (first | ((with_reducible apply vop_ok); exact rfl) | ((with_reducible apply v_fieldAddr); exact rfl) | ((with_reducible apply v_load_box); exact rfl; (repeat first | exact .hd | apply Sel.tl | apply In.tl); exact rfl) | ((with_reducible apply v_eqlb); exact rfl; exact rfl) | ((with_reducible apply v_neqb); exact rfl; exact rfl) | ((with_reducible apply v_loadw_box); exact rfl; (repeat first | exact .hd | apply Sel.tl | apply In.tl); exact rfl) | ((with_reducible apply v_loadn_box); exact rfl; (repeat first | exact .hd | apply Sel.tl | apply In.tl); exact rfl; exact rfl)))
      | ((with_reducible apply wr_cond_true); exact rfl)
      | ((with_reducible apply wr_cond_false); exact rfl)
      | ((with_reducible apply wr_cond) <;> first | exact rfl | (intro hb; (replace hb := Tidy.out hb; try (exfalso; omega))))
      | ((with_reducible apply wr_region); exact rfl; (repeat (first | exact roundQ_no | exact assignQ_no | apply no_thn | apply no_blk | apply no_cut)))
      | (with_reducible first | apply wt_seq_s | apply wt_seq_r | apply wt_seq_c | apply wt_seq_b | apply wt_seq_k | apply wt_last_r | apply wt_last_ret | apply wt_last_c | apply end_thn_n | apply end_thn_r)
      | ((with_reducible apply wl_alloc); exact rfl; intro _)
      | ((with_reducible apply wl_storen_box); exact rfl; exact rfl; (repeat first | exact .hd | apply Sel.tl | apply In.tl); exact rfl; exact rfl; exact rfl)
      | ((with_reducible apply wl_putn_box); exact rfl; exact rfl; (repeat first | exact .hd | apply Sel.tl | apply In.tl); exact rfl; exact rfl; exact rfl; exact rfl)
      | ((with_reducible apply wl_buildSlice); exact rfl; exact rfl; exact rfl; exact rfl; exact rfl; exact rfl; exact rfl; intro _)
      | (with_reducible first | apply wl_nil | apply thn_n | apply w_seq | apply w_region | apply w_ret | apply w_skip | apply w_exit | apply w_block | apply thn_r | apply thn_e | apply blk_n | apply blk_r | apply blk_e | apply wr_seq | apply wr_ret | apply wr_exit | apply wr_skip | apply wr_block)
      | ((with_reducible apply w_cond_true); exact rfl)
      | ((with_reducible apply w_cond_false); exact rfl)
      | ((with_reducible apply w_cond) <;> first | exact rfl | (intro hb; (replace hb := Tidy.out hb; try (exfalso; omega))))
      | ((with_reducible apply blk_x); exact rfl))
    refine end_mark .hd ?_
    refine ret2 (.inl rfl) Try.results42 rfl rfl (H' := [.own A 68 6 ((usesF L).filter rel).length cap (((usesF L).filter rel).flatMap encU)]) (by (repeat (first | exact MSub.nil _ | refine MSub.pick (by (repeat first | exact .hd | apply Sel.tl | apply In.tl)) ?_ | exact MSub.refl _ | refine MSub.drop .hd ?_))) ⟨A, cap, rfl, rfl⟩
  · rintro D HU h
    exact h.elim
end Go.SL

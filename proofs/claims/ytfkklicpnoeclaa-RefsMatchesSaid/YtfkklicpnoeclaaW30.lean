/-
  What Touches of package refs returns.
-/
import Derived.Test.YtfkklicpnoeclaaW29
namespace Go.SL
open Go Go.Proofs
attribute [local irreducible] W WL WQ WG WA VOp thn blk cutP retP FnAt FnIn WLI WR WT endB bodyB assignQ roundQ

def touch (r : Rct) (u : Us) : Bool := (meetR u.rect r).2
def touchesE (L : List Nd) (r : Rct) : Bool × Int := if checkE L ≠ 0 then (false, checkE L) else if rectE r ≠ 0 then (false, rectE r) else ((usesF L).any (touch r), 0)

set_option maxRecDepth 20000 in
set_option maxHeartbeats 4000000 in
theorem Touches_at (L : List Nd) (r : Rct) (tv : Value) (w : World) (ht : Reads w tv L.length (L.flatMap encN)) (hlen : L.length ≤ 1000000) :
    Pure Try.prog 44 [tv, .agg (encR r).toArray] w (.tuple #[.bool (touchesE L r).1, .int .i64 (touchesE L r).2]) := by
  have ht' := ht
  obtain ⟨Al, cl, rfl, hl1, hl2, hl3⟩ := ht
  refine fn_range_at Try.func44 rfl Try.ntmps44 (by rfl) ?_
  have hck := fun w0 (hm : Reads w0 (.slice Al L.length cl) L.length (L.flatMap encN)) => Check_at L _ w0 hm
  have hrc := fun w0 => rect_at r w0
  unfold touchesE
  generalize checkE L = e at hck
  generalize rectE r = re at hrc
  repeat' (first
    | ((with_reducible apply wl_callp); exact rfl; exact rfl; (intro w' hm; exact hck w' (ht'.of_w0 hm)))
    | ((with_reducible apply wl_callp); exact rfl; exact rfl; (intro w hm; exact hrc w))
    | ((with_reducible apply wl_call); exact rfl; exact rfl; (intro w' hm; exact usesV_at _ _ _ w'); (rintro v H' ⟨gu, rfl, rfl⟩))
    | ((with_reducible apply wl_v); exact rfl; (first | ((with_reducible apply vop_ok); exact rfl) | ((with_reducible apply v_fieldAddr); exact rfl) | ((with_reducible apply v_load_box); exact rfl; (repeat first | exact .hd | apply Sel.tl | apply In.tl); exact rfl) | ((with_reducible apply v_eqlb); exact rfl; exact rfl) | ((with_reducible apply v_neqb); exact rfl; exact rfl) | ((with_reducible apply v_loadw_box); exact rfl; (repeat first | exact .hd | apply Sel.tl | apply In.tl); exact rfl) | ((with_reducible apply v_loadn_box); exact rfl; (repeat first | exact .hd | apply Sel.tl | apply In.tl); exact rfl; exact rfl)))
    | ((with_reducible apply wr_cond_true); exact rfl)
    | ((with_reducible apply wr_cond_false); exact rfl)
    | ((with_reducible apply wr_cond) <;> first | exact rfl | (intro hb; (replace hb := Tidy.out hb; try (exfalso; omega))))
    | ((with_reducible apply wr_region); exact rfl; (repeat (first | exact roundQ_no | exact assignQ_no | apply no_thn | apply no_blk | apply no_cut)))
    | (with_reducible first | apply wt_seq_s | apply wt_seq_r | apply wt_seq_c | apply wt_seq_b | apply wt_seq_k | apply wt_last_r | apply wt_last_ret | apply wt_last_c | apply end_thn_n | apply end_thn_r)
    | ((with_reducible apply wl_boxs); exact rfl; exact rfl; intro _)
    | ((with_reducible apply wl_box1); exact rfl; exact rfl; exact rfl; intro _)
    | ((with_reducible apply wl_alloc); exact rfl; intro _)
    | ((with_reducible apply wl_storen_box); exact rfl; exact rfl; (repeat first | exact .hd | apply Sel.tl | apply In.tl); exact rfl; exact rfl; exact rfl)
    | ((with_reducible apply wl_putn_box); exact rfl; exact rfl; (repeat first | exact .hd | apply Sel.tl | apply In.tl); exact rfl; exact rfl; exact rfl; exact rfl)
    | (with_reducible first | apply wl_nil | apply thn_n | apply w_seq | apply w_region | apply w_ret | apply w_skip | apply w_exit | apply w_block | apply thn_r | apply thn_e | apply blk_n | apply blk_r | apply blk_e | apply wr_seq | apply wr_ret | apply wr_exit | apply wr_skip | apply wr_block)
    | ((with_reducible apply w_cond_true); exact rfl)
    | ((with_reducible apply w_cond_false); exact rfl)
    | ((with_reducible apply w_cond) <;> first | exact rfl | (intro hb; (replace hb := Tidy.out hb; try (exfalso; omega))))
    | ((with_reducible apply blk_x); exact rfl))
  · refine end_ret ?_
    refine ret11 (.inl rfl) Try.results44 rfl rfl (by (repeat first | exact .hd | apply Sel.tl | apply In.tl)) (by (repeat first | exact .hd | apply Sel.tl | apply In.tl)) (MSub.nil _) ?_
    rw [if_pos (by assumption)]
  · refine end_ret ?_
    refine ret11 (.inl rfl) Try.results44 rfl rfl (by (repeat first | exact .hd | apply Sel.tl | apply In.tl)) (by (repeat first | exact .hd | apply Sel.tl | apply In.tl)) (MSub.nil _) ?_
    rw [if_neg (by assumption), if_pos (by assumption)]
  rename_i g3 g4 g5 hb1
  rw [if_neg (by assumption), if_neg (by assumption)]
  refine wt_range (ps := [23]) (us := usesF L) (encs := fun u => [.agg (encU u).toArray]) (Hc := [.box gu 22 [.slice Al L.length cl]]) (HU0 := [.box g4 4 [.bool false], .box g5 24 [.int .i64 0], .box g3 38 (encR r)]) rfl (fun _ => rfl) rfl (uses_seq L _ w ht' hlen gu)
    (fun pre HU => HU = [.box g4 4 [.bool false], .box g5 24 [.int .i64 0], .box g3 38 (encR r)] ∧ pre.any (touch r) = false) (fun HU => HU = [.box g4 4 [.bool true], .box g5 24 [.int .i64 0], .box g3 38 (encR r)] ∧ (usesF L).any (touch r) = true) ?_ ⟨rfl, rfl⟩ ?_ ?_ ?_
  · (repeat (first | exact MSub.nil _ | refine MSub.pick (by (repeat first | exact .hd | apply Sel.tl | apply In.tl)) ?_ | exact MSub.refl _ | refine MSub.drop .hd ?_))
  · rintro l pre u post hus _ ⟨rfl, hpre⟩ F F'
    change WR _ _ _ l _ _ ((23, Value.agg (encU u).toArray) :: _) (.box g4 4 [.bool false] :: .box g5 24 [.int .i64 0] :: .box g3 38 (encR r) :: F)
    repeat' (first
      | ((with_reducible apply wl_v); exact rfl; (first | ((with_reducible apply vop_ok); exact rfl) | ((with_reducible apply v_fieldAddr); exact rfl) | ((with_reducible apply v_load_box); exact rfl; (repeat first | exact .hd | apply Sel.tl | apply In.tl); exact rfl) | ((with_reducible apply v_eqlb); exact rfl; exact rfl) | ((with_reducible apply v_neqb); exact rfl; exact rfl) | ((with_reducible apply v_loadw_box); exact rfl; (repeat first | exact .hd | apply Sel.tl | apply In.tl); exact rfl) | ((with_reducible apply v_loadn_box); exact rfl; (repeat first | exact .hd | apply Sel.tl | apply In.tl); exact rfl; exact rfl)))
      | ((with_reducible apply wr_cond_true); exact rfl)
      | ((with_reducible apply wr_cond_false); exact rfl)
      | ((with_reducible apply wr_cond) <;> first | exact rfl | (intro hb; (replace hb := Tidy.out hb; try (exfalso; omega))))
      | ((with_reducible apply wr_region); exact rfl; (repeat (first | exact roundQ_no | exact assignQ_no | apply no_thn | apply no_blk | apply no_cut)))
      | (with_reducible first | apply wt_seq_s | apply wt_seq_r | apply wt_seq_c | apply wt_seq_b | apply wt_seq_k | apply wt_last_r | apply wt_last_ret | apply wt_last_c | apply end_thn_n | apply end_thn_r)
      | ((with_reducible apply wl_boxs); exact rfl; exact rfl; intro _)
      | ((with_reducible apply wl_box1); exact rfl; exact rfl; exact rfl; intro _)
      | ((with_reducible apply wl_alloc); exact rfl; intro _)
      | ((with_reducible apply wl_storen_box); exact rfl; exact rfl; (repeat first | exact .hd | apply Sel.tl | apply In.tl); exact rfl; exact rfl; exact rfl)
      | ((with_reducible apply wl_putn_box); exact rfl; exact rfl; (repeat first | exact .hd | apply Sel.tl | apply In.tl); exact rfl; exact rfl; exact rfl; exact rfl)
      | (with_reducible first | apply wl_nil | apply thn_n | apply w_seq | apply w_region | apply w_ret | apply w_skip | apply w_exit | apply w_block | apply thn_r | apply thn_e | apply blk_n | apply blk_r | apply blk_e | apply wr_seq | apply wr_ret | apply wr_exit | apply wr_skip | apply wr_block)
      | ((with_reducible apply w_cond_true); exact rfl)
      | ((with_reducible apply w_cond_false); exact rfl)
      | ((with_reducible apply w_cond) <;> first | exact rfl | (intro hb; (replace hb := Tidy.out hb; try (exfalso; omega))))
      | ((with_reducible apply blk_x); exact rfl))
    rename_i g8
    refine assign_n ⟨[.box g8 68 (encU u), .box g4 4 [.bool false], .box g5 24 [.int .i64 0], .box g3 38 (encR r)], MSub.refl _, ?_⟩
    change WR _ _ _ l _ _ _ (.box g8 68 (encU u) :: .box g4 4 [.bool false] :: .box g5 24 [.int .i64 0] :: .box g3 38 (encR r) :: F')
    have hmeet := fun w => Meet_at u.rect r w
    have hto : touch r u = (meetR u.rect r).2 := rfl
    generalize meetR u.rect r = mt at hmeet hto
    obtain ⟨mr, mb⟩ := mt
    cases mb
    · repeat' (first
        | ((with_reducible apply wl_callp); exact rfl; exact rfl; (intro w hm; exact hmeet w))
        | ((with_reducible apply wl_v); exact rfl; (first | ((with_reducible apply vop_ok); exact rfl) | ((with_reducible apply v_fieldAddr); exact rfl) | ((with_reducible apply v_load_box); exact rfl; (repeat first | exact .hd | apply Sel.tl | apply In.tl); exact rfl) | ((with_reducible apply v_eqlb); exact rfl; exact rfl) | ((with_reducible apply v_neqb); exact rfl; exact rfl) | ((with_reducible apply v_loadw_box); exact rfl; (repeat first | exact .hd | apply Sel.tl | apply In.tl); exact rfl) | ((with_reducible apply v_loadn_box); exact rfl; (repeat first | exact .hd | apply Sel.tl | apply In.tl); exact rfl; exact rfl)))
        | ((with_reducible apply wr_cond_true); exact rfl)
        | ((with_reducible apply wr_cond_false); exact rfl)
        | ((with_reducible apply wr_cond) <;> first | exact rfl | (intro hb; (replace hb := Tidy.out hb; try (exfalso; omega))))
        | ((with_reducible apply wr_region); exact rfl; (repeat (first | exact roundQ_no | exact assignQ_no | apply no_thn | apply no_blk | apply no_cut)))
        | (with_reducible first | apply wt_seq_s | apply wt_seq_r | apply wt_seq_c | apply wt_seq_b | apply wt_seq_k | apply wt_last_r | apply wt_last_ret | apply wt_last_c | apply end_thn_n | apply end_thn_r)
        | ((with_reducible apply wl_boxs); exact rfl; exact rfl; intro _)
        | ((with_reducible apply wl_box1); exact rfl; exact rfl; exact rfl; intro _)
        | ((with_reducible apply wl_alloc); exact rfl; intro _)
        | ((with_reducible apply wl_storen_box); exact rfl; exact rfl; (repeat first | exact .hd | apply Sel.tl | apply In.tl); exact rfl; exact rfl; exact rfl)
        | ((with_reducible apply wl_putn_box); exact rfl; exact rfl; (repeat first | exact .hd | apply Sel.tl | apply In.tl); exact rfl; exact rfl; exact rfl; exact rfl)
        | (with_reducible first | apply wl_nil | apply thn_n | apply w_seq | apply w_region | apply w_ret | apply w_skip | apply w_exit | apply w_block | apply thn_r | apply thn_e | apply blk_n | apply blk_r | apply blk_e | apply wr_seq | apply wr_ret | apply wr_exit | apply wr_skip | apply wr_block)
        | ((with_reducible apply w_cond_true); exact rfl)
        | ((with_reducible apply w_cond_false); exact rfl)
        | ((with_reducible apply w_cond) <;> first | exact rfl | (intro hb; (replace hb := Tidy.out hb; try (exfalso; omega))))
        | ((with_reducible apply blk_x); exact rfl))
      refine round_n [.box g4 4 [.bool false], .box g5 24 [.int .i64 0], .box g3 38 (encR r)] ?_ ⟨rfl, ?_⟩
      · change MSub (_ :: _ :: _ :: F') _
        (repeat (first | exact MSub.nil _ | refine MSub.pick (by (repeat first | exact .hd | apply Sel.tl | apply In.tl)) ?_ | exact MSub.refl _ | refine MSub.drop .hd ?_))
      · simp [hpre, hto]
    · repeat' (first
        | ((with_reducible apply wl_callp); exact rfl; exact rfl; (intro w hm; exact hmeet w))
        | ((with_reducible apply wl_v); exact rfl; (first | ((with_reducible apply vop_ok); exact rfl) | ((with_reducible apply v_fieldAddr); exact rfl) | ((with_reducible apply v_load_box); exact rfl; (repeat first | exact .hd | apply Sel.tl | apply In.tl); exact rfl) | ((with_reducible apply v_eqlb); exact rfl; exact rfl) | ((with_reducible apply v_neqb); exact rfl; exact rfl) | ((with_reducible apply v_loadw_box); exact rfl; (repeat first | exact .hd | apply Sel.tl | apply In.tl); exact rfl) | ((with_reducible apply v_loadn_box); exact rfl; (repeat first | exact .hd | apply Sel.tl | apply In.tl); exact rfl; exact rfl)))
        | ((with_reducible apply wr_cond_true); exact rfl)
        | ((with_reducible apply wr_cond_false); exact rfl)
        | ((with_reducible apply wr_cond) <;> first | exact rfl | (intro hb; (replace hb := Tidy.out hb; try (exfalso; omega))))
        | ((with_reducible apply wr_region); exact rfl; (repeat (first | exact roundQ_no | exact assignQ_no | apply no_thn | apply no_blk | apply no_cut)))
        | (with_reducible first | apply wt_seq_s | apply wt_seq_r | apply wt_seq_c | apply wt_seq_b | apply wt_seq_k | apply wt_last_r | apply wt_last_ret | apply wt_last_c | apply end_thn_n | apply end_thn_r)
        | ((with_reducible apply wl_boxs); exact rfl; exact rfl; intro _)
        | ((with_reducible apply wl_box1); exact rfl; exact rfl; exact rfl; intro _)
        | ((with_reducible apply wl_alloc); exact rfl; intro _)
        | ((with_reducible apply wl_storen_box); exact rfl; exact rfl; (repeat first | exact .hd | apply Sel.tl | apply In.tl); exact rfl; exact rfl; exact rfl)
        | ((with_reducible apply wl_putn_box); exact rfl; exact rfl; (repeat first | exact .hd | apply Sel.tl | apply In.tl); exact rfl; exact rfl; exact rfl; exact rfl)
        | (with_reducible first | apply wl_nil | apply thn_n | apply w_seq | apply w_region | apply w_ret | apply w_skip | apply w_exit | apply w_block | apply thn_r | apply thn_e | apply blk_n | apply blk_r | apply blk_e | apply wr_seq | apply wr_ret | apply wr_exit | apply wr_skip | apply wr_block)
        | ((with_reducible apply w_cond_true); exact rfl)
        | ((with_reducible apply w_cond_false); exact rfl)
        | ((with_reducible apply w_cond) <;> first | exact rfl | (intro hb; (replace hb := Tidy.out hb; try (exfalso; omega))))
        | ((with_reducible apply blk_x); exact rfl))
      refine round_r [.box g4 4 [.bool true], .box g5 24 [.int .i64 0], .box g3 38 (encR r)] ?_ ⟨rfl, ?_⟩
      · change MSub (_ :: _ :: _ :: F') _
        (repeat (first | exact MSub.nil _ | refine MSub.pick (by (repeat first | exact .hd | apply Sel.tl | apply In.tl)) ?_ | exact MSub.refl _ | refine MSub.drop .hd ?_))
      · rw [hus]
        simp [hto]
  · rintro D _ ⟨rfl, hpre⟩
    change endB _ _ _ _ _ (dObj D :: .box g4 4 [.bool false] :: .box g5 24 [.int .i64 0] :: .box g3 38 (encR r) :: _)
    repeat' (first
      | ((with_reducible apply wl_v); exact rfl; (first | ((with_reducible apply vop_ok); exact rfl) | ((with_reducible apply v_fieldAddr); exact rfl) | ((with_reducible apply v_load_box); exact rfl; (repeat first | exact .hd | apply Sel.tl | apply In.tl); exact rfl) | ((with_reducible apply v_eqlb); exact rfl; exact rfl) | ((with_reducible apply v_neqb); exact rfl; exact rfl) | ((with_reducible apply v_loadw_box); exact rfl; (repeat first | exact .hd | apply Sel.tl | apply In.tl); exact rfl) | ((with_reducible apply v_loadn_box); exact rfl; (repeat first | exact .hd | apply Sel.tl | apply In.tl); exact rfl; exact rfl)))
      | ((with_reducible apply wr_cond_true); exact rfl)
      | ((with_reducible apply wr_cond_false); exact rfl)
      | ((with_reducible apply wr_cond) <;> first | exact rfl | (intro hb; (replace hb := Tidy.out hb; try (exfalso; omega))))
      | ((with_reducible apply wr_region); exact rfl; (repeat (first | exact roundQ_no | exact assignQ_no | apply no_thn | apply no_blk | apply no_cut)))
      | (with_reducible first | apply wt_seq_s | apply wt_seq_r | apply wt_seq_c | apply wt_seq_b | apply wt_seq_k | apply wt_last_r | apply wt_last_ret | apply wt_last_c | apply end_thn_n | apply end_thn_r)
      | ((with_reducible apply wl_boxs); exact rfl; exact rfl; intro _)
      | ((with_reducible apply wl_box1); exact rfl; exact rfl; exact rfl; intro _)
      | ((with_reducible apply wl_alloc); exact rfl; intro _)
      | ((with_reducible apply wl_storen_box); exact rfl; exact rfl; (repeat first | exact .hd | apply Sel.tl | apply In.tl); exact rfl; exact rfl; exact rfl)
      | ((with_reducible apply wl_putn_box); exact rfl; exact rfl; (repeat first | exact .hd | apply Sel.tl | apply In.tl); exact rfl; exact rfl; exact rfl; exact rfl)
      | (with_reducible first | apply wl_nil | apply thn_n | apply w_seq | apply w_region | apply w_ret | apply w_skip | apply w_exit | apply w_block | apply thn_r | apply thn_e | apply blk_n | apply blk_r | apply blk_e | apply wr_seq | apply wr_ret | apply wr_exit | apply wr_skip | apply wr_block)
      | ((with_reducible apply w_cond_true); exact rfl)
      | ((with_reducible apply w_cond_false); exact rfl)
      | ((with_reducible apply w_cond) <;> first | exact rfl | (intro hb; (replace hb := Tidy.out hb; try (exfalso; omega))))
      | ((with_reducible apply blk_x); exact rfl))
    refine end_mark (by (repeat first | exact .hd | apply Sel.tl | apply In.tl)) ?_
    refine ret11 (.inl rfl) Try.results44 rfl rfl (by (repeat first | exact .hd | apply Sel.tl | apply In.tl)) (by (repeat first | exact .hd | apply Sel.tl | apply In.tl)) (MSub.nil _) ?_
    rw [hpre]
  · rintro D _ ⟨rfl, hany⟩
    change endB _ _ _ _ _ (dObj D :: .box g4 4 [.bool true] :: .box g5 24 [.int .i64 0] :: .box g3 38 (encR r) :: _)
    repeat' (first
      | ((with_reducible apply wl_v); exact rfl; (first | ((with_reducible apply vop_ok); exact rfl) | ((with_reducible apply v_fieldAddr); exact rfl) | ((with_reducible apply v_load_box); exact rfl; (repeat first | exact .hd | apply Sel.tl | apply In.tl); exact rfl) | ((with_reducible apply v_eqlb); exact rfl; exact rfl) | ((with_reducible apply v_neqb); exact rfl; exact rfl) | ((with_reducible apply v_loadw_box); exact rfl; (repeat first | exact .hd | apply Sel.tl | apply In.tl); exact rfl) | ((with_reducible apply v_loadn_box); exact rfl; (repeat first | exact .hd | apply Sel.tl | apply In.tl); exact rfl; exact rfl)))
      | ((with_reducible apply wr_cond_true); exact rfl)
      | ((with_reducible apply wr_cond_false); exact rfl)
      | ((with_reducible apply wr_cond) <;> first | exact rfl | (intro hb; (replace hb := Tidy.out hb; try (exfalso; omega))))
      | ((with_reducible apply wr_region); exact rfl; (repeat (first | exact roundQ_no | exact assignQ_no | apply no_thn | apply no_blk | apply no_cut)))
      | (with_reducible first | apply wt_seq_s | apply wt_seq_r | apply wt_seq_c | apply wt_seq_b | apply wt_seq_k | apply wt_last_r | apply wt_last_ret | apply wt_last_c | apply end_thn_n | apply end_thn_r)
      | ((with_reducible apply wl_boxs); exact rfl; exact rfl; intro _)
      | ((with_reducible apply wl_box1); exact rfl; exact rfl; exact rfl; intro _)
      | ((with_reducible apply wl_alloc); exact rfl; intro _)
      | ((with_reducible apply wl_storen_box); exact rfl; exact rfl; (repeat first | exact .hd | apply Sel.tl | apply In.tl); exact rfl; exact rfl; exact rfl)
      | ((with_reducible apply wl_putn_box); exact rfl; exact rfl; (repeat first | exact .hd | apply Sel.tl | apply In.tl); exact rfl; exact rfl; exact rfl; exact rfl)
      | (with_reducible first | apply wl_nil | apply thn_n | apply w_seq | apply w_region | apply w_ret | apply w_skip | apply w_exit | apply w_block | apply thn_r | apply thn_e | apply blk_n | apply blk_r | apply blk_e | apply wr_seq | apply wr_ret | apply wr_exit | apply wr_skip | apply wr_block)
      | ((with_reducible apply w_cond_true); exact rfl)
      | ((with_reducible apply w_cond_false); exact rfl)
      | ((with_reducible apply w_cond) <;> first | exact rfl | (intro hb; (replace hb := Tidy.out hb; try (exfalso; omega))))
      | ((with_reducible apply blk_x); exact rfl))
    refine end_mark (by (repeat first | exact .hd | apply Sel.tl | apply In.tl)) ?_
    refine ret11 (.inl rfl) Try.results44 rfl rfl (by (repeat first | exact .hd | apply Sel.tl | apply In.tl)) (by (repeat first | exact .hd | apply Sel.tl | apply In.tl)) (MSub.nil _) ?_
    rw [hany]
end Go.SL

/-
  What 'fits' of package tree returns.
-/
import Derived.Test.YtfkklicpnoeclaaW1
namespace Go.SL
open Go Go.Proofs
attribute [local irreducible] W WL WQ WG WA VOp thn blk retP FnAt FnIn

theorem kindAt_get {L : List Nd} {i : Nat} (h : i < L.length) : kindAt L i = L[i].kind := by simp [kindAt, h]

set_option maxRecDepth 20000 in
set_option maxHeartbeats 1000000 in
theorem fits_at (L : List Nd) (n : Nd) (ps : List Pt) (tv lv : Value) (w : World) (ht : Reads w tv L.length (L.flatMap encN)) (hp : Reads w lv ps.length (ps.flatMap encP)) (hroot : ∀ p ∈ ps, p.root < L.length) (hlen : ps.length ≤ 1000000) :
    Pure Try.prog 87 [tv, .agg (encN n).toArray, lv] w (.bool (fitsFrom L n 0 ps)) := by
  obtain ⟨At, ct, rfl, ht1, ht2, ht3⟩ := ht
  obtain ⟨Al, cl, rfl, hl1, hl2, hl3⟩ := hp
  refine fn_at Try.func87 rfl Try.ntmps87 rfl ?_
  repeat' (first
    | ((with_reducible apply wl_v); exact rfl; (first | ((with_reducible apply vop_ok); exact rfl) | ((with_reducible apply v_fieldAddr); exact rfl) | ((with_reducible apply v_len); exact rfl) | ((with_reducible apply v_lens); exact rfl) | ((with_reducible apply v_load_box); exact rfl; (repeat first | exact .hd | apply Sel.tl | apply In.tl); exact rfl) | ((with_reducible apply v_eqlb); exact rfl; exact rfl) | ((with_reducible apply v_neqb); exact rfl; exact rfl) | ((with_reducible apply v_loadw_box); exact rfl; (repeat first | exact .hd | apply Sel.tl | apply In.tl); exact rfl) | ((with_reducible apply v_loadn_box); exact rfl; (repeat first | exact .hd | apply Sel.tl | apply In.tl); exact rfl; exact rfl)))
    | ((with_reducible apply wl_gyes); exact rfl; exact rfl)
    | ((with_reducible apply wl_gno_b); exact rfl; exact rfl; exact rfl; exact rfl)
    | ((with_reducible apply wl_gno_u); exact rfl; exact rfl; exact rfl)
    | ((with_reducible apply wl_boxs); exact rfl; exact rfl; intro _)
    | ((with_reducible apply wl_box1); exact rfl; exact rfl; exact rfl; intro _)
    | ((with_reducible apply wl_alloc); exact rfl; intro _)
    | ((with_reducible apply wl_storen_box); exact rfl; exact rfl; (repeat first | exact .hd | apply Sel.tl | apply In.tl); exact rfl; exact rfl; exact rfl)
    | ((with_reducible apply wl_putn_box); exact rfl; exact rfl; (repeat first | exact .hd | apply Sel.tl | apply In.tl); exact rfl; exact rfl; exact rfl; exact rfl)
    | ((with_reducible apply wl_gsplit) <;> first | exact rfl | (intro hb; (replace hb := Tidy.out hb; try (exfalso; omega))))
    | (with_reducible first | apply wl_nil | apply thn_n | apply w_seq | apply w_region | apply w_ret | apply w_skip | apply w_exit | apply w_block | apply thn_r | apply thn_e | apply blk_n | apply blk_r | apply blk_e)
    | ((with_reducible apply w_cond_true); exact rfl)
    | ((with_reducible apply w_cond_false); exact rfl)
    | ((with_reducible apply w_cond) <;> first | exact rfl | (intro hb; (replace hb := Tidy.out hb; try (exfalso; omega))))
    | ((with_reducible apply blk_x); exact rfl))
  rename_i gn
  refine w_loop (fun i : Nat => [(0, .slice At L.length ct), (4, .pointer (some ⟨gn, 0, none⟩)), (11, .slice Al ps.length cl), (12, .int .i64 (ps.length : Int)), (13, .int .i64 (i : Int))])
    (fun i => [.box gn 40 (encN n)]) (fun i => i ≤ ps.length ∧ fitsFrom L n 0 ps = fitsFrom L n (i : Int) (ps.drop i)) (fun i => ps.length - i) 0 ⟨by omega, rfl⟩ ?_ ?_ ?_
  · (repeat (first | exact Sub.nil _ | refine Sub.cons rfl ?_))
  · (repeat (first | exact MSub.nil _ | refine MSub.pick (by (repeat first | exact .hd | apply Sel.tl | apply In.tl)) ?_ | exact MSub.refl _ | refine MSub.drop .hd ?_))
  · rintro i ⟨hi, hrec⟩
    by_cases hlt : i < ps.length
    · obtain ⟨g, o, rfl, hro⟩ := hl3 (by omega)
      have hrp := hro.elem encP_len i hlt
      have hr0 := hroot ps[i] (List.getElem_mem hlt)
      obtain ⟨gt, ot, rfl, hrt⟩ := ht3 (by omega)
      have hrn := hrt.elem encN_len ps[i].root hr0
      rw [List.drop_eq_getElem_cons hlt, fitsFrom, fitOne, kindAt_get hr0] at hrec
      repeat' (first
        | ((with_reducible apply wl_v); exact rfl; (with_reducible apply v_indexAddr); exact rfl; exact rfl; first | exact hlt | exact hr0)
        | ((with_reducible apply wl_v); exact rfl; (with_reducible apply v_loadw_ro); exact rfl; exact hrp; exact rfl)
        | ((with_reducible apply wl_v); exact rfl; (with_reducible apply v_loadf_ro); exact rfl; exact hrn; exact rfl)
        | ((with_reducible apply wl_v); exact rfl; (with_reducible apply v_add); exact rfl; exact rfl; (constructor <;> omega))
        | ((with_reducible apply wl_callp); exact rfl; exact rfl; (intro w hm; exact wide_at n.fn (i : Int) w))
        | ((with_reducible apply wl_callp); exact rfl; exact rfl; (intro w hm; exact released_at n.fn w))
        | ((with_reducible apply wl_v); exact rfl; (first | ((with_reducible apply vop_ok); exact rfl) | ((with_reducible apply v_fieldAddr); exact rfl) | ((with_reducible apply v_len); exact rfl) | ((with_reducible apply v_lens); exact rfl) | ((with_reducible apply v_load_box); exact rfl; (repeat first | exact .hd | apply Sel.tl | apply In.tl); exact rfl) | ((with_reducible apply v_eqlb); exact rfl; exact rfl) | ((with_reducible apply v_neqb); exact rfl; exact rfl) | ((with_reducible apply v_loadw_box); exact rfl; (repeat first | exact .hd | apply Sel.tl | apply In.tl); exact rfl) | ((with_reducible apply v_loadn_box); exact rfl; (repeat first | exact .hd | apply Sel.tl | apply In.tl); exact rfl; exact rfl)))
        | ((with_reducible apply wl_gyes); exact rfl; exact rfl)
        | ((with_reducible apply wl_gno_b); exact rfl; exact rfl; exact rfl; exact rfl)
        | ((with_reducible apply wl_gno_u); exact rfl; exact rfl; exact rfl)
        | ((with_reducible apply wl_boxs); exact rfl; exact rfl; intro _)
        | ((with_reducible apply wl_box1); exact rfl; exact rfl; exact rfl; intro _)
        | ((with_reducible apply wl_alloc); exact rfl; intro _)
        | ((with_reducible apply wl_storen_box); exact rfl; exact rfl; (repeat first | exact .hd | apply Sel.tl | apply In.tl); exact rfl; exact rfl; exact rfl)
        | ((with_reducible apply wl_putn_box); exact rfl; exact rfl; (repeat first | exact .hd | apply Sel.tl | apply In.tl); exact rfl; exact rfl; exact rfl; exact rfl)
        | ((with_reducible apply wl_gsplit) <;> first | exact rfl | (intro hb; (replace hb := Tidy.out hb; try (exfalso; omega))))
        | (with_reducible first | apply wl_nil | apply thn_n | apply w_seq | apply w_region | apply w_ret | apply w_skip | apply w_exit | apply w_block | apply thn_r | apply thn_e | apply blk_n | apply blk_r | apply blk_e)
        | ((with_reducible apply w_cond_true); exact rfl)
        | ((with_reducible apply w_cond_false); exact rfl)
        | ((with_reducible apply w_cond) <;> first | exact rfl | (intro hb; (replace hb := Tidy.out hb; try (exfalso; omega))))
        | ((with_reducible apply blk_x); exact rfl))
      all_goals first
        | (((with_reducible apply ret1); exact .inl rfl; exact rfl; exact rfl; exact MSub.nil _); rw [hrec]; simp_all [mayAt]; done)
        | (refine ⟨i + 1, ⟨by omega, ?_⟩, by omega, ?_, ?_⟩; (focus (rw [hrec, Int.natCast_add]; simp [mayAt, *])); (focus (repeat (first | exact Sub.nil _ | refine Sub.cons rfl ?_))); (focus (repeat (first | exact MSub.nil _ | refine MSub.pick (by (repeat first | exact .hd | apply Sel.tl | apply In.tl)) ?_ | exact MSub.refl _ | refine MSub.drop .hd ?_))))
    · have e : i = ps.length := by omega
      subst e
      rw [List.drop_length, fitsFrom] at hrec
      repeat' (first
        | ((with_reducible apply wl_v); exact rfl; (first | ((with_reducible apply vop_ok); exact rfl) | ((with_reducible apply v_fieldAddr); exact rfl) | ((with_reducible apply v_len); exact rfl) | ((with_reducible apply v_lens); exact rfl) | ((with_reducible apply v_load_box); exact rfl; (repeat first | exact .hd | apply Sel.tl | apply In.tl); exact rfl) | ((with_reducible apply v_eqlb); exact rfl; exact rfl) | ((with_reducible apply v_neqb); exact rfl; exact rfl) | ((with_reducible apply v_loadw_box); exact rfl; (repeat first | exact .hd | apply Sel.tl | apply In.tl); exact rfl) | ((with_reducible apply v_loadn_box); exact rfl; (repeat first | exact .hd | apply Sel.tl | apply In.tl); exact rfl; exact rfl)))
        | ((with_reducible apply wl_gyes); exact rfl; exact rfl)
        | ((with_reducible apply wl_gno_b); exact rfl; exact rfl; exact rfl; exact rfl)
        | ((with_reducible apply wl_gno_u); exact rfl; exact rfl; exact rfl)
        | ((with_reducible apply wl_boxs); exact rfl; exact rfl; intro _)
        | ((with_reducible apply wl_box1); exact rfl; exact rfl; exact rfl; intro _)
        | ((with_reducible apply wl_alloc); exact rfl; intro _)
        | ((with_reducible apply wl_storen_box); exact rfl; exact rfl; (repeat first | exact .hd | apply Sel.tl | apply In.tl); exact rfl; exact rfl; exact rfl)
        | ((with_reducible apply wl_putn_box); exact rfl; exact rfl; (repeat first | exact .hd | apply Sel.tl | apply In.tl); exact rfl; exact rfl; exact rfl; exact rfl)
        | ((with_reducible apply wl_gsplit) <;> first | exact rfl | (intro hb; (replace hb := Tidy.out hb; try (exfalso; omega))))
        | (with_reducible first | apply wl_nil | apply thn_n | apply w_seq | apply w_region | apply w_ret | apply w_skip | apply w_exit | apply w_block | apply thn_r | apply thn_e | apply blk_n | apply blk_r | apply blk_e)
        | ((with_reducible apply w_cond_true); exact rfl)
        | ((with_reducible apply w_cond_false); exact rfl)
        | ((with_reducible apply w_cond) <;> first | exact rfl | (intro hb; (replace hb := Tidy.out hb; try (exfalso; omega))))
        | ((with_reducible apply blk_x); exact rfl))
      ((with_reducible apply ret1); exact .inl rfl; exact rfl; exact rfl; exact MSub.nil _)
      rw [hrec]
end Go.SL

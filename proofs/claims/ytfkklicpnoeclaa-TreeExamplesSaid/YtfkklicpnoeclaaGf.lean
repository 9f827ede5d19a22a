/-
  Lemmas and walks, packed: W24.
-/
import Derived.Test.YtfkklicpnoeclaaGe
import Derived.Test.YtfkklicpnoeclaaGb
set_option linter.unusedSimpArgs false
set_option linter.unusedVariables false
/-
  What TreeParts returns.
-/
namespace Go.SL
open Go Go.Proofs
attribute [local irreducible] W WL WQ WG WA VOp thn blk cutP retP FnAt FnIn Held

theorem v_neqN_same {w0 : World} {s : Slots} {H : List Blk} {ty t' : TypeId} {x y : Operand} {a : Nd} (hx : ev s x = some (.agg (encN a).toArray)) (hy : ev s y = some (.agg (encN a).toArray)) : VOp Try.prog w0 s H (.binOp .neq 40 x y t') ty (.bool false) := by
  have h := v_neqN (w0 := w0) (H := H) (ty := ty) (t' := t') hx hy
  rwa [eqN_iff.2 rfl] at h

theorem Held.readsLL {w0 : World} {F H : List Blk} {vals : List Value} {Ts : List (List Nd)} (h : Held encN w0 F vals Ts) {w : World} (hm : Mem w0 w H) (hF : MSub F H) {v : Value} (hr : Reads w v Ts.length vals) : ReadsLL w v Ts := by
  unfold Held at h
  exact ⟨vals, h.1, hr, fun i x L hx hL => h.2 i x L hx hL w (hF.use hm)⟩

/-- How often each node is a kid, so far. -/
def OwnOk (f : Nat → Bool) (N : Nat) (o : List Int) : Prop := o.length = N ∧ ∀ k, k < N → o[k]? = some (if f k then 1 else 0)

theorem OwnOk.set {f g : Nat → Bool} {N r : Nat} {o : List Int} (h : OwnOk f N o) (hr : r < N) (hf : f r = false) (hg : ∀ k, g k = (f k || decide (k = r))) : OwnOk g N (o.set r 1) ∧ o[r]? = some 0 := by
  refine ⟨⟨by simpa using h.1, fun k hk => ?_⟩, by rw [h.2 r hr, hf]; rfl⟩
  rw [List.getElem?_set, hg k]
  by_cases e : r = k
  · subst e
    rw [if_pos rfl, if_pos (by rw [h.1]; exact hr)]
    simp
  · rw [if_neg e, h.2 k hk]
    simp [show ¬ k = r from fun h => e h.symm]

theorem zerosI_eq (N : Nat) : ((List.range (N * 1)).map fun i => [Value.int .i64 0][i % [Value.int .i64 0].length]!) = intsI (List.replicate N 0) := by
  apply List.ext_getElem
  · simp [intsI]
  · intro i h1 h2
    simp [intsI, Nat.mod_one]

set_option maxRecDepth 20000 in
set_option maxHeartbeats 4000000 in
theorem TreeParts_at (L : List Nd) (tv : Value) (w : World) (ht : Reads w tv L.length (L.flatMap encN)) : Pure Try.prog 6 [tv] w (.bool true) := by
  refine fn_at Try.func6 rfl Try.ntmps6 rfl ?_
  have hf1 := fun (w' : World) (H : List Blk) (hm : Mem w w' H) => Few_at L tv w' (ht.of_w0 hm)
  generalize fewT L = M at hf1
  have d1 := fun v w' h => Depth_at M v w' h
  by_cases hc : checkE M = 0
  · obtain ⟨hlen, S, Hi, hW, hk3, hct⟩ := check_whole hc
    rw [depthE_whole hW hc hct] at d1
    have hpos := hW.pos
    have hHl := hW.inv.len
    repeat' (first
      | ((with_reducible apply wl_call (xs := [.tmp 20])); exact rfl; exact rfl; (intro w' h; exact hf1 w' _ h); (rintro v H' ⟨A1, cap1, rfl, rfl⟩))
      | ((with_reducible apply wl_callp); exact rfl; exact rfl; (intro w' h; exact d1 _ w' (Reads.of_own (A := A1) h (by (repeat first | exact .hd | apply Sel.tl | apply In.tl)))))
      | ((with_reducible apply wl_makeSlice (c := M.length)); exact rfl; exact rfl; exact rfl; omega; (simp only [maxLen]; omega); (intro gO; rw [zerosI_eq]))
      | ((with_reducible apply wl_v); exact rfl; (first | ((with_reducible apply vop_ok); exact rfl) | ((with_reducible apply v_fieldAddr); exact rfl) | ((with_reducible apply v_len); exact rfl) | ((with_reducible apply v_lens); exact rfl) | ((with_reducible apply v_load_box); exact rfl; (repeat first | exact .hd | apply Sel.tl | apply In.tl); exact rfl) | ((with_reducible apply v_eqlb); exact rfl; exact rfl) | ((with_reducible apply v_neqb); exact rfl; exact rfl) | ((with_reducible apply v_loadw_box); exact rfl; (repeat first | exact .hd | apply Sel.tl | apply In.tl); exact rfl) | ((with_reducible apply v_loadn_box); exact rfl; (repeat first | exact .hd | apply Sel.tl | apply In.tl); exact rfl; exact rfl)))
      | ((with_reducible apply wl_gyes); exact rfl; exact rfl)
      | ((with_reducible apply wl_gno_b); exact rfl; exact rfl; exact rfl; exact rfl)
      | ((with_reducible apply wl_gno_u); exact rfl; exact rfl; exact rfl)
      | ((with_reducible apply wl_storen_box); exact rfl; exact rfl; (repeat first | exact .hd | apply Sel.tl | apply In.tl); exact rfl; exact rfl; exact rfl)
      | ((with_reducible apply wl_putn_box); exact rfl; exact rfl; (repeat first | exact .hd | apply Sel.tl | apply In.tl); exact rfl; exact rfl; exact rfl; exact rfl)
      | ((with_reducible apply wl_buildSlice); exact rfl; exact rfl; exact rfl; exact rfl; exact rfl; exact rfl; exact rfl; intro _)
      | ((with_reducible apply wl_gsplit) <;> first | exact rfl | (intro hb; (replace hb := Tidy.out hb; try (exfalso; omega))))
      | (with_reducible first | apply wl_nil | apply thn_n | apply w_seq | apply w_region | apply w_ret | apply w_skip | apply w_exit | apply w_block | apply thn_r | apply thn_e | apply blk_n | apply blk_r | apply blk_e | apply cut_r | apply cut_e)
      | ((with_reducible apply w_cond_true); exact rfl)
      | ((with_reducible apply w_cond_false); exact rfl)
      | ((with_reducible apply w_cond) <;> first | exact rfl | (intro hb; (replace hb := Tidy.out hb; try (exfalso; omega))))
      | ((with_reducible apply blk_x); exact rfl)
      | ((with_reducible apply cut_n (i := ())) <;> first | exact trivial | ((repeat (first | exact Sub.nil _ | refine Sub.cons rfl ?_)); done) | ((repeat (first | exact MSub.nil _ | refine MSub.pick (by (repeat first | exact .hd | apply Sel.tl | apply In.tl)) ?_ | exact MSub.refl _ | refine MSub.drop .hd ?_)); done)))
    refine w_loopK [0, 3, 5] rfl (fun x : Nat × List Int => [(6, .int .i64 (x.1 : Int))]) (fun x => [.own (some gO) 3 1 M.length M.length (intsI x.2), .own A1 40 11 M.length cap1 (M.flatMap encN)])
      (fun x => x.1 ≤ M.length ∧ OwnOk (ownB Hi x.1) M.length x.2) (fun x => M.length - x.1) (0, List.replicate M.length 0) ⟨Nat.zero_le _, by simp, fun k hk => by simp [ownB, hk]⟩ (by (repeat (first | exact Sub.nil _ | refine Sub.cons rfl ?_))) (by (repeat (first | exact MSub.nil _ | refine MSub.pick (by (repeat first | exact .hd | apply Sel.tl | apply In.tl)) ?_ | exact MSub.refl _ | refine MSub.drop .hd ?_))) ?_
    rintro ⟨i, o⟩ ⟨hi, ho⟩
    dsimp only at hi ho ⊢
    refine w_some (A := A1) (.tl .hd) hpos fun g1 hA1 => ?_
    subst hA1
    by_cases hlt : i < M.length
    · obtain ⟨x, hx⟩ : ∃ x, Hi[i]? = some x := ⟨_, List.getElem?_eq_getElem (by omega)⟩
      obtain ⟨n, hn, e2, hgt, hgT, hTl, hseg⟩ := hW.inv.node i x hx
      have k1 := fun v w' h => Kids_at M (i : Int) v w' h
      have s1 := fun v w' h => Sub_at M (i : Int) v w' h (by omega)
      rw [kidsE_whole hc hct hx hlt] at k1
      rw [subE_whole hW hc hct hx] at s1
      have hTlen : x.2.ns.length ≤ 256 := by omega
      have hdeep : x.2.d ≤ S.d := by
        obtain ⟨S', hS', hd⟩ := hW.inv.deep x (List.mem_of_getElem? hx)
        rw [List.mem_singleton.1 hS'] at hd
        exact hd
      have hTpos := hgT.pos
      have hTk : x.2.kind = n.kind := by rw [e2, nodeF_kind]
      have hTlast : x.2.ns[x.2.ns.length - 1]? = some n := by rw [e2]; simp [nodeF]
      have d2 := fun v w' h => Depth_at x.2.ns v w' h
      rw [depthE_good hgT hTlen] at d2
      have hkl : (kidsH i x).length = x.1.length := rootsFrom_length _ _
      have hkr := kidsH_rise hW hx
      have hx1 : x.1.length ≤ 255 := by
        have h1 := len_le_flat fun T hT => (hgt T hT).pos
        have h2 : x.2.ns.length = (flatS x.1).length + 1 := by rw [e2, nodeF_len]
        omega
      by_cases hT3 : x.2.kind = 3
      · rw [if_pos hT3] at d2
        dsimp only at k1 s1 d2
        obtain ⟨n', e', _, _⟩ := good_range hgT hT3
        have hT1 : x.2.ns.length = 1 := by rw [e']; rfl
        have hx0 : x.1.length = 0 := by
          have h1 := len_le_flat fun T hT => (hgt T hT).pos
          have h2 : x.2.ns.length = (flatS x.1).length + 1 := by rw [e2, nodeF_len]
          omega
        have hn3 : n.kind = 3 := by rw [← hTk]; exact hT3
        have hT0 : x.2.ns[0]? = some n := by rw [hT1] at hTlast; exact hTlast
        have ho3 : OwnOk (ownB Hi (i + 1)) M.length o := by
          refine ⟨ho.1, fun k hk => ?_⟩
          have : kidsH i x = [] := List.eq_nil_of_length_eq_zero (by omega)
          rw [ho.2 k hk, ownB_succ]
          simp [kidsL, hx, this]
        repeat' (first
          | ((with_reducible apply wl_call (f := 20)); exact rfl; exact rfl; (intro w' h; exact k1 _ w' (Reads.of_own (A := some g1) h (by (repeat first | exact .hd | apply Sel.tl | apply In.tl)))); (rintro v H' ⟨A3, cap3, rfl, rfl⟩))
          | ((with_reducible apply wl_call (f := 22)); exact rfl; exact rfl; (intro w' h; exact s1 _ w' (Reads.of_own (A := some g1) h (by (repeat first | exact .hd | apply Sel.tl | apply In.tl)))); (rintro v H' ⟨A4, cap4, rfl, rfl⟩; refine wl_some (A := A4) (by (repeat first | exact .hd | apply Sel.tl | apply In.tl)) hTpos fun g4 hA4 => ?_; subst hA4))
          | ((with_reducible apply wl_callp (xs := [.tmp 80])); exact rfl; exact rfl; (intro w' h; exact d2 _ w' (Reads.of_own (A := some g4) h (by (repeat first | exact .hd | apply Sel.tl | apply In.tl)))))
          | ((with_reducible apply wq_v); exact rfl; (with_reducible apply v_indexAddr); exact rfl; exact rfl; omega)
          | ((with_reducible apply wl_v); exact rfl; (with_reducible apply v_indexAddr (j := 0)); exact rfl; exact rfl; omega)
          | ((with_reducible apply wq_v); exact rfl; (with_reducible apply v_loadi_own); exact encN_len; exact rfl; (repeat first | exact .hd | apply Sel.tl | apply In.tl); first | exact hTlast | exact hn)
          | ((with_reducible apply wl_v); exact rfl; (with_reducible apply v_loadc_own (i := 0)); exact encN_len; exact rfl; (repeat first | exact .hd | apply Sel.tl | apply In.tl); decide; exact hT0; exact rfl)
          | ((with_reducible apply wq_v); exact rfl; (with_reducible apply v_neqN_same); exact rfl; exact rfl)
          | ((with_reducible first | apply wl_v | apply wq_v); exact rfl; (first | ((with_reducible apply vop_ok); exact rfl) | ((with_reducible apply v_fieldAddr); exact rfl) | ((with_reducible apply v_len); exact rfl) | ((with_reducible apply v_lens); exact rfl) | ((with_reducible apply v_load_box); exact rfl; (repeat first | exact .hd | apply Sel.tl | apply In.tl); exact rfl) | ((with_reducible apply v_eqlb); exact rfl; exact rfl) | ((with_reducible apply v_neqb); exact rfl; exact rfl) | ((with_reducible apply v_loadw_box); exact rfl; (repeat first | exact .hd | apply Sel.tl | apply In.tl); exact rfl) | ((with_reducible apply v_loadn_box); exact rfl; (repeat first | exact .hd | apply Sel.tl | apply In.tl); exact rfl; exact rfl)))
          | ((with_reducible first | apply wl_gyes | apply wq_gyes); exact rfl; exact rfl)
          | ((with_reducible first | apply wl_gno_b | apply wq_gno_b); exact rfl; exact rfl; exact rfl; exact rfl)
          | ((with_reducible first | apply wl_gno_u | apply wq_gno_u); exact rfl; exact rfl; exact rfl)
          | ((with_reducible apply wl_storen_box); exact rfl; exact rfl; (repeat first | exact .hd | apply Sel.tl | apply In.tl); exact rfl; exact rfl; exact rfl)
          | ((with_reducible apply wl_putn_box); exact rfl; exact rfl; (repeat first | exact .hd | apply Sel.tl | apply In.tl); exact rfl; exact rfl; exact rfl; exact rfl)
          | ((with_reducible apply wl_buildSlice); exact rfl; exact rfl; exact rfl; exact rfl; exact rfl; exact rfl; exact rfl; intro _)
          | ((with_reducible first | apply wl_gsplit | apply wq_gsplit) <;> first | exact rfl | (intro hb; (replace hb := Tidy.out hb; try (exfalso; omega))))
          | (with_reducible first | apply wl_nil | apply thn_n | apply w_seq | apply w_region | apply w_ret | apply w_skip | apply w_exit | apply w_block | apply thn_r | apply thn_e | apply blk_n | apply blk_r | apply blk_e | apply wq_nil | apply cut_r | apply cut_e)
          | ((with_reducible apply w_cond_true); exact rfl)
          | ((with_reducible apply w_cond_false); exact rfl)
          | ((with_reducible apply w_cond) <;> first | exact rfl | (intro hb; (replace hb := Tidy.out hb; try (exfalso; omega))))
          | ((with_reducible apply blk_x); exact rfl)
          | ((with_reducible apply cut_n (i := ())) <;> first | exact trivial | ((repeat (first | exact Sub.nil _ | refine Sub.cons rfl ?_)); done) | ((repeat (first | exact MSub.nil _ | refine MSub.pick (by (repeat first | exact .hd | apply Sel.tl | apply In.tl)) ?_ | exact MSub.refl _ | refine MSub.drop .hd ?_)); done))
          | ((with_reducible first | apply wl_v | apply wq_v); exact rfl; (with_reducible apply v_succN); exact rfl; exact rfl; (simp only [maxLen] at *; omega))
          | ((with_reducible first | apply wl_v | apply wq_v); exact rfl; (with_reducible apply v_1addN); exact rfl; exact rfl; (simp only [maxLen] at *; omega))
          | ((with_reducible first | apply wl_v | apply wq_v); exact rfl; (with_reducible apply v_addN); exact rfl; exact rfl; (simp only [maxLen] at *; omega))
          | ((with_reducible first | apply wl_v | apply wq_v); exact rfl; (with_reducible apply v_predN); exact rfl; exact rfl; omega; (simp only [maxLen] at *; omega))
          | ((with_reducible first | apply wl_v | apply wq_v); exact rfl; (with_reducible apply v_subN); exact rfl; exact rfl; omega; (simp only [maxLen] at *; omega))
          | ((with_reducible apply w_draw); kernel_rfl; kernel_rfl))
        refine w_loopK (ι := Unit) [0, 3, 5, 6, 7, 9] rfl (fun _ => [(14, .int .i64 0)]) (fun _ => [.own (some gO) 3 1 M.length M.length (intsI o), .own (some g1) 40 11 M.length cap1 (M.flatMap encN), .own (some g4) 40 11 x.2.ns.length cap4 (x.2.ns.flatMap encN)]) (fun _ => True) (fun _ => 0) () trivial (by (repeat (first | exact Sub.nil _ | refine Sub.cons rfl ?_))) (by (repeat (first | exact MSub.nil _ | refine MSub.pick (by (repeat first | exact .hd | apply Sel.tl | apply In.tl)) ?_ | exact MSub.refl _ | refine MSub.drop .hd ?_))) ?_
        rintro _ _
        repeat' (first
          | ((with_reducible apply wl_v); exact rfl; (with_reducible apply v_indexAddr); exact rfl; exact rfl; omega)
          | ((with_reducible apply wl_v); exact rfl; (with_reducible apply v_loadc_own); exact encN_len; exact rfl; (repeat first | exact .hd | apply Sel.tl | apply In.tl); decide; exact hTlast; exact rfl)
          | ((with_reducible apply wl_v); exact rfl; (first | ((with_reducible apply vop_ok); exact rfl) | ((with_reducible apply v_fieldAddr); exact rfl) | ((with_reducible apply v_len); exact rfl) | ((with_reducible apply v_lens); exact rfl) | ((with_reducible apply v_load_box); exact rfl; (repeat first | exact .hd | apply Sel.tl | apply In.tl); exact rfl) | ((with_reducible apply v_eqlb); exact rfl; exact rfl) | ((with_reducible apply v_neqb); exact rfl; exact rfl) | ((with_reducible apply v_loadw_box); exact rfl; (repeat first | exact .hd | apply Sel.tl | apply In.tl); exact rfl) | ((with_reducible apply v_loadn_box); exact rfl; (repeat first | exact .hd | apply Sel.tl | apply In.tl); exact rfl; exact rfl)))
          | ((with_reducible apply wl_gyes); exact rfl; exact rfl)
          | ((with_reducible apply wl_gno_b); exact rfl; exact rfl; exact rfl; exact rfl)
          | ((with_reducible apply wl_gno_u); exact rfl; exact rfl; exact rfl)
          | ((with_reducible apply wl_storen_box); exact rfl; exact rfl; (repeat first | exact .hd | apply Sel.tl | apply In.tl); exact rfl; exact rfl; exact rfl)
          | ((with_reducible apply wl_putn_box); exact rfl; exact rfl; (repeat first | exact .hd | apply Sel.tl | apply In.tl); exact rfl; exact rfl; exact rfl; exact rfl)
          | ((with_reducible apply wl_buildSlice); exact rfl; exact rfl; exact rfl; exact rfl; exact rfl; exact rfl; exact rfl; intro _)
          | ((with_reducible apply wl_gsplit) <;> first | exact rfl | (intro hb; (replace hb := Tidy.out hb; try (exfalso; omega))))
          | (with_reducible first | apply wl_nil | apply thn_n | apply w_seq | apply w_region | apply w_ret | apply w_skip | apply w_exit | apply w_block | apply thn_r | apply thn_e | apply blk_n | apply blk_r | apply blk_e | apply cut_r | apply cut_e)
          | ((with_reducible apply w_cond_true); exact rfl)
          | ((with_reducible apply w_cond_false); exact rfl)
          | ((with_reducible apply w_cond) <;> first | exact rfl | (intro hb; (replace hb := Tidy.out hb; try (exfalso; omega))))
          | ((with_reducible apply blk_x); exact rfl)
          | ((with_reducible apply cut_n (i := ())) <;> first | exact trivial | ((repeat (first | exact Sub.nil _ | refine Sub.cons rfl ?_)); done) | ((repeat (first | exact MSub.nil _ | refine MSub.pick (by (repeat first | exact .hd | apply Sel.tl | apply In.tl)) ?_ | exact MSub.refl _ | refine MSub.drop .hd ?_)); done))
          | ((with_reducible apply wl_v); exact rfl; (with_reducible apply v_succN); exact rfl; exact rfl; (simp only [maxLen] at *; omega))
          | ((with_reducible apply wl_v); exact rfl; (with_reducible apply v_1addN); exact rfl; exact rfl; (simp only [maxLen] at *; omega))
          | ((with_reducible apply wl_v); exact rfl; (with_reducible apply v_addN); exact rfl; exact rfl; (simp only [maxLen] at *; omega))
          | ((with_reducible apply wl_v); exact rfl; (with_reducible apply v_predN); exact rfl; exact rfl; omega; (simp only [maxLen] at *; omega))
          | ((with_reducible apply wl_v); exact rfl; (with_reducible apply v_subN); exact rfl; exact rfl; omega; (simp only [maxLen] at *; omega)))
        refine ⟨(i + 1, o), ?_, (by first | omega | (dsimp only; omega)), (by (repeat (first | exact Sub.nil _ | refine Sub.cons rfl ?_))), (by (repeat (first | exact Sub.nil _ | refine Sub.cons rfl ?_))), (by (repeat (first | exact MSub.nil _ | refine MSub.pick (by (repeat first | exact .hd | apply Sel.tl | apply In.tl)) ?_ | exact MSub.refl _ | refine MSub.drop .hd ?_)))⟩
        exact ⟨hlt, ho3⟩
      · rw [if_neg hT3] at d2
        dsimp only at k1 s1 d2
        repeat' (first
          | ((with_reducible apply wl_call (f := 20)); exact rfl; exact rfl; (intro w' h; exact k1 _ w' (Reads.of_own (A := some g1) h (by (repeat first | exact .hd | apply Sel.tl | apply In.tl)))); (rintro v H' ⟨A3, cap3, rfl, rfl⟩))
          | ((with_reducible apply wl_call (f := 22)); exact rfl; exact rfl; (intro w' h; exact s1 _ w' (Reads.of_own (A := some g1) h (by (repeat first | exact .hd | apply Sel.tl | apply In.tl)))); (rintro v H' ⟨A4, cap4, rfl, rfl⟩; refine wl_some (A := A4) (by (repeat first | exact .hd | apply Sel.tl | apply In.tl)) hTpos fun g4 hA4 => ?_; subst hA4))
          | ((with_reducible apply wl_callp (xs := [.tmp 80])); exact rfl; exact rfl; (intro w' h; exact d2 _ w' (Reads.of_own (A := some g4) h (by (repeat first | exact .hd | apply Sel.tl | apply In.tl)))))
          | ((with_reducible apply wq_v); exact rfl; (with_reducible apply v_indexAddr); exact rfl; exact rfl; omega)
          | ((with_reducible apply wq_v); exact rfl; (with_reducible apply v_loadi_own); exact encN_len; exact rfl; (repeat first | exact .hd | apply Sel.tl | apply In.tl); first | exact hTlast | exact hn)
          | ((with_reducible apply wq_v); exact rfl; (with_reducible apply v_neqN_same); exact rfl; exact rfl)
          | ((with_reducible first | apply wl_v | apply wq_v); exact rfl; (first | ((with_reducible apply vop_ok); exact rfl) | ((with_reducible apply v_fieldAddr); exact rfl) | ((with_reducible apply v_len); exact rfl) | ((with_reducible apply v_lens); exact rfl) | ((with_reducible apply v_load_box); exact rfl; (repeat first | exact .hd | apply Sel.tl | apply In.tl); exact rfl) | ((with_reducible apply v_eqlb); exact rfl; exact rfl) | ((with_reducible apply v_neqb); exact rfl; exact rfl) | ((with_reducible apply v_loadw_box); exact rfl; (repeat first | exact .hd | apply Sel.tl | apply In.tl); exact rfl) | ((with_reducible apply v_loadn_box); exact rfl; (repeat first | exact .hd | apply Sel.tl | apply In.tl); exact rfl; exact rfl)))
          | ((with_reducible first | apply wl_gyes | apply wq_gyes); exact rfl; exact rfl)
          | ((with_reducible first | apply wl_gno_b | apply wq_gno_b); exact rfl; exact rfl; exact rfl; exact rfl)
          | ((with_reducible first | apply wl_gno_u | apply wq_gno_u); exact rfl; exact rfl; exact rfl)
          | ((with_reducible apply wl_storen_box); exact rfl; exact rfl; (repeat first | exact .hd | apply Sel.tl | apply In.tl); exact rfl; exact rfl; exact rfl)
          | ((with_reducible apply wl_putn_box); exact rfl; exact rfl; (repeat first | exact .hd | apply Sel.tl | apply In.tl); exact rfl; exact rfl; exact rfl; exact rfl)
          | ((with_reducible apply wl_buildSlice); exact rfl; exact rfl; exact rfl; exact rfl; exact rfl; exact rfl; exact rfl; intro _)
          | ((with_reducible first | apply wl_gsplit | apply wq_gsplit) <;> first | exact rfl | (intro hb; (replace hb := Tidy.out hb; try (exfalso; omega))))
          | (with_reducible first | apply wl_nil | apply thn_n | apply w_seq | apply w_region | apply w_ret | apply w_skip | apply w_exit | apply w_block | apply thn_r | apply thn_e | apply blk_n | apply blk_r | apply blk_e | apply wq_nil | apply cut_r | apply cut_e)
          | ((with_reducible apply w_cond_true); exact rfl)
          | ((with_reducible apply w_cond_false); exact rfl)
          | ((with_reducible apply w_cond) <;> first | exact rfl | (intro hb; (replace hb := Tidy.out hb; try (exfalso; omega))))
          | ((with_reducible apply blk_x); exact rfl)
          | ((with_reducible apply cut_n (i := ())) <;> first | exact trivial | ((repeat (first | exact Sub.nil _ | refine Sub.cons rfl ?_)); done) | ((repeat (first | exact MSub.nil _ | refine MSub.pick (by (repeat first | exact .hd | apply Sel.tl | apply In.tl)) ?_ | exact MSub.refl _ | refine MSub.drop .hd ?_)); done))
          | ((with_reducible first | apply wl_v | apply wq_v); exact rfl; (with_reducible apply v_succN); exact rfl; exact rfl; (simp only [maxLen] at *; omega))
          | ((with_reducible first | apply wl_v | apply wq_v); exact rfl; (with_reducible apply v_1addN); exact rfl; exact rfl; (simp only [maxLen] at *; omega))
          | ((with_reducible first | apply wl_v | apply wq_v); exact rfl; (with_reducible apply v_addN); exact rfl; exact rfl; (simp only [maxLen] at *; omega))
          | ((with_reducible first | apply wl_v | apply wq_v); exact rfl; (with_reducible apply v_predN); exact rfl; exact rfl; omega; (simp only [maxLen] at *; omega))
          | ((with_reducible first | apply wl_v | apply wq_v); exact rfl; (with_reducible apply v_subN); exact rfl; exact rfl; omega; (simp only [maxLen] at *; omega))
          | ((with_reducible apply w_draw); kernel_rfl; kernel_rfl))
        refine w_nilrow 22 1 ?_
        refine w_loopK [0, 3, 5, 6, 7, 9] rfl (fun y : Nat × List Int × (Option Nat × Nat) × List Value × List Blk => [(13, sl y.2.2.1.1 y.1 y.2.2.1.2), (14, .int .i64 (y.1 : Int))])
          (fun y => .own y.2.2.1.1 22 1 y.1 y.2.2.1.2 y.2.2.2.1 :: .own (some gO) 3 1 M.length M.length (intsI y.2.1) :: .own (some g1) 40 11 M.length cap1 (M.flatMap encN) :: .own A3 3 1 (kidsH i x).length cap3 (intsV (kidsH i x)) :: .own (some g4) 40 11 x.2.ns.length cap4 (x.2.ns.flatMap encN) :: y.2.2.2.2)
          (fun y => y.1 ≤ x.1.length ∧ OwnOk (fun k => ownB Hi i k || decide (k ∈ (kidsH i x).take y.1)) M.length y.2.1 ∧ Held encN w y.2.2.2.2 y.2.2.2.1 ((x.1.take y.1).map STree.ns)) (fun y => x.1.length - y.1) (0, o, (none, 0), [], [])
          ⟨Nat.zero_le _, by simpa [OwnOk] using ho, Held.nil⟩ (by (repeat (first | exact Sub.nil _ | refine Sub.cons rfl ?_))) (by (repeat (first | exact MSub.nil _ | refine MSub.pick (by (repeat first | exact .hd | apply Sel.tl | apply In.tl)) ?_ | exact MSub.refl _ | refine MSub.drop .hd ?_))) ?_
        rintro ⟨c, o2, ⟨Al, cl⟩, vals, F⟩ ⟨hc1, ho2, hheld⟩
        dsimp only at hc1 ho2 hheld ⊢
        by_cases hcx : c < x.1.length
        · refine w_some (A := A3) (.tl (.tl (.tl .hd))) (by omega) fun g3 hA3 => ?_
          subst hA3
          obtain ⟨top, r, hr1, hr2⟩ := kid_tree hW hx hcx
          have hrm := List.mem_of_getElem? hr1
          have hrb := hkr.2 r hrm
          obtain ⟨hnew1, hnew2⟩ := kid_new hW hx hr1
          have hlv : vals.length = c := by unfold Held at hheld; rw [hheld.1]; simp; omega
          have hrv : (intsV (kidsH i x))[0 + c * 1]? = some (.int .i64 (r : Int)) := by rw [Nat.zero_add, Nat.mul_one]; simp [intsV, hr1]
          obtain ⟨hset, hget⟩ := ho2.set (g := fun k => ownB Hi i k || decide (k ∈ (kidsH i x).take (c + 1))) (r := r) (by omega) (by simp [hnew1, hnew2]) (fun k => by
            rw [List.take_add_one, hr1]
            simp only [Option.toList_some, List.mem_append, List.mem_singleton, Bool.or_assoc, Bool.decide_or])
          have hgv : (intsI o2)[0 + r * 1]? = some (.int .i64 0) := by rw [Nat.zero_add, Nat.mul_one]; exact intsI_get hget
          have hsv : (intsI o2).set (0 + r * 1) (.int .i64 (0 + 1)) = intsI (o2.set r 1) := by rw [Nat.zero_add, Nat.mul_one, Int.zero_add, intsI_set]
          have s2 := fun v w' h => Sub_at M (r : Int) v w' h (by omega)
          rw [subE_whole hW hc hct hr2] at s2
          dsimp only at s2
          -- the kid before
          obtain ⟨q, hprev⟩ : ∃ q : Nat, 0 < c → (intsV (kidsH i x))[0 + (c - 1) * 1]? = some (.int .i64 (q : Int)) ∧ q < r := by
            have h1 : c - 1 < (kidsH i x).length := by omega
            refine ⟨(kidsH i x)[c - 1], fun h0 => ⟨by rw [Nat.zero_add, Nat.mul_one]; simp [intsV, h1], ?_⟩⟩
            obtain ⟨h2, h3⟩ := List.getElem?_eq_some_iff.1 hr1
            rw [← h3]
            exact List.pairwise_iff_getElem.1 hkr.1 (c - 1) c h1 h2 (by omega)
          have hlast : c = x.1.length - 1 → r = i - 1 := fun h0 => by
            have := kids_last hW hx (by omega)
            rw [← h0, hr1] at this
            exact Option.some.inj this
          repeat' (first
            | ((with_reducible apply wq_v); exact rfl; (with_reducible apply v_indexAddr); exact rfl; exact rfl; omega)
            | ((with_reducible apply wq_v); exact rfl; (with_reducible apply v_load_own); exact rfl; (repeat first | exact .hd | apply Sel.tl | apply In.tl); first | exact hrv | exact (hprev (by omega)).1)
            | ((with_reducible apply w_keepR (id := 20) [0, 3, 5, 6, 7, 9, 13, 14]); exact rfl)
            | ((with_reducible apply wl_store_own); exact rfl; exact rfl; (repeat first | exact .hd | apply Sel.tl | apply In.tl); exact rfl; (rw [intsI_length, ho2.1]; omega); rw [hsv])
            | ((with_reducible apply wl_call (f := 22)); exact rfl; exact rfl; (intro w' h; exact s2 _ w' (Reads.of_own (A := some g1) h (by (repeat first | exact .hd | apply Sel.tl | apply In.tl)))); (rintro v H' ⟨A5, cap5, rfl, rfl⟩))
            | ((with_reducible apply wl_append); exact rfl; exact rfl; exact rfl; (repeat first | exact .hd | apply Sel.tl | apply In.tl); (intro w hm; exact hm.cells_own (by (repeat first | exact .hd | apply Sel.tl | apply In.tl))); exact rfl; (simp [Value.oneCell', sl]); omega; (simp only [maxLen]; omega); (intro A6 c6 h6))
            | ((with_reducible apply wl_v); exact rfl; (with_reducible apply v_add); exact rfl; exact rfl; exact ⟨by omega, by omega⟩)
            | ((with_reducible apply wl_v); exact rfl; (with_reducible apply v_indexAddr); exact rfl; exact rfl; omega)
            | ((with_reducible apply wl_v); exact rfl; (with_reducible apply v_load_own); exact rfl; (repeat first | exact .hd | apply Sel.tl | apply In.tl); first | exact hrv | exact hgv)
            | ((with_reducible first | apply wl_v | apply wq_v); exact rfl; (first | ((with_reducible apply vop_ok); exact rfl) | ((with_reducible apply v_fieldAddr); exact rfl) | ((with_reducible apply v_len); exact rfl) | ((with_reducible apply v_lens); exact rfl) | ((with_reducible apply v_load_box); exact rfl; (repeat first | exact .hd | apply Sel.tl | apply In.tl); exact rfl) | ((with_reducible apply v_eqlb); exact rfl; exact rfl) | ((with_reducible apply v_neqb); exact rfl; exact rfl) | ((with_reducible apply v_loadw_box); exact rfl; (repeat first | exact .hd | apply Sel.tl | apply In.tl); exact rfl) | ((with_reducible apply v_loadn_box); exact rfl; (repeat first | exact .hd | apply Sel.tl | apply In.tl); exact rfl; exact rfl)))
            | ((with_reducible first | apply wl_gyes | apply wq_gyes); exact rfl; exact rfl)
            | ((with_reducible first | apply wl_gno_b | apply wq_gno_b); exact rfl; exact rfl; exact rfl; exact rfl)
            | ((with_reducible first | apply wl_gno_u | apply wq_gno_u); exact rfl; exact rfl; exact rfl)
            | ((with_reducible apply wl_storen_box); exact rfl; exact rfl; (repeat first | exact .hd | apply Sel.tl | apply In.tl); exact rfl; exact rfl; exact rfl)
            | ((with_reducible apply wl_putn_box); exact rfl; exact rfl; (repeat first | exact .hd | apply Sel.tl | apply In.tl); exact rfl; exact rfl; exact rfl; exact rfl)
            | ((with_reducible apply wl_buildSlice); exact rfl; exact rfl; exact rfl; exact rfl; exact rfl; exact rfl; exact rfl; intro _)
            | ((with_reducible first | apply wl_gsplit | apply wq_gsplit) <;> first | exact rfl | (intro hb; (replace hb := Tidy.out hb; try (exfalso; omega))))
            | (with_reducible first | apply wl_nil | apply thn_n | apply w_seq | apply w_region | apply w_ret | apply w_skip | apply w_exit | apply w_block | apply thn_r | apply thn_e | apply blk_n | apply blk_r | apply blk_e | apply wq_nil | apply cut_r | apply cut_e)
            | ((with_reducible apply w_cond_true); exact rfl)
            | ((with_reducible apply w_cond_false); exact rfl)
            | ((with_reducible apply w_cond) <;> first | exact rfl | (intro hb; (replace hb := Tidy.out hb; try (exfalso; omega))))
            | ((with_reducible apply blk_x); exact rfl)
            | ((with_reducible apply cut_n (i := ())) <;> first | exact trivial | ((repeat (first | exact Sub.nil _ | refine Sub.cons rfl ?_)); done) | ((repeat (first | exact MSub.nil _ | refine MSub.pick (by (repeat first | exact .hd | apply Sel.tl | apply In.tl)) ?_ | exact MSub.refl _ | refine MSub.drop .hd ?_)); done))
            | ((with_reducible first | apply wl_v | apply wq_v); exact rfl; (with_reducible apply v_succN); exact rfl; exact rfl; (simp only [maxLen] at *; omega))
            | ((with_reducible first | apply wl_v | apply wq_v); exact rfl; (with_reducible apply v_1addN); exact rfl; exact rfl; (simp only [maxLen] at *; omega))
            | ((with_reducible first | apply wl_v | apply wq_v); exact rfl; (with_reducible apply v_addN); exact rfl; exact rfl; (simp only [maxLen] at *; omega))
            | ((with_reducible first | apply wl_v | apply wq_v); exact rfl; (with_reducible apply v_predN); exact rfl; exact rfl; omega; (simp only [maxLen] at *; omega))
            | ((with_reducible first | apply wl_v | apply wq_v); exact rfl; (with_reducible apply v_subN); exact rfl; exact rfl; omega; (simp only [maxLen] at *; omega))
            | ((with_reducible apply w_draw); kernel_rfl; kernel_rfl))
          have hTc : (x.1.take (c + 1)).map STree.ns = (x.1.take c).map STree.ns ++ [x.1[c].ns] := by
            rw [List.take_succ_eq_append_getElem hcx, List.map_append]; rfl
          refine ⟨(c + 1, o2.set r 1, (A6, c6), vals ++ [sl A5 x.1[c].ns.length cap5], .own A5 40 11 x.1[c].ns.length cap5 (x.1[c].ns.flatMap encN) :: F), ⟨hcx, hset, ?_⟩, (by first | omega | (dsimp only; omega)), (by (repeat (first | exact Sub.nil _ | refine Sub.cons rfl ?_))), (by (repeat (first | exact Sub.nil _ | refine Sub.cons rfl ?_))), (by (repeat (first | exact MSub.nil _ | refine MSub.pick (by (repeat first | exact .hd | apply Sel.tl | apply In.tl)) ?_ | exact MSub.refl _ | refine MSub.drop .hd ?_)))⟩
          dsimp only
          rw [hTc]
          exact hheld.snoc (.drop .hd (.refl _)) fun w' hm => Reads.of_own (A := A5) hm .hd
        · have e : c = x.1.length := by omega
          subst e
          have hlv : vals.length = x.1.length := by unfold Held at hheld; rw [hheld.1]; simp
          rw [List.take_of_length_le (Nat.le_refl _)] at hheld
          have ho3 : OwnOk (ownB Hi (i + 1)) M.length o2 := by
            refine ⟨ho2.1, fun k hk => ?_⟩
            rw [ho2.2 k hk, ownB_succ, List.take_of_length_le (by omega)]
            simp [kidsL, hx]
          have hn3 : n.kind ≠ 3 := by rw [← hTk]; exact hT3
          have hj := fun v w' h => Join_at n (x.1.map STree.ns) v w' h
          rw [joinE_good (by rw [← e2]; exact hgT) hgt (by rw [← e2]; exact hTlen) hn3, ← e2] at hj
          dsimp only at hj
          repeat' (first
            | ((with_reducible apply wl_v); exact rfl; (with_reducible apply v_indexAddr); exact rfl; exact rfl; omega)
            | ((with_reducible apply wl_v); exact rfl; (with_reducible apply v_loadi_own); exact encN_len; exact rfl; (repeat first | exact .hd | apply Sel.tl | apply In.tl); exact hn)
            | ((with_reducible apply wl_v); exact rfl; (with_reducible apply v_loadc_own); exact encN_len; exact rfl; (repeat first | exact .hd | apply Sel.tl | apply In.tl); decide; exact hTlast; exact rfl)
            | ((with_reducible apply wl_call (f := 30)); exact rfl; exact rfl; (intro w' h; exact hj _ w' (hheld.readsLL h (by (repeat (first | exact MSub.nil _ | refine MSub.pick (by (repeat first | exact .hd | apply Sel.tl | apply In.tl)) ?_ | exact MSub.refl _ | refine MSub.drop .hd ?_))) (by rw [List.length_map]; exact Reads.of_own (A := Al) h (by (repeat first | exact .hd | apply Sel.tl | apply In.tl))))); (rintro v H' ⟨A7, cap7, rfl, rfl⟩))
            | ((with_reducible apply wl_callp); exact rfl; exact rfl; (intro w' h; exact EqualTree_same x.2.ns _ _ w' (Reads.of_own (A := A7) h (by (repeat first | exact .hd | apply Sel.tl | apply In.tl))) (Reads.of_own (A := some g4) h (by (repeat first | exact .hd | apply Sel.tl | apply In.tl)))))
            | ((with_reducible apply wl_v); exact rfl; (first | ((with_reducible apply vop_ok); exact rfl) | ((with_reducible apply v_fieldAddr); exact rfl) | ((with_reducible apply v_len); exact rfl) | ((with_reducible apply v_lens); exact rfl) | ((with_reducible apply v_load_box); exact rfl; (repeat first | exact .hd | apply Sel.tl | apply In.tl); exact rfl) | ((with_reducible apply v_eqlb); exact rfl; exact rfl) | ((with_reducible apply v_neqb); exact rfl; exact rfl) | ((with_reducible apply v_loadw_box); exact rfl; (repeat first | exact .hd | apply Sel.tl | apply In.tl); exact rfl) | ((with_reducible apply v_loadn_box); exact rfl; (repeat first | exact .hd | apply Sel.tl | apply In.tl); exact rfl; exact rfl)))
            | ((with_reducible apply wl_gyes); exact rfl; exact rfl)
            | ((with_reducible apply wl_gno_b); exact rfl; exact rfl; exact rfl; exact rfl)
            | ((with_reducible apply wl_gno_u); exact rfl; exact rfl; exact rfl)
            | ((with_reducible apply wl_storen_box); exact rfl; exact rfl; (repeat first | exact .hd | apply Sel.tl | apply In.tl); exact rfl; exact rfl; exact rfl)
            | ((with_reducible apply wl_putn_box); exact rfl; exact rfl; (repeat first | exact .hd | apply Sel.tl | apply In.tl); exact rfl; exact rfl; exact rfl; exact rfl)
            | ((with_reducible apply wl_buildSlice); exact rfl; exact rfl; exact rfl; exact rfl; exact rfl; exact rfl; exact rfl; intro _)
            | ((with_reducible apply wl_gsplit) <;> first | exact rfl | (intro hb; (replace hb := Tidy.out hb; try (exfalso; omega))))
            | (with_reducible first | apply wl_nil | apply thn_n | apply w_seq | apply w_region | apply w_ret | apply w_skip | apply w_exit | apply w_block | apply thn_r | apply thn_e | apply blk_n | apply blk_r | apply blk_e | apply cut_r | apply cut_e)
            | ((with_reducible apply w_cond_true); exact rfl)
            | ((with_reducible apply w_cond_false); exact rfl)
            | ((with_reducible apply w_cond) <;> first | exact rfl | (intro hb; (replace hb := Tidy.out hb; try (exfalso; omega))))
            | ((with_reducible apply blk_x); exact rfl)
            | ((with_reducible apply cut_n (i := ())) <;> first | exact trivial | ((repeat (first | exact Sub.nil _ | refine Sub.cons rfl ?_)); done) | ((repeat (first | exact MSub.nil _ | refine MSub.pick (by (repeat first | exact .hd | apply Sel.tl | apply In.tl)) ?_ | exact MSub.refl _ | refine MSub.drop .hd ?_)); done))
            | ((with_reducible apply wl_v); exact rfl; (with_reducible apply v_succN); exact rfl; exact rfl; (simp only [maxLen] at *; omega))
            | ((with_reducible apply wl_v); exact rfl; (with_reducible apply v_1addN); exact rfl; exact rfl; (simp only [maxLen] at *; omega))
            | ((with_reducible apply wl_v); exact rfl; (with_reducible apply v_addN); exact rfl; exact rfl; (simp only [maxLen] at *; omega))
            | ((with_reducible apply wl_v); exact rfl; (with_reducible apply v_predN); exact rfl; exact rfl; omega; (simp only [maxLen] at *; omega))
            | ((with_reducible apply wl_v); exact rfl; (with_reducible apply v_subN); exact rfl; exact rfl; omega; (simp only [maxLen] at *; omega)))
          refine ⟨(i + 1, o2), ?_, (by first | omega | (dsimp only; omega)), (by (repeat (first | exact Sub.nil _ | refine Sub.cons rfl ?_))), (by (repeat (first | exact Sub.nil _ | refine Sub.cons rfl ?_))), (by (repeat (first | exact MSub.nil _ | refine MSub.pick (by (repeat first | exact .hd | apply Sel.tl | apply In.tl)) ?_ | exact MSub.refl _ | refine MSub.drop .hd ?_)))⟩
          exact ⟨hlt, ho3⟩
    · have e : i = M.length := by omega
      subst e
      have hoN : ∀ k, k < M.length → (intsI o)[0 + k * 1]? = some (.int .i64 (if decide (k < M.length - 1) then 1 else 0)) := fun k hk => by
        rw [Nat.zero_add, Nat.mul_one]
        exact intsI_get (by rw [ho.2 k hk, ownB_all hW hk])
      have hlastv := hoN (M.length - 1) (by omega)
      rw [decide_eq_false (by omega)] at hlastv
      repeat' (first
        | ((with_reducible apply wl_v); exact rfl; (first | ((with_reducible apply vop_ok); exact rfl) | ((with_reducible apply v_fieldAddr); exact rfl) | ((with_reducible apply v_len); exact rfl) | ((with_reducible apply v_lens); exact rfl) | ((with_reducible apply v_load_box); exact rfl; (repeat first | exact .hd | apply Sel.tl | apply In.tl); exact rfl) | ((with_reducible apply v_eqlb); exact rfl; exact rfl) | ((with_reducible apply v_neqb); exact rfl; exact rfl) | ((with_reducible apply v_loadw_box); exact rfl; (repeat first | exact .hd | apply Sel.tl | apply In.tl); exact rfl) | ((with_reducible apply v_loadn_box); exact rfl; (repeat first | exact .hd | apply Sel.tl | apply In.tl); exact rfl; exact rfl)))
        | ((with_reducible apply wl_gyes); exact rfl; exact rfl)
        | ((with_reducible apply wl_gno_b); exact rfl; exact rfl; exact rfl; exact rfl)
        | ((with_reducible apply wl_gno_u); exact rfl; exact rfl; exact rfl)
        | ((with_reducible apply wl_storen_box); exact rfl; exact rfl; (repeat first | exact .hd | apply Sel.tl | apply In.tl); exact rfl; exact rfl; exact rfl)
        | ((with_reducible apply wl_putn_box); exact rfl; exact rfl; (repeat first | exact .hd | apply Sel.tl | apply In.tl); exact rfl; exact rfl; exact rfl; exact rfl)
        | ((with_reducible apply wl_buildSlice); exact rfl; exact rfl; exact rfl; exact rfl; exact rfl; exact rfl; exact rfl; intro _)
        | ((with_reducible apply wl_gsplit) <;> first | exact rfl | (intro hb; (replace hb := Tidy.out hb; try (exfalso; omega))))
        | (with_reducible first | apply wl_nil | apply thn_n | apply w_seq | apply w_region | apply w_ret | apply w_skip | apply w_exit | apply w_block | apply thn_r | apply thn_e | apply blk_n | apply blk_r | apply blk_e | apply cut_r | apply cut_e)
        | ((with_reducible apply w_cond_true); exact rfl)
        | ((with_reducible apply w_cond_false); exact rfl)
        | ((with_reducible apply w_cond) <;> first | exact rfl | (intro hb; (replace hb := Tidy.out hb; try (exfalso; omega))))
        | ((with_reducible apply blk_x); exact rfl)
        | ((with_reducible apply cut_n (i := ())) <;> first | exact trivial | ((repeat (first | exact Sub.nil _ | refine Sub.cons rfl ?_)); done) | ((repeat (first | exact MSub.nil _ | refine MSub.pick (by (repeat first | exact .hd | apply Sel.tl | apply In.tl)) ?_ | exact MSub.refl _ | refine MSub.drop .hd ?_)); done)))
      refine w_loopK [0, 5] rfl (fun j : Nat => [(19, .int .i64 (j : Int))]) (fun _ => [.own (some gO) 3 1 M.length M.length (intsI o), .own (some g1) 40 11 M.length cap1 (M.flatMap encN)]) (fun j => j ≤ M.length) (fun j => M.length - j) 0 (Nat.zero_le _) (by (repeat (first | exact Sub.nil _ | refine Sub.cons rfl ?_))) (by (repeat (first | exact MSub.nil _ | refine MSub.pick (by (repeat first | exact .hd | apply Sel.tl | apply In.tl)) ?_ | exact MSub.refl _ | refine MSub.drop .hd ?_))) ?_
      rintro j hj
      by_cases hjl : j < M.length
      · by_cases hjr : j < M.length - 1
        · have hv := hoN j hjl
          rw [decide_eq_true hjr] at hv
          repeat' (first
            | ((with_reducible apply wl_v); exact rfl; (with_reducible apply v_indexAddr); exact rfl; exact rfl; omega)
            | ((with_reducible apply wl_v); exact rfl; (with_reducible apply v_load_own); exact rfl; (repeat first | exact .hd | apply Sel.tl | apply In.tl); first | exact hv | exact hlastv)
            | ((with_reducible apply wl_v); exact rfl; (first | ((with_reducible apply vop_ok); exact rfl) | ((with_reducible apply v_fieldAddr); exact rfl) | ((with_reducible apply v_len); exact rfl) | ((with_reducible apply v_lens); exact rfl) | ((with_reducible apply v_load_box); exact rfl; (repeat first | exact .hd | apply Sel.tl | apply In.tl); exact rfl) | ((with_reducible apply v_eqlb); exact rfl; exact rfl) | ((with_reducible apply v_neqb); exact rfl; exact rfl) | ((with_reducible apply v_loadw_box); exact rfl; (repeat first | exact .hd | apply Sel.tl | apply In.tl); exact rfl) | ((with_reducible apply v_loadn_box); exact rfl; (repeat first | exact .hd | apply Sel.tl | apply In.tl); exact rfl; exact rfl)))
            | ((with_reducible apply wl_gyes); exact rfl; exact rfl)
            | ((with_reducible apply wl_gno_b); exact rfl; exact rfl; exact rfl; exact rfl)
            | ((with_reducible apply wl_gno_u); exact rfl; exact rfl; exact rfl)
            | ((with_reducible apply wl_storen_box); exact rfl; exact rfl; (repeat first | exact .hd | apply Sel.tl | apply In.tl); exact rfl; exact rfl; exact rfl)
            | ((with_reducible apply wl_putn_box); exact rfl; exact rfl; (repeat first | exact .hd | apply Sel.tl | apply In.tl); exact rfl; exact rfl; exact rfl; exact rfl)
            | ((with_reducible apply wl_buildSlice); exact rfl; exact rfl; exact rfl; exact rfl; exact rfl; exact rfl; exact rfl; intro _)
            | ((with_reducible apply wl_gsplit) <;> first | exact rfl | (intro hb; (replace hb := Tidy.out hb; try (exfalso; omega))))
            | (with_reducible first | apply wl_nil | apply thn_n | apply w_seq | apply w_region | apply w_ret | apply w_skip | apply w_exit | apply w_block | apply thn_r | apply thn_e | apply blk_n | apply blk_r | apply blk_e | apply cut_r | apply cut_e)
            | ((with_reducible apply w_cond_true); exact rfl)
            | ((with_reducible apply w_cond_false); exact rfl)
            | ((with_reducible apply w_cond) <;> first | exact rfl | (intro hb; (replace hb := Tidy.out hb; try (exfalso; omega))))
            | ((with_reducible apply blk_x); exact rfl)
            | ((with_reducible apply cut_n (i := ())) <;> first | exact trivial | ((repeat (first | exact Sub.nil _ | refine Sub.cons rfl ?_)); done) | ((repeat (first | exact MSub.nil _ | refine MSub.pick (by (repeat first | exact .hd | apply Sel.tl | apply In.tl)) ?_ | exact MSub.refl _ | refine MSub.drop .hd ?_)); done))
            | ((with_reducible apply wl_v); exact rfl; (with_reducible apply v_succN); exact rfl; exact rfl; (simp only [maxLen] at *; omega))
            | ((with_reducible apply wl_v); exact rfl; (with_reducible apply v_1addN); exact rfl; exact rfl; (simp only [maxLen] at *; omega))
            | ((with_reducible apply wl_v); exact rfl; (with_reducible apply v_addN); exact rfl; exact rfl; (simp only [maxLen] at *; omega))
            | ((with_reducible apply wl_v); exact rfl; (with_reducible apply v_predN); exact rfl; exact rfl; omega; (simp only [maxLen] at *; omega))
            | ((with_reducible apply wl_v); exact rfl; (with_reducible apply v_subN); exact rfl; exact rfl; omega; (simp only [maxLen] at *; omega)))
          refine ⟨j + 1, ?_, (by first | omega | (dsimp only; omega)), (by (repeat (first | exact Sub.nil _ | refine Sub.cons rfl ?_))), (by (repeat (first | exact Sub.nil _ | refine Sub.cons rfl ?_))), (by (repeat (first | exact MSub.nil _ | refine MSub.pick (by (repeat first | exact .hd | apply Sel.tl | apply In.tl)) ?_ | exact MSub.refl _ | refine MSub.drop .hd ?_)))⟩
          exact hjl
        · have hv := hoN j hjl
          rw [decide_eq_false hjr] at hv
          repeat' (first
            | ((with_reducible apply wl_v); exact rfl; (with_reducible apply v_indexAddr); exact rfl; exact rfl; omega)
            | ((with_reducible apply wl_v); exact rfl; (with_reducible apply v_load_own); exact rfl; (repeat first | exact .hd | apply Sel.tl | apply In.tl); first | exact hv | exact hlastv)
            | ((with_reducible apply wl_v); exact rfl; (first | ((with_reducible apply vop_ok); exact rfl) | ((with_reducible apply v_fieldAddr); exact rfl) | ((with_reducible apply v_len); exact rfl) | ((with_reducible apply v_lens); exact rfl) | ((with_reducible apply v_load_box); exact rfl; (repeat first | exact .hd | apply Sel.tl | apply In.tl); exact rfl) | ((with_reducible apply v_eqlb); exact rfl; exact rfl) | ((with_reducible apply v_neqb); exact rfl; exact rfl) | ((with_reducible apply v_loadw_box); exact rfl; (repeat first | exact .hd | apply Sel.tl | apply In.tl); exact rfl) | ((with_reducible apply v_loadn_box); exact rfl; (repeat first | exact .hd | apply Sel.tl | apply In.tl); exact rfl; exact rfl)))
            | ((with_reducible apply wl_gyes); exact rfl; exact rfl)
            | ((with_reducible apply wl_gno_b); exact rfl; exact rfl; exact rfl; exact rfl)
            | ((with_reducible apply wl_gno_u); exact rfl; exact rfl; exact rfl)
            | ((with_reducible apply wl_storen_box); exact rfl; exact rfl; (repeat first | exact .hd | apply Sel.tl | apply In.tl); exact rfl; exact rfl; exact rfl)
            | ((with_reducible apply wl_putn_box); exact rfl; exact rfl; (repeat first | exact .hd | apply Sel.tl | apply In.tl); exact rfl; exact rfl; exact rfl; exact rfl)
            | ((with_reducible apply wl_buildSlice); exact rfl; exact rfl; exact rfl; exact rfl; exact rfl; exact rfl; exact rfl; intro _)
            | ((with_reducible apply wl_gsplit) <;> first | exact rfl | (intro hb; (replace hb := Tidy.out hb; try (exfalso; omega))))
            | (with_reducible first | apply wl_nil | apply thn_n | apply w_seq | apply w_region | apply w_ret | apply w_skip | apply w_exit | apply w_block | apply thn_r | apply thn_e | apply blk_n | apply blk_r | apply blk_e | apply cut_r | apply cut_e)
            | ((with_reducible apply w_cond_true); exact rfl)
            | ((with_reducible apply w_cond_false); exact rfl)
            | ((with_reducible apply w_cond) <;> first | exact rfl | (intro hb; (replace hb := Tidy.out hb; try (exfalso; omega))))
            | ((with_reducible apply blk_x); exact rfl)
            | ((with_reducible apply cut_n (i := ())) <;> first | exact trivial | ((repeat (first | exact Sub.nil _ | refine Sub.cons rfl ?_)); done) | ((repeat (first | exact MSub.nil _ | refine MSub.pick (by (repeat first | exact .hd | apply Sel.tl | apply In.tl)) ?_ | exact MSub.refl _ | refine MSub.drop .hd ?_)); done))
            | ((with_reducible apply wl_v); exact rfl; (with_reducible apply v_succN); exact rfl; exact rfl; (simp only [maxLen] at *; omega))
            | ((with_reducible apply wl_v); exact rfl; (with_reducible apply v_1addN); exact rfl; exact rfl; (simp only [maxLen] at *; omega))
            | ((with_reducible apply wl_v); exact rfl; (with_reducible apply v_addN); exact rfl; exact rfl; (simp only [maxLen] at *; omega))
            | ((with_reducible apply wl_v); exact rfl; (with_reducible apply v_predN); exact rfl; exact rfl; omega; (simp only [maxLen] at *; omega))
            | ((with_reducible apply wl_v); exact rfl; (with_reducible apply v_subN); exact rfl; exact rfl; omega; (simp only [maxLen] at *; omega)))
          refine ⟨j + 1, ?_, (by first | omega | (dsimp only; omega)), (by (repeat (first | exact Sub.nil _ | refine Sub.cons rfl ?_))), (by (repeat (first | exact Sub.nil _ | refine Sub.cons rfl ?_))), (by (repeat (first | exact MSub.nil _ | refine MSub.pick (by (repeat first | exact .hd | apply Sel.tl | apply In.tl)) ?_ | exact MSub.refl _ | refine MSub.drop .hd ?_)))⟩
          exact hjl
      · repeat' (first
          | ((with_reducible apply wl_callp); exact rfl; exact rfl; (intro w' h; exact awake_at w'))
          | ((with_reducible apply wl_v); exact rfl; (first | ((with_reducible apply vop_ok); exact rfl) | ((with_reducible apply v_fieldAddr); exact rfl) | ((with_reducible apply v_len); exact rfl) | ((with_reducible apply v_lens); exact rfl) | ((with_reducible apply v_load_box); exact rfl; (repeat first | exact .hd | apply Sel.tl | apply In.tl); exact rfl) | ((with_reducible apply v_eqlb); exact rfl; exact rfl) | ((with_reducible apply v_neqb); exact rfl; exact rfl) | ((with_reducible apply v_loadw_box); exact rfl; (repeat first | exact .hd | apply Sel.tl | apply In.tl); exact rfl) | ((with_reducible apply v_loadn_box); exact rfl; (repeat first | exact .hd | apply Sel.tl | apply In.tl); exact rfl; exact rfl)))
          | ((with_reducible apply wl_gyes); exact rfl; exact rfl)
          | ((with_reducible apply wl_gno_b); exact rfl; exact rfl; exact rfl; exact rfl)
          | ((with_reducible apply wl_gno_u); exact rfl; exact rfl; exact rfl)
          | ((with_reducible apply wl_storen_box); exact rfl; exact rfl; (repeat first | exact .hd | apply Sel.tl | apply In.tl); exact rfl; exact rfl; exact rfl)
          | ((with_reducible apply wl_putn_box); exact rfl; exact rfl; (repeat first | exact .hd | apply Sel.tl | apply In.tl); exact rfl; exact rfl; exact rfl; exact rfl)
          | ((with_reducible apply wl_buildSlice); exact rfl; exact rfl; exact rfl; exact rfl; exact rfl; exact rfl; exact rfl; intro _)
          | ((with_reducible apply wl_gsplit) <;> first | exact rfl | (intro hb; (replace hb := Tidy.out hb; try (exfalso; omega))))
          | (with_reducible first | apply wl_nil | apply thn_n | apply w_seq | apply w_region | apply w_ret | apply w_skip | apply w_exit | apply w_block | apply thn_r | apply thn_e | apply blk_n | apply blk_r | apply blk_e | apply cut_r | apply cut_e)
          | ((with_reducible apply w_cond_true); exact rfl)
          | ((with_reducible apply w_cond_false); exact rfl)
          | ((with_reducible apply w_cond) <;> first | exact rfl | (intro hb; (replace hb := Tidy.out hb; try (exfalso; omega))))
          | ((with_reducible apply blk_x); exact rfl)
          | ((with_reducible apply cut_n (i := ())) <;> first | exact trivial | ((repeat (first | exact Sub.nil _ | refine Sub.cons rfl ?_)); done) | ((repeat (first | exact MSub.nil _ | refine MSub.pick (by (repeat first | exact .hd | apply Sel.tl | apply In.tl)) ?_ | exact MSub.refl _ | refine MSub.drop .hd ?_)); done)))
        ((with_reducible apply ret1); exact .inl rfl; exact rfl; exact rfl; exact MSub.nil _)
        rfl
  · have hd : depthE M = (0, checkE M) := by unfold depthE; rw [if_pos hc]
    rw [hd] at d1
    repeat' (first
      | ((with_reducible apply wl_call (xs := [.tmp 20])); exact rfl; exact rfl; (intro w' h; exact hf1 w' _ h); (rintro v H' ⟨A1, cap1, rfl, rfl⟩))
      | ((with_reducible apply wl_callp); exact rfl; exact rfl; (intro w' h; exact d1 _ w' (Reads.of_own (A := A1) h (by (repeat first | exact .hd | apply Sel.tl | apply In.tl)))))
      | ((with_reducible apply wl_callp); exact rfl; exact rfl; (intro w' h; exact awake_at w'))
      | ((with_reducible apply wl_v); exact rfl; (first | ((with_reducible apply vop_ok); exact rfl) | ((with_reducible apply v_fieldAddr); exact rfl) | ((with_reducible apply v_len); exact rfl) | ((with_reducible apply v_lens); exact rfl) | ((with_reducible apply v_load_box); exact rfl; (repeat first | exact .hd | apply Sel.tl | apply In.tl); exact rfl) | ((with_reducible apply v_eqlb); exact rfl; exact rfl) | ((with_reducible apply v_neqb); exact rfl; exact rfl) | ((with_reducible apply v_loadw_box); exact rfl; (repeat first | exact .hd | apply Sel.tl | apply In.tl); exact rfl) | ((with_reducible apply v_loadn_box); exact rfl; (repeat first | exact .hd | apply Sel.tl | apply In.tl); exact rfl; exact rfl)))
      | ((with_reducible apply wl_gyes); exact rfl; exact rfl)
      | ((with_reducible apply wl_gno_b); exact rfl; exact rfl; exact rfl; exact rfl)
      | ((with_reducible apply wl_gno_u); exact rfl; exact rfl; exact rfl)
      | ((with_reducible apply wl_storen_box); exact rfl; exact rfl; (repeat first | exact .hd | apply Sel.tl | apply In.tl); exact rfl; exact rfl; exact rfl)
      | ((with_reducible apply wl_putn_box); exact rfl; exact rfl; (repeat first | exact .hd | apply Sel.tl | apply In.tl); exact rfl; exact rfl; exact rfl; exact rfl)
      | ((with_reducible apply wl_buildSlice); exact rfl; exact rfl; exact rfl; exact rfl; exact rfl; exact rfl; exact rfl; intro _)
      | ((with_reducible apply wl_gsplit) <;> first | exact rfl | (intro hb; (replace hb := Tidy.out hb; try (exfalso; omega))))
      | (with_reducible first | apply wl_nil | apply thn_n | apply w_seq | apply w_region | apply w_ret | apply w_skip | apply w_exit | apply w_block | apply thn_r | apply thn_e | apply blk_n | apply blk_r | apply blk_e | apply cut_r | apply cut_e)
      | ((with_reducible apply w_cond_true); exact rfl)
      | ((with_reducible apply w_cond_false); exact rfl)
      | ((with_reducible apply w_cond) <;> first | exact rfl | (intro hb; (replace hb := Tidy.out hb; try (exfalso; omega))))
      | ((with_reducible apply blk_x); exact rfl)
      | ((with_reducible apply cut_n (i := ())) <;> first | exact trivial | ((repeat (first | exact Sub.nil _ | refine Sub.cons rfl ?_)); done) | ((repeat (first | exact MSub.nil _ | refine MSub.pick (by (repeat first | exact .hd | apply Sel.tl | apply In.tl)) ?_ | exact MSub.refl _ | refine MSub.drop .hd ?_)); done)))
    ((with_reducible apply ret1); exact .inl rfl; exact rfl; exact rfl; exact MSub.nil _)
    rfl
end Go.SL

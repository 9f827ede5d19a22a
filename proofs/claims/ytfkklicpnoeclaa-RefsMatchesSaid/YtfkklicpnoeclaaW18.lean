/-
  What the document's Depth and Check return.
-/
import Derived.Test.YtfkklicpnoeclaaW17
import Derived.Test.YtfkklicpnoeclaaTr2
namespace Go.SL
open Go Go.Proofs
attribute [local irreducible] W WL WQ WG WA VOp thn blk cutP retP FnAt FnIn

theorem stepT_err {L : List Nd} {n : Nd} {i : Nat} {st : List Pt} {e : Int} (h : stepT L n i st = .inl e) : e ≠ 0 := by
  unfold stepT at h
  split at h
  · injection h with h; subst h; assumption
  · split at h
    · injection h with h; omega
    · split at h
      · injection h with h; omega
      · cases h

theorem stepT_shape {L : List Nd} {n : Nd} {i : Nat} {st st' : List Pt} {ks : List Nat} {d : Nat} (h : stepT L n i st = .inr (st', ks, d)) : ∃ a, (∀ p ∈ a, p ∈ st) ∧ a.length ≤ st.length ∧ st' = a ++ [⟨i, d, decide (n.kind = 3)⟩] ∧ d ≤ 32 := by
  unfold stepT at h
  split at h
  · cases h
  · split at h
    · cases h
    · split at h
      · cases h
      · simp only [Sum.inr.injEq, Prod.mk.injEq] at h
        obtain ⟨rfl, rfl, rfl⟩ := h
        exact ⟨_, fun p hp => List.mem_of_mem_take hp, by simp, rfl, by omega⟩

theorem topsOk_step {L : List Nd} {i : Nat} (hi : i < L.length) {st st' : List Pt} {ks : List Nat} {d : Nat} (ho : TopsOk L i st) (h : stepT L L[i] i st = .inr (st', ks, d)) : TopsOk L (i + 1) st' := by
  obtain ⟨a, h1, h2, rfl, h3⟩ := stepT_shape h
  refine ⟨fun p hp => ?_, by have := ho.small; simp; omega⟩
  rcases List.mem_append.1 hp with hp | hp
  · obtain ⟨q1, q2, q3⟩ := ho.ok p (h1 p hp)
    exact ⟨by omega, q2, q3⟩
  · rw [List.mem_singleton.1 hp]
    exact ⟨Nat.lt_succ_self i, h3, by rw [kindAt_get hi]⟩

def judgeT (L : List Nd) : List Nd → Nat → List Pt → List Pt × Int
  | [], _, st => (st, 0)
  | n :: r, i, st => match stepT L n i st with
    | .inl e => ([], e)
    | .inr x => judgeT L r (i + 1) x.1

def lastP (st : List Pt) : Nat := (st.getLast?.map Pt.depth).getD 0

theorem judge_walk (L : List Nd) : ∀ (r : List Nd) (i : Nat) (st : List Pt) (vs : List Visit), lastD vs = lastP st →
    (walkT L r i st vs).1 = (if (judgeT L r i st).2 ≠ 0 then (judgeT L r i st).2 else if (judgeT L r i st).1.length = 1 then 0 else 4) ∧ ((judgeT L r i st).2 = 0 → lastD (walkT L r i st vs).2 = lastP (judgeT L r i st).1)
  | [], i, st, vs, h => by
    refine ⟨?_, fun _ => h⟩
    by_cases h1 : st.length = 1 <;> simp [walkT, judgeT, h1]
  | n :: r, i, st, vs, h => by
    rw [walkT, judgeT]
    cases hs : stepT L n i st with
    | inl e => have := stepT_err hs; simp [this]
    | inr x =>
      obtain ⟨st', ks, d⟩ := x
      obtain ⟨a, _, _, rfl, _⟩ := stepT_shape hs
      dsimp only
      exact judge_walk L r (i + 1) _ _ (by simp [lastD, lastP])

theorem refDepth_eq (L : List Nd) : depthE L = (if 256 < L.length then (0, 5) else if (judgeT L L 0 []).2 ≠ 0 then (0, (judgeT L L 0 []).2) else if (judgeT L L 0 []).1.length ≠ 1 ∨ kindAt L (L.length - 1) = 3 then (0, 4) else (((lastP (judgeT L L 0 []).1 : Nat) : Int), 0) : Int × Int) := by
  obtain ⟨h1, h2⟩ := judge_walk L L 0 [] [] rfl
  have h0 : L.length = 0 → (judgeT L L 0 []).2 = 0 ∧ (judgeT L L 0 []).1.length = 0 := fun c => by
    have : L = [] := List.eq_nil_of_length_eq_zero c
    subst this
    simp [judgeT]
  unfold depthE checkE checkT
  generalize walkT L L 0 [] [] = wk at h1 h2
  generalize judgeT L L 0 [] = j at h0 h1 h2
  generalize kindAt L (L.length - 1) = k
  obtain ⟨w1, w2⟩ := wk
  obtain ⟨j1, j2⟩ := j
  dsimp only at h0 h1 h2 ⊢
  by_cases c1 : 256 < L.length
  · simp [c1]
  by_cases c2 : L.length = 0
  · obtain ⟨a1, a2⟩ := h0 c2
    simp only [if_neg c1, if_pos c2]
    simp [a1, a2]
  simp only [if_neg c1, if_neg c2]
  clear c1 c2 h0
  by_cases c3 : j2 = 0
  · have h2' := h2 c3
    by_cases c4 : j1.length = 1
    · by_cases c5 : k = 3 <;> simp_all
    · simp_all
  · simp_all

set_option maxRecDepth 20000 in
theorem judge_at (L : List Nd) (hlen : L.length ≤ 256) (hwf : ∀ n ∈ L, wfN n) (tv : Value) (w : World) (ht : Reads w tv L.length (L.flatMap encN)) :
    FnAt Try.prog 56 [tv] w fun v H => ∃ A cap, v = .tuple #[sl A (judgeT L L 0 []).1.length cap, .int .i64 (judgeT L L 0 []).2] ∧ H = [.own A 88 2 (judgeT L L 0 []).1.length cap ((judgeT L L 0 []).1.flatMap encT)] := by
  have ht' := ht
  obtain ⟨At, ct, rfl, ht1, ht2, ht3⟩ := ht
  refine fn_at Try.func56 rfl Try.ntmps56 rfl ?_
  refine w_nilrow 88 2 ?_
  refine w_nilrow 88 2 ?_
  generalize hR : judgeT L L 0 [] = R
  repeat' (first
    | ((with_reducible apply wl_v); exact rfl; (first | ((with_reducible apply vop_ok); exact rfl) | ((with_reducible apply v_len); exact rfl) | ((with_reducible apply v_lens); exact rfl) | ((with_reducible apply v_eqlb); exact rfl; exact rfl) | ((with_reducible apply v_neqb); exact rfl; exact rfl)))
    | (with_reducible first | apply wl_nil | apply thn_n | apply w_seq | apply w_region | apply w_ret | apply w_skip | apply w_exit | apply w_block | apply thn_r | apply thn_e | apply blk_n | apply blk_r | apply blk_e)
    | ((with_reducible apply w_cond_true); exact rfl)
    | ((with_reducible apply w_cond_false); exact rfl)
    | ((with_reducible apply w_cond) <;> first | exact rfl | (intro hb; (replace hb := Tidy.out hb; try (exfalso; omega))))
    | ((with_reducible apply blk_x); exact rfl))
  refine w_loopK [0] rfl (fun x : Nat × List Pt × Option Nat × Nat => [(4, sl x.2.2.1 x.2.1.length x.2.2.2), (5, .int .i64 (x.1 : Int))]) (fun x => [.own x.2.2.1 88 2 x.2.1.length x.2.2.2 (x.2.1.flatMap encT), .own none 88 2 0 0 []]) (fun x => x.1 ≤ L.length ∧ TopsOk L x.1 x.2.1 ∧ R = judgeT L (L.drop x.1) x.1 x.2.1) (fun x => L.length - x.1) (0, [], none, 0) ⟨by omega, ⟨fun p hp => by simp at hp, Nat.zero_le _⟩, hR.symm⟩ (by (repeat (first | exact Sub.nil _ | refine Sub.cons rfl ?_))) (by (repeat (first | exact MSub.nil _ | refine MSub.pick (by (repeat first | exact .hd | apply Sel.tl | apply In.tl)) ?_ | exact MSub.refl _ | refine MSub.drop .hd ?_))) ?_
  rintro ⟨i, st, A, cap⟩ ⟨hi, hok, hrec⟩
  dsimp only at hi hok hrec ⊢
  by_cases hlt : i < L.length
  · rw [List.drop_eq_getElem_cons hlt, judgeT] at hrec
    have hnode := fun (w' : World) (H : List Blk) (hm : Mem w w' H) (hr : Reads w' (sl A st.length cap) st.length (st.flatMap encT)) => refNode_at L i hlt hlen (hwf _ (List.getElem_mem hlt)) st hok _ _ w' (ht'.of_w0 hm) hr
    have hto := fun {st' ks d} => topsOk_step (st' := st') (ks := ks) (d := d) hlt hok
    unfold nodeR at hnode
    generalize hs : stepT L L[i] i st = s at hrec hnode hto
    cases s with
    | inl e =>
      have he := stepT_err hs
      dsimp only at hrec hnode
      subst hrec
      repeat' (first
        | ((with_reducible apply wl_call); exact rfl; exact rfl; (intro w' hm; exact hnode w' _ hm (Reads.of_own hm (by (repeat first | exact .hd | apply Sel.tl | apply In.tl)))); (rintro v H' ⟨A', cap', rfl, rfl⟩))
        | ((with_reducible apply wl_v); exact rfl; (first | ((with_reducible apply vop_ok); exact rfl) | ((with_reducible apply v_len); exact rfl) | ((with_reducible apply v_lens); exact rfl) | ((with_reducible apply v_eqlb); exact rfl; exact rfl) | ((with_reducible apply v_neqb); exact rfl; exact rfl)))
        | (with_reducible first | apply wl_nil | apply thn_n | apply w_seq | apply w_region | apply w_ret | apply w_skip | apply w_exit | apply w_block | apply thn_r | apply thn_e | apply blk_n | apply blk_r | apply blk_e)
        | ((with_reducible apply w_cond_true); exact rfl)
        | ((with_reducible apply w_cond_false); exact rfl)
        | ((with_reducible apply w_cond) <;> first | exact rfl | (intro hb; (replace hb := Tidy.out hb; try (exfalso; omega))))
        | ((with_reducible apply blk_x); exact rfl))
      · exact ret2 (.inl rfl) Try.results56 rfl rfl (H' := [.own none 88 2 0 0 []]) (by (repeat (first | exact MSub.nil _ | refine MSub.pick (by (repeat first | exact .hd | apply Sel.tl | apply In.tl)) ?_ | exact MSub.refl _ | refine MSub.drop .hd ?_))) ⟨none, 0, rfl, rfl⟩
    | inr x =>
      obtain ⟨st', ks, d⟩ := x
      dsimp only at hrec hnode
      repeat' (first
        | ((with_reducible apply wl_call); exact rfl; exact rfl; (intro w' hm; exact hnode w' _ hm (Reads.of_own hm (by (repeat first | exact .hd | apply Sel.tl | apply In.tl)))); (rintro v H' ⟨A', cap', rfl, rfl⟩))
        | ((with_reducible apply wl_v); exact rfl; (first | ((with_reducible apply vop_ok); exact rfl) | ((with_reducible apply v_len); exact rfl) | ((with_reducible apply v_lens); exact rfl) | ((with_reducible apply v_eqlb); exact rfl; exact rfl) | ((with_reducible apply v_neqb); exact rfl; exact rfl)))
        | (with_reducible first | apply wl_nil | apply thn_n | apply w_seq | apply w_region | apply w_ret | apply w_skip | apply w_exit | apply w_block | apply thn_r | apply thn_e | apply blk_n | apply blk_r | apply blk_e)
        | ((with_reducible apply w_cond_true); exact rfl)
        | ((with_reducible apply w_cond_false); exact rfl)
        | ((with_reducible apply w_cond) <;> first | exact rfl | (intro hb; (replace hb := Tidy.out hb; try (exfalso; omega))))
        | ((with_reducible apply blk_x); exact rfl)
        | ((with_reducible apply wl_v); exact rfl; (with_reducible apply v_succN); exact rfl; exact rfl; (simp only [maxLen] at *; omega))
        | ((with_reducible apply wl_v); exact rfl; (with_reducible apply v_1addN); exact rfl; exact rfl; (simp only [maxLen] at *; omega))
        | ((with_reducible apply wl_v); exact rfl; (with_reducible apply v_addN); exact rfl; exact rfl; (simp only [maxLen] at *; omega)))
      refine ⟨(i + 1, st', A', cap'), ?_, (by first | omega | (dsimp only; omega)), (by (repeat (first | exact Sub.nil _ | refine Sub.cons rfl ?_))), (by (repeat (first | exact Sub.nil _ | refine Sub.cons rfl ?_))), (by (repeat (first | exact MSub.nil _ | refine MSub.pick (by (repeat first | exact .hd | apply Sel.tl | apply In.tl)) ?_ | exact MSub.refl _ | refine MSub.drop .hd ?_)))⟩
      exact ⟨hlt, hto rfl, hrec⟩
  · have e : i = L.length := by omega
    subst e
    rw [List.drop_length, judgeT] at hrec
    subst hrec
    repeat' (first
      | ((with_reducible apply wl_v); exact rfl; (first | ((with_reducible apply vop_ok); exact rfl) | ((with_reducible apply v_len); exact rfl) | ((with_reducible apply v_lens); exact rfl) | ((with_reducible apply v_eqlb); exact rfl; exact rfl) | ((with_reducible apply v_neqb); exact rfl; exact rfl)))
      | (with_reducible first | apply wl_nil | apply thn_n | apply w_seq | apply w_region | apply w_ret | apply w_skip | apply w_exit | apply w_block | apply thn_r | apply thn_e | apply blk_n | apply blk_r | apply blk_e)
      | ((with_reducible apply w_cond_true); exact rfl)
      | ((with_reducible apply w_cond_false); exact rfl)
      | ((with_reducible apply w_cond) <;> first | exact rfl | (intro hb; (replace hb := Tidy.out hb; try (exfalso; omega))))
      | ((with_reducible apply blk_x); exact rfl))
    exact ret2 (.inl rfl) Try.results56 rfl rfl (H' := [.own A 88 2 st.length cap (st.flatMap encT)]) (by (repeat (first | exact MSub.nil _ | refine MSub.pick (by (repeat first | exact .hd | apply Sel.tl | apply In.tl)) ?_ | exact MSub.refl _ | refine MSub.drop .hd ?_))) ⟨A, cap, rfl, rfl⟩

theorem lastP_one {st : List Pt} (h : st.length = 1) : ∃ p, st = [p] ∧ lastP st = p.depth := by
  match st, h with
  | [p], _ => exact ⟨p, rfl, rfl⟩

set_option maxRecDepth 20000 in
theorem refDepth_at (L : List Nd) (hwf : ∀ n ∈ L, wfN n) (tv : Value) (w : World) (ht : Reads w tv L.length (L.flatMap encN)) : Pure Try.prog 19 [tv] w (.tuple #[.int .i64 (depthE L).1, .int .i64 (depthE L).2]) := by
  have ht' := ht
  obtain ⟨At, ct, rfl, ht1, ht2, ht3⟩ := ht
  refine fn_at Try.func19 rfl Try.ntmps19 rfl ?_
  have hd := refDepth_eq L
  generalize hde : depthE L = de at hd
  by_cases h256 : 256 < L.length
  · rw [if_pos h256] at hd
    subst hd
    repeat' (first
      | ((with_reducible apply wl_v); exact rfl; (first | ((with_reducible apply vop_ok); exact rfl) | ((with_reducible apply v_fieldAddr); exact rfl) | ((with_reducible apply v_len); exact rfl) | ((with_reducible apply v_lens); exact rfl) | ((with_reducible apply v_load_box); exact rfl; (repeat first | exact .hd | apply Sel.tl | apply In.tl); exact rfl) | ((with_reducible apply v_eqlb); exact rfl; exact rfl) | ((with_reducible apply v_neqb); exact rfl; exact rfl) | ((with_reducible apply v_loadw_box); exact rfl; (repeat first | exact .hd | apply Sel.tl | apply In.tl); exact rfl) | ((with_reducible apply v_loadn_box); exact rfl; (repeat first | exact .hd | apply Sel.tl | apply In.tl); exact rfl; exact rfl)))
      | ((with_reducible apply wl_gyes); exact rfl; exact rfl)
      | ((with_reducible apply wl_gno_b); exact rfl; exact rfl; exact rfl; exact rfl)
      | ((with_reducible apply wl_gno_u); exact rfl; exact rfl; exact rfl)
      | ((with_reducible apply wl_gsplit) <;> first | exact rfl | (intro hb; (replace hb := Tidy.out hb; try (exfalso; omega))))
      | (with_reducible first | apply wl_nil | apply thn_n | apply w_seq | apply w_region | apply w_ret | apply w_skip | apply w_exit | apply w_block | apply thn_r | apply thn_e | apply blk_n | apply blk_r | apply blk_e)
      | ((with_reducible apply w_cond_true); exact rfl)
      | ((with_reducible apply w_cond_false); exact rfl)
      | ((with_reducible apply w_cond) <;> first | exact rfl | (intro hb; (replace hb := Tidy.out hb; try (exfalso; omega))))
      | ((with_reducible apply blk_x); exact rfl))
    ((with_reducible apply ret2); exact .inl rfl; exact rfl; exact rfl; exact rfl; exact MSub.nil _)
    rfl
  have hj := fun (w' : World) (H : List Blk) (hm : Mem w w' H) => judge_at L (by omega) hwf _ w' (ht'.of_w0 hm)
  rw [if_neg h256] at hd
  have h0 : L.length = 0 → (judgeT L L 0 []).1.length = 0 := fun c => by
    have : L = [] := List.eq_nil_of_length_eq_zero c
    subst this
    simp [judgeT]
  generalize judgeT L L 0 [] = j at hj hd h0
  obtain ⟨st, e⟩ := j
  dsimp only at hj hd h0
  by_cases he : e = 0
  · rw [if_neg (by simp [he])] at hd
    by_cases hl : st.length = 1
    · obtain ⟨p, rfl, hp⟩ := lastP_one hl
      obtain ⟨gt, ot, rfl, hrt⟩ := ht3 (by omega)
      have hrl := hrt.elem encN_len (L.length - 1) (by omega)
      have hk : kindAt L (L.length - 1) = (L[L.length - 1]'(by omega)).kind := kindAt_get _
      rw [hk, hp] at hd
      generalize (L[L.length - 1]'(by omega)) = nl at hrl hd
      subst he
      repeat' (first
        | ((with_reducible apply wl_call); exact rfl; exact rfl; (intro w' hm; exact hj w' _ hm); (rintro v H' ⟨A', cap', rfl, rfl⟩))
        | ((with_reducible apply wl_v); exact rfl; (first | ((with_reducible apply vop_ok); exact rfl) | ((with_reducible apply v_fieldAddr); exact rfl) | ((with_reducible apply v_len); exact rfl) | ((with_reducible apply v_lens); exact rfl) | ((with_reducible apply v_load_box); exact rfl; (repeat first | exact .hd | apply Sel.tl | apply In.tl); exact rfl) | ((with_reducible apply v_eqlb); exact rfl; exact rfl) | ((with_reducible apply v_neqb); exact rfl; exact rfl) | ((with_reducible apply v_loadw_box); exact rfl; (repeat first | exact .hd | apply Sel.tl | apply In.tl); exact rfl) | ((with_reducible apply v_loadn_box); exact rfl; (repeat first | exact .hd | apply Sel.tl | apply In.tl); exact rfl; exact rfl)))
        | ((with_reducible apply wl_gyes); exact rfl; exact rfl)
        | ((with_reducible apply wl_gno_b); exact rfl; exact rfl; exact rfl; exact rfl)
        | ((with_reducible apply wl_gno_u); exact rfl; exact rfl; exact rfl)
        | ((with_reducible apply wl_gsplit) <;> first | exact rfl | (intro hb; (replace hb := Tidy.out hb; try (exfalso; omega))))
        | (with_reducible first | apply wl_nil | apply thn_n | apply w_seq | apply w_region | apply w_ret | apply w_skip | apply w_exit | apply w_block | apply thn_r | apply thn_e | apply blk_n | apply blk_r | apply blk_e)
        | ((with_reducible apply w_cond_true); exact rfl)
        | ((with_reducible apply w_cond_false); exact rfl)
        | ((with_reducible apply w_cond) <;> first | exact rfl | (intro hb; (replace hb := Tidy.out hb; try (exfalso; omega))))
        | ((with_reducible apply blk_x); exact rfl)
        | ((with_reducible apply wl_v); exact rfl; (with_reducible apply v_predN); exact rfl; exact rfl; omega; (simp only [maxLen] at *; omega))
        | ((with_reducible apply wl_v); exact rfl; (with_reducible apply v_subN); exact rfl; exact rfl; omega; (simp only [maxLen] at *; omega))
        | ((with_reducible apply wl_v); exact rfl; (with_reducible apply v_indexAddr); exact rfl; exact rfl; (first | assumption | omega))
        | ((with_reducible apply wl_v); exact rfl; (with_reducible apply v_loadw_ro); exact rfl; assumption; exact rfl)
        | ((with_reducible apply wl_v); exact rfl; (with_reducible apply v_load1_ro); exact rfl; assumption)
        | ((with_reducible apply wl_v); exact rfl; (with_reducible apply v_loadf_ro); exact rfl; assumption; exact rfl))
      · rw [if_pos (.inr hb)] at hd
        subst hd
        ((with_reducible apply ret2); exact .inl rfl; exact rfl; exact rfl; exact rfl; exact MSub.nil _)
        rfl
      · rw [if_neg (by simp; omega)] at hd
        subst hd
        refine wl_some .hd (by simp) fun ga hA => ?_
        subst hA
        repeat' (first
          | ((with_reducible apply wl_v); exact rfl; (with_reducible apply v_indexAddr (j := 0)); exact rfl; exact rfl; exact Nat.one_pos)
          | ((with_reducible apply wl_v); exact rfl; (with_reducible apply v_load_own); exact rfl; (repeat first | exact .hd | apply Sel.tl | apply In.tl); exact rfl)
          | ((with_reducible apply wl_v); exact rfl; (first | ((with_reducible apply vop_ok); exact rfl) | ((with_reducible apply v_fieldAddr); exact rfl) | ((with_reducible apply v_len); exact rfl) | ((with_reducible apply v_lens); exact rfl) | ((with_reducible apply v_load_box); exact rfl; (repeat first | exact .hd | apply Sel.tl | apply In.tl); exact rfl) | ((with_reducible apply v_eqlb); exact rfl; exact rfl) | ((with_reducible apply v_neqb); exact rfl; exact rfl) | ((with_reducible apply v_loadw_box); exact rfl; (repeat first | exact .hd | apply Sel.tl | apply In.tl); exact rfl) | ((with_reducible apply v_loadn_box); exact rfl; (repeat first | exact .hd | apply Sel.tl | apply In.tl); exact rfl; exact rfl)))
          | ((with_reducible apply wl_gyes); exact rfl; exact rfl)
          | ((with_reducible apply wl_gno_b); exact rfl; exact rfl; exact rfl; exact rfl)
          | ((with_reducible apply wl_gno_u); exact rfl; exact rfl; exact rfl)
          | ((with_reducible apply wl_gsplit) <;> first | exact rfl | (intro hb; (replace hb := Tidy.out hb; try (exfalso; omega))))
          | (with_reducible first | apply wl_nil | apply thn_n | apply w_seq | apply w_region | apply w_ret | apply w_skip | apply w_exit | apply w_block | apply thn_r | apply thn_e | apply blk_n | apply blk_r | apply blk_e)
          | ((with_reducible apply w_cond_true); exact rfl)
          | ((with_reducible apply w_cond_false); exact rfl)
          | ((with_reducible apply w_cond) <;> first | exact rfl | (intro hb; (replace hb := Tidy.out hb; try (exfalso; omega))))
          | ((with_reducible apply blk_x); exact rfl))
        ((with_reducible apply ret2); exact .inl rfl; exact rfl; exact rfl; exact rfl; exact MSub.nil _)
        rfl
    · rw [if_pos (.inl hl)] at hd
      subst hd he
      repeat' (first
        | ((with_reducible apply wl_call); exact rfl; exact rfl; (intro w' hm; exact hj w' _ hm); (rintro v H' ⟨A', cap', rfl, rfl⟩))
        | ((with_reducible apply wl_v); exact rfl; (first | ((with_reducible apply vop_ok); exact rfl) | ((with_reducible apply v_fieldAddr); exact rfl) | ((with_reducible apply v_len); exact rfl) | ((with_reducible apply v_lens); exact rfl) | ((with_reducible apply v_load_box); exact rfl; (repeat first | exact .hd | apply Sel.tl | apply In.tl); exact rfl) | ((with_reducible apply v_eqlb); exact rfl; exact rfl) | ((with_reducible apply v_neqb); exact rfl; exact rfl) | ((with_reducible apply v_loadw_box); exact rfl; (repeat first | exact .hd | apply Sel.tl | apply In.tl); exact rfl) | ((with_reducible apply v_loadn_box); exact rfl; (repeat first | exact .hd | apply Sel.tl | apply In.tl); exact rfl; exact rfl)))
        | ((with_reducible apply wl_gyes); exact rfl; exact rfl)
        | ((with_reducible apply wl_gno_b); exact rfl; exact rfl; exact rfl; exact rfl)
        | ((with_reducible apply wl_gno_u); exact rfl; exact rfl; exact rfl)
        | ((with_reducible apply wl_gsplit) <;> first | exact rfl | (intro hb; (replace hb := Tidy.out hb; try (exfalso; omega))))
        | (with_reducible first | apply wl_nil | apply thn_n | apply w_seq | apply w_region | apply w_ret | apply w_skip | apply w_exit | apply w_block | apply thn_r | apply thn_e | apply blk_n | apply blk_r | apply blk_e)
        | ((with_reducible apply w_cond_true); exact rfl)
        | ((with_reducible apply w_cond_false); exact rfl)
        | ((with_reducible apply w_cond) <;> first | exact rfl | (intro hb; (replace hb := Tidy.out hb; try (exfalso; omega))))
        | ((with_reducible apply blk_x); exact rfl)
        | ((with_reducible apply wl_v); exact rfl; (with_reducible apply v_predN); exact rfl; exact rfl; omega; (simp only [maxLen] at *; omega))
        | ((with_reducible apply wl_v); exact rfl; (with_reducible apply v_subN); exact rfl; exact rfl; omega; (simp only [maxLen] at *; omega))
        | ((with_reducible apply wl_v); exact rfl; (with_reducible apply v_indexAddr); exact rfl; exact rfl; (first | assumption | omega))
        | ((with_reducible apply wl_v); exact rfl; (with_reducible apply v_loadw_ro); exact rfl; assumption; exact rfl)
        | ((with_reducible apply wl_v); exact rfl; (with_reducible apply v_load1_ro); exact rfl; assumption)
        | ((with_reducible apply wl_v); exact rfl; (with_reducible apply v_loadf_ro); exact rfl; assumption; exact rfl))
      ((with_reducible apply ret2); exact .inl rfl; exact rfl; exact rfl; exact rfl; exact MSub.nil _)
      rfl
  · rw [if_pos he] at hd
    subst hd
    repeat' (first
      | ((with_reducible apply wl_call); exact rfl; exact rfl; (intro w' hm; exact hj w' _ hm); (rintro v H' ⟨A', cap', rfl, rfl⟩))
      | ((with_reducible apply wl_v); exact rfl; (first | ((with_reducible apply vop_ok); exact rfl) | ((with_reducible apply v_fieldAddr); exact rfl) | ((with_reducible apply v_len); exact rfl) | ((with_reducible apply v_lens); exact rfl) | ((with_reducible apply v_load_box); exact rfl; (repeat first | exact .hd | apply Sel.tl | apply In.tl); exact rfl) | ((with_reducible apply v_eqlb); exact rfl; exact rfl) | ((with_reducible apply v_neqb); exact rfl; exact rfl) | ((with_reducible apply v_loadw_box); exact rfl; (repeat first | exact .hd | apply Sel.tl | apply In.tl); exact rfl) | ((with_reducible apply v_loadn_box); exact rfl; (repeat first | exact .hd | apply Sel.tl | apply In.tl); exact rfl; exact rfl)))
      | ((with_reducible apply wl_gyes); exact rfl; exact rfl)
      | ((with_reducible apply wl_gno_b); exact rfl; exact rfl; exact rfl; exact rfl)
      | ((with_reducible apply wl_gno_u); exact rfl; exact rfl; exact rfl)
      | ((with_reducible apply wl_gsplit) <;> first | exact rfl | (intro hb; (replace hb := Tidy.out hb; try (exfalso; omega))))
      | (with_reducible first | apply wl_nil | apply thn_n | apply w_seq | apply w_region | apply w_ret | apply w_skip | apply w_exit | apply w_block | apply thn_r | apply thn_e | apply blk_n | apply blk_r | apply blk_e)
      | ((with_reducible apply w_cond_true); exact rfl)
      | ((with_reducible apply w_cond_false); exact rfl)
      | ((with_reducible apply w_cond) <;> first | exact rfl | (intro hb; (replace hb := Tidy.out hb; try (exfalso; omega))))
      | ((with_reducible apply blk_x); exact rfl))
    ((with_reducible apply ret2); exact .inl rfl; exact rfl; exact rfl; exact rfl; exact MSub.nil _)
    rfl

set_option maxRecDepth 20000 in
theorem refCheck_at (L : List Nd) (hwf : ∀ n ∈ L, wfN n) (tv : Value) (w : World) (ht : Reads w tv L.length (L.flatMap encN)) : Pure Try.prog 25 [tv] w (.int .i64 (checkE L)) := by
  refine fn_at Try.func25 rfl Try.ntmps25 rfl ?_
  have hd : (depthE L).2 = checkE L := by
    unfold depthE
    split
    · rfl
    · rename_i h; simp at h; simp [h]
  repeat' (first
    | ((with_reducible apply wl_callp); exact rfl; exact rfl; (intro w' hm; exact refDepth_at L hwf tv w' (ht.of_w0 hm)))
    | ((with_reducible apply wl_v); exact rfl; (first | ((with_reducible apply vop_ok); exact rfl)))
    | (with_reducible first | apply wl_nil | apply thn_n | apply w_seq | apply w_region | apply w_ret | apply w_skip | apply w_exit | apply w_block | apply thn_r | apply thn_e | apply blk_n | apply blk_r | apply blk_e)
    | ((with_reducible apply w_cond_true); exact rfl)
    | ((with_reducible apply w_cond_false); exact rfl)
    | ((with_reducible apply w_cond) <;> first | exact rfl | (intro hb; (replace hb := Tidy.out hb; try (exfalso; omega))))
    | ((with_reducible apply blk_x); exact rfl))
  ((with_reducible apply ret1); exact .inl rfl; exact rfl; exact rfl; exact MSub.nil _)
  rw [hd]
end Go.SL

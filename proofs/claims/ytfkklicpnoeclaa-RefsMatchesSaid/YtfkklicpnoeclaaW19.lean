/-
  What the document's Parents, Under, Kids and Sub return.
-/
import Derived.Test.YtfkklicpnoeclaaW18
namespace Go.SL
open Go Go.Proofs
attribute [local irreducible] W WL WQ WG WA VOp thn blk cutP retP FnAt FnIn

theorem stepF_below {n : Nd} {st l top : List STree} (hs : stepF n st = .inr (l, top)) : (top.length : Int) = below n ∧ st = l ++ top := by
  unfold stepF at hs
  split at hs
  · cases hs
  rename_i hf
  split at hs
  · cases hs
  rename_i hb
  split at hs
  · cases hs
  rename_i hd
  simp only [Sum.inr.injEq, Prod.mk.injEq] at hs
  obtain ⟨rfl, rfl⟩ := hs
  have h0 := (fields_ok (n := n) (by omega)).1
  refine ⟨?_, (List.take_append_drop _ _).symm⟩
  simp only [lastK, List.length_drop]
  omega

theorem walkF_cons {n : Nd} {r : List Nd} {st st' : List STree} {h h' : Hist} (hw : walkF (n :: r) st h = (0, st', h')) : ∃ l top, stepF n st = .inr (l, top) ∧ walkF r (l ++ [nodeF n top]) (h ++ [(top, nodeF n top)]) = (0, st', h') := by
  rw [walkF] at hw
  cases hsf : stepF n st with
  | inl e =>
    rw [hsf] at hw
    simp only [Prod.mk.injEq] at hw
    obtain ⟨rfl, _⟩ := hw
    exfalso
    unfold stepF at hsf
    split at hsf
    · injection hsf with hs
      exact absurd hs (by assumption)
    · split at hsf
      · cases hsf
      · split at hsf <;> cases hsf
  | inr x =>
    obtain ⟨l, top⟩ := x
    rw [hsf] at hw
    exact ⟨l, top, rfl, hw⟩

theorem len_le_flat {st : List STree} (hp : ∀ S ∈ st, 0 < S.ns.length) : st.length ≤ (flatS st).length := by
  induction st with
  | nil => exact Nat.zero_le _
  | cons S r ih =>
    have h1 := hp S List.mem_cons_self
    have h2 := ih fun T hT => hp T (List.mem_cons_of_mem _ hT)
    rw [flatS_cons, List.length_append, List.length_cons]
    omega

theorem setAll_succ (o : List Int) (ks : List Nat) (j : Nat) (h : j < ks.length) (v : Int) : setAll o (ks.take (j + 1)) v = (setAll o (ks.take j) v).set ks[j] v := by
  unfold setAll
  rw [List.take_succ_eq_append_getElem h, List.foldl_append]
  rfl

def intsI (l : List Int) : List Value := l.map (Value.int .i64)
theorem intsI_length (l : List Int) : (intsI l).length = l.length := by simp [intsI]
theorem intsI_get {l : List Int} {i : Nat} {u : Int} (h : l[i]? = some u) : (intsI l)[i]? = some (.int .i64 u) := by simp [intsI, h]
theorem intsI_set (l : List Int) (i : Nat) (v : Int) : (intsI l).set i (.int .i64 v) = intsI (l.set i v) := by simp [intsI, List.map_set]
theorem intsI_one (l : List Int) : ∀ u ∈ intsI l, u.oneCell' = true := by
  intro u hu
  obtain ⟨a, _, rfl⟩ := List.mem_map.1 hu
  rfl
theorem intsV_one (l : List Nat) : ∀ u ∈ intsV l, u.oneCell' = true := by
  intro u hu
  obtain ⟨a, _, rfl⟩ := List.mem_map.1 hu
  rfl

set_option maxRecDepth 20000 in
set_option maxHeartbeats 2000000 in
theorem Parents_at (L : List Nd) (hlen : L.length ≤ 256) (S : STree) (Hi : Hist) (hW : Whole L S Hi) (tv : Value) (w : World) (ht : Reads w tv L.length (L.flatMap encN)) :
    FnAt Try.prog 59 [tv] w fun v H => ∃ A cap, v = sl A L.length cap ∧ H = [.own A 3 1 L.length cap (intsI (parH Hi))] := by
  have ht' := ht
  obtain ⟨At, ct, rfl, ht1, ht2, ht3⟩ := ht
  refine fn_at Try.func59 rfl Try.ntmps59 rfl ?_
  refine w_nilrow 3 1 ?_
  refine w_nilrow 3 1 ?_
  repeat' (first
    | ((with_reducible apply wl_v); exact rfl; (first | ((with_reducible apply vop_ok); exact rfl) | ((with_reducible apply v_len); exact rfl) | ((with_reducible apply v_lens); exact rfl) | ((with_reducible apply v_load_box); exact rfl; (repeat first | exact .hd | apply Sel.tl | apply In.tl); exact rfl) | ((with_reducible apply v_loadw_box); exact rfl; (repeat first | exact .hd | apply Sel.tl | apply In.tl); exact rfl) | ((with_reducible apply v_loadn_box); exact rfl; (repeat first | exact .hd | apply Sel.tl | apply In.tl); exact rfl; exact rfl)))
    | ((with_reducible apply wl_storen_box); exact rfl; exact rfl; (repeat first | exact .hd | apply Sel.tl | apply In.tl); exact rfl; exact rfl; exact rfl)
    | ((with_reducible apply wl_putn_box); exact rfl; exact rfl; (repeat first | exact .hd | apply Sel.tl | apply In.tl); exact rfl; exact rfl; exact rfl; exact rfl)
    | ((with_reducible apply wl_buildSlice); exact rfl; exact rfl; exact rfl; exact rfl; exact rfl; exact rfl; exact rfl; intro _)
    | (with_reducible first | apply wl_nil | apply thn_n | apply w_seq | apply w_region | apply w_ret | apply w_skip | apply w_exit | apply w_block | apply thn_r | apply thn_e | apply blk_n | apply blk_r | apply blk_e)
    | ((with_reducible apply w_cond_true); exact rfl)
    | ((with_reducible apply w_cond_false); exact rfl)
    | ((with_reducible apply w_cond) <;> first | exact rfl | (intro hb; (replace hb := Tidy.out hb; try (exfalso; omega))))
    | ((with_reducible apply blk_x); exact rfl))
  refine w_loopK [0] rfl (fun x : Nat × List STree × Hist × (Option Nat × Nat) × (Option Nat × Nat) => [(3, sl x.2.2.2.1.1 x.1 x.2.2.2.1.2), (4, sl x.2.2.2.2.1 x.2.1.length x.2.2.2.2.2), (5, .int .i64 (x.1 : Int))])
    (fun x => [.own x.2.2.2.1.1 3 1 x.1 x.2.2.2.1.2 (intsI (parH x.2.2.1)), .own x.2.2.2.2.1 3 1 x.2.1.length x.2.2.2.2.2 (intsV (rootsFrom 0 x.2.1))])
    (fun x => x.1 ≤ L.length ∧ Inv (L.take x.1) x.2.1 x.2.2.1 ∧ ParOk x.2.1 x.2.2.1 ∧ walkF (L.drop x.1) x.2.1 x.2.2.1 = (0, [S], Hi)) (fun x => L.length - x.1) (0, [], [], (none, 0), (none, 0))
    ⟨by omega, Inv.nil, ⟨rfl, fun j y hy => (by simp at hy), fun k hk => (by simp [rootsFrom] at hk)⟩, hW.walk⟩ (by (repeat (first | exact Sub.nil _ | refine Sub.cons rfl ?_))) (by (repeat (first | exact MSub.nil _ | refine MSub.pick (by (repeat first | exact .hd | apply Sel.tl | apply In.tl)) ?_ | exact MSub.refl _ | refine MSub.drop .hd ?_))) ?_
  rintro ⟨i, st, h, ⟨A1, c1⟩, ⟨A2, c2⟩⟩ ⟨hi, hI, hP, hw⟩
  dsimp only at hi hI hP hw ⊢
  have hhl : h.length = i := by rw [hI.len, List.length_take]; omega
  by_cases hlt : i < L.length
  · rw [List.drop_eq_getElem_cons hlt] at hw
    obtain ⟨l, top, hs, hw'⟩ := walkF_cons hw
    obtain ⟨hbl, hst⟩ := stepF_below hs
    obtain ⟨_, hlen2, hlo, hlp, htp⟩ := hI.facts hs
    have hP' := parOk_step hI hP hs
    have hI' := (hI.step hs).1
    have htk : L.take (i + 1) = L.take i ++ [L[i]] := List.take_succ_eq_append_getElem hlt
    rw [← htk] at hI'
    obtain ⟨gt, ot, rfl, hrt⟩ := ht3 (by omega)
    have hrn := hrt.elem encN_len i hlt
    have hbel := fun w => hbl ▸ refBelow_at L[i] w
    generalize L[i] = n at hrn hbel hs hw' hbl hlo hP' hI'
    have hkids : rootsFrom 0 (l ++ top) = rootsFrom 0 l ++ kidsH h.length (top, nodeF n top) := by rw [rootsFrom_append, kidsH, hlo, Nat.zero_add]
    have hkl : (kidsH h.length (top, nodeF n top)).length = top.length := rootsFrom_length _ _
    have hpar := parH_snoc h (top, nodeF n top)
    have hkb : ∀ k ∈ kidsH h.length (top, nodeF n top), k < i := fun k hk => by
      rw [kidsH, hlo] at hk
      have := (roots_lt htp hk).2
      omega
    have hset := fun (o : List Int) (j : Nat) (hj : j < (kidsH h.length (top, nodeF n top)).length) (v : Int) => setAll_succ o (kidsH h.length (top, nodeF n top)) j hj v
    generalize kidsH h.length (top, nodeF n top) = K at hkids hkl hpar hkb hset
    subst hst
    have hll : (l ++ top).length = l.length + top.length := List.length_append
    have hrl : (rootsFrom 0 l).length = l.length := rootsFrom_length _ _
    have hsmall : l.length + top.length ≤ 256 := by
      have h1 := len_le_flat hlp
      have h2 := len_le_flat htp
      omega
    rw [hll]
    repeat' (first
      | ((with_reducible apply wl_append); exact rfl; exact rfl; exact rfl; (repeat first | exact .hd | apply Sel.tl | apply In.tl); (intro w hm; exact hm.cells_own (by (repeat first | exact .hd | apply Sel.tl | apply In.tl))); exact rfl; (simp [Value.oneCell', sl]); omega; (simp only [maxLen]; omega); (intro A' cap' hA'))
      | ((with_reducible apply wl_callp); exact rfl; exact rfl; (intro w hm; exact hbel w))
      | ((with_reducible apply wl_v); exact rfl; (first | ((with_reducible apply vop_ok); exact rfl) | ((with_reducible apply v_len); exact rfl) | ((with_reducible apply v_lens); exact rfl) | ((with_reducible apply v_load_box); exact rfl; (repeat first | exact .hd | apply Sel.tl | apply In.tl); exact rfl) | ((with_reducible apply v_loadw_box); exact rfl; (repeat first | exact .hd | apply Sel.tl | apply In.tl); exact rfl) | ((with_reducible apply v_loadn_box); exact rfl; (repeat first | exact .hd | apply Sel.tl | apply In.tl); exact rfl; exact rfl)))
      | ((with_reducible apply wl_storen_box); exact rfl; exact rfl; (repeat first | exact .hd | apply Sel.tl | apply In.tl); exact rfl; exact rfl; exact rfl)
      | ((with_reducible apply wl_putn_box); exact rfl; exact rfl; (repeat first | exact .hd | apply Sel.tl | apply In.tl); exact rfl; exact rfl; exact rfl; exact rfl)
      | ((with_reducible apply wl_buildSlice); exact rfl; exact rfl; exact rfl; exact rfl; exact rfl; exact rfl; exact rfl; intro _)
      | (with_reducible first | apply wl_nil | apply thn_n | apply w_seq | apply w_region | apply w_ret | apply w_skip | apply w_exit | apply w_block | apply thn_r | apply thn_e | apply blk_n | apply blk_r | apply blk_e)
      | ((with_reducible apply w_cond_true); exact rfl)
      | ((with_reducible apply w_cond_false); exact rfl)
      | ((with_reducible apply w_cond) <;> first | exact rfl | (intro hb; (replace hb := Tidy.out hb; try (exfalso; omega))))
      | ((with_reducible apply blk_x); exact rfl)
      | ((with_reducible apply wl_v); exact rfl; (with_reducible apply v_succN); exact rfl; exact rfl; (simp only [maxLen] at *; omega))
      | ((with_reducible apply wl_v); exact rfl; (with_reducible apply v_1addN); exact rfl; exact rfl; (simp only [maxLen] at *; omega))
      | ((with_reducible apply wl_v); exact rfl; (with_reducible apply v_addN); exact rfl; exact rfl; (simp only [maxLen] at *; omega))
      | ((with_reducible apply wl_v); exact rfl; (with_reducible apply v_predN); exact rfl; exact rfl; omega; (simp only [maxLen] at *; omega))
      | ((with_reducible apply wl_v); exact rfl; (with_reducible apply v_subN); exact rfl; exact rfl; omega; (simp only [maxLen] at *; omega))
      | ((with_reducible apply wl_v); exact rfl; (with_reducible apply v_indexAddr); exact rfl; exact rfl; (first | assumption | omega))
      | ((with_reducible apply wl_v); exact rfl; (with_reducible apply v_loadw_ro); exact rfl; assumption; exact rfl)
      | ((with_reducible apply wl_v); exact rfl; (with_reducible apply v_load1_ro); exact rfl; assumption)
      | ((with_reducible apply wl_v); exact rfl; (with_reducible apply v_loadf_ro); exact rfl; assumption; exact rfl))
    rw [Nat.add_sub_cancel]
    have e0 : intsI (parH h) ++ [.int .i64 (-1)] = intsI (setAll (parH h ++ [-1]) (K.take 0) (i : Int)) := by simp [intsI, setAll]
    rw [e0]
    refine w_loopK [0, 3, 4, 5, 6] rfl (fun j : Nat => [(7, .int .i64 ((l.length + j : Nat) : Int))]) (fun j => [.own A' 3 1 (i + 1) cap' (intsI (setAll (parH h ++ [-1]) (K.take j) (i : Int))), .own A2 3 1 (l.length + top.length) c2 (intsV (rootsFrom 0 (l ++ top)))])
      (fun j => j ≤ top.length) (fun j => top.length - j) 0 (Nat.zero_le _) (by (repeat (first | exact Sub.nil _ | refine Sub.cons rfl ?_))) (by (repeat (first | exact MSub.nil _ | refine MSub.pick (by (repeat first | exact .hd | apply Sel.tl | apply In.tl)) ?_ | exact MSub.refl _ | refine MSub.drop .hd ?_))) ?_
    rintro j hj
    by_cases hjk : j < top.length
    · refine w_some (.tl .hd) (by omega) fun g2 hA2 => ?_
      refine w_some .hd (by omega) fun g1 hA1 => ?_
      subst hA2 hA1
      have hKj := List.getElem?_eq_getElem (show j < K.length by omega)
      have hkj := hkb _ (List.getElem_mem (show j < K.length by omega))
      have hs1 := hset (parH h ++ [-1]) j (by omega) (i : Int)
      generalize K[j] = kj at hKj hkj hs1
      have hrt2 : (intsV (rootsFrom 0 (l ++ top)))[0 + (l.length + j) * 1]? = some (.int .i64 (kj : Int)) := by
        rw [hkids, Nat.zero_add, Nat.mul_one, intsV, List.getElem?_map, List.getElem?_append_right (by omega), show l.length + j - (rootsFrom 0 l).length = j by omega, hKj]
        rfl
      have hsl : (setAll (parH h ++ [-1]) (K.take j) (i : Int)).length = i + 1 := by rw [setAll_length]; simp [hP.len, hhl]
      have hcell : (intsI (setAll (parH h ++ [-1]) (K.take j) (i : Int))).set (0 + kj * 1) (.int .i64 (i : Int)) = intsI (setAll (parH h ++ [-1]) (K.take (j + 1)) (i : Int)) := by
        rw [Nat.zero_add, Nat.mul_one, intsI_set, hs1]
      repeat' (first
        | ((with_reducible apply wl_v); exact rfl; (with_reducible apply v_load_own); exact rfl; (repeat first | exact .hd | apply Sel.tl | apply In.tl); exact hrt2)
        | ((with_reducible apply wl_store_own); exact rfl; exact rfl; (repeat first | exact .hd | apply Sel.tl | apply In.tl); exact rfl; (rw [intsI_length]; omega); rw [hcell])
        | ((with_reducible apply wl_v); exact rfl; (first | ((with_reducible apply vop_ok); exact rfl) | ((with_reducible apply v_len); exact rfl) | ((with_reducible apply v_lens); exact rfl) | ((with_reducible apply v_load_box); exact rfl; (repeat first | exact .hd | apply Sel.tl | apply In.tl); exact rfl) | ((with_reducible apply v_loadw_box); exact rfl; (repeat first | exact .hd | apply Sel.tl | apply In.tl); exact rfl) | ((with_reducible apply v_loadn_box); exact rfl; (repeat first | exact .hd | apply Sel.tl | apply In.tl); exact rfl; exact rfl)))
        | ((with_reducible apply wl_storen_box); exact rfl; exact rfl; (repeat first | exact .hd | apply Sel.tl | apply In.tl); exact rfl; exact rfl; exact rfl)
        | ((with_reducible apply wl_putn_box); exact rfl; exact rfl; (repeat first | exact .hd | apply Sel.tl | apply In.tl); exact rfl; exact rfl; exact rfl; exact rfl)
        | ((with_reducible apply wl_buildSlice); exact rfl; exact rfl; exact rfl; exact rfl; exact rfl; exact rfl; exact rfl; intro _)
        | (with_reducible first | apply wl_nil | apply thn_n | apply w_seq | apply w_region | apply w_ret | apply w_skip | apply w_exit | apply w_block | apply thn_r | apply thn_e | apply blk_n | apply blk_r | apply blk_e)
        | ((with_reducible apply w_cond_true); exact rfl)
        | ((with_reducible apply w_cond_false); exact rfl)
        | ((with_reducible apply w_cond) <;> first | exact rfl | (intro hb; (replace hb := Tidy.out hb; try (exfalso; omega))))
        | ((with_reducible apply blk_x); exact rfl)
        | ((with_reducible apply wl_v); exact rfl; (with_reducible apply v_succN); exact rfl; exact rfl; (simp only [maxLen] at *; omega))
        | ((with_reducible apply wl_v); exact rfl; (with_reducible apply v_1addN); exact rfl; exact rfl; (simp only [maxLen] at *; omega))
        | ((with_reducible apply wl_v); exact rfl; (with_reducible apply v_addN); exact rfl; exact rfl; (simp only [maxLen] at *; omega))
        | ((with_reducible apply wl_v); exact rfl; (with_reducible apply v_predN); exact rfl; exact rfl; omega; (simp only [maxLen] at *; omega))
        | ((with_reducible apply wl_v); exact rfl; (with_reducible apply v_subN); exact rfl; exact rfl; omega; (simp only [maxLen] at *; omega))
        | ((with_reducible apply wl_v); exact rfl; (with_reducible apply v_indexAddr); exact rfl; exact rfl; (first | assumption | omega))
        | ((with_reducible apply wl_v); exact rfl; (with_reducible apply v_loadw_ro); exact rfl; assumption; exact rfl)
        | ((with_reducible apply wl_v); exact rfl; (with_reducible apply v_load1_ro); exact rfl; assumption)
        | ((with_reducible apply wl_v); exact rfl; (with_reducible apply v_loadf_ro); exact rfl; assumption; exact rfl))
      refine ⟨j + 1, ?_, (by first | omega | (dsimp only; omega)), (by (repeat (first | exact Sub.nil _ | refine Sub.cons rfl ?_))), (by (repeat (first | exact Sub.nil _ | refine Sub.cons rfl ?_))), (by (repeat (first | exact MSub.nil _ | refine MSub.pick (by (repeat first | exact .hd | apply Sel.tl | apply In.tl)) ?_ | exact MSub.refl _ | refine MSub.drop .hd ?_)))⟩
      exact hjk
    · have e : j = top.length := by omega
      subst e
      rw [List.take_of_length_le (by omega)]
      have htake : (intsV (rootsFrom 0 (l ++ top))).take (l.length * 1) = intsV (rootsFrom 0 l) := by
        rw [hkids, Nat.mul_one, intsV, ← List.map_take, List.take_left' hrl]; rfl
      have hl1 : (intsV (rootsFrom 0 l)).length = l.length * 1 := by rw [intsV_length, hrl, Nat.mul_one]
      refine w_row (A := A2) (.tl .hd) fun q1 q2 q3 => ?_
      repeat' (first
        | ((with_reducible apply wl_buildSlice0); exact rfl; intro gb)
        | ((with_reducible apply wl_v); exact rfl; (with_reducible apply v_sliceP (hi := l.length)); exact rfl; exact rfl; omega)
        | ((with_reducible apply wl_appendR (n' := 0) (c := 0) (A := some _) (m := l.length) (news := intsV (rootsFrom 0 l))); exact rfl; exact rfl; exact rfl; (repeat first | exact .hd | apply Sel.tl | apply In.tl); (intro w' hm; rw [← htake]; exact Reads.of_own_take (A := A2) hm (by (repeat first | exact .hd | apply Sel.tl | apply In.tl)) (Nat.le_add_right _ _)); exact hl1; exact intsV_one _; omega; (simp only [maxLen]; omega); intro A4 c4 h4)
        | ((with_reducible apply wl_append); exact rfl; exact rfl; exact rfl; (repeat first | exact .hd | apply Sel.tl | apply In.tl); (intro w hm; exact hm.cells_own (by (repeat first | exact .hd | apply Sel.tl | apply In.tl))); exact rfl; (simp [Value.oneCell', sl]); omega; (simp only [maxLen]; omega); (intro A5 c5 h5))
        | ((with_reducible apply wl_v); exact rfl; (first | ((with_reducible apply vop_ok); exact rfl) | ((with_reducible apply v_len); exact rfl) | ((with_reducible apply v_lens); exact rfl) | ((with_reducible apply v_load_box); exact rfl; (repeat first | exact .hd | apply Sel.tl | apply In.tl); exact rfl) | ((with_reducible apply v_loadw_box); exact rfl; (repeat first | exact .hd | apply Sel.tl | apply In.tl); exact rfl) | ((with_reducible apply v_loadn_box); exact rfl; (repeat first | exact .hd | apply Sel.tl | apply In.tl); exact rfl; exact rfl)))
        | ((with_reducible apply wl_storen_box); exact rfl; exact rfl; (repeat first | exact .hd | apply Sel.tl | apply In.tl); exact rfl; exact rfl; exact rfl)
        | ((with_reducible apply wl_putn_box); exact rfl; exact rfl; (repeat first | exact .hd | apply Sel.tl | apply In.tl); exact rfl; exact rfl; exact rfl; exact rfl)
        | ((with_reducible apply wl_buildSlice); exact rfl; exact rfl; exact rfl; exact rfl; exact rfl; exact rfl; exact rfl; intro _)
        | (with_reducible first | apply wl_nil | apply thn_n | apply w_seq | apply w_region | apply w_ret | apply w_skip | apply w_exit | apply w_block | apply thn_r | apply thn_e | apply blk_n | apply blk_r | apply blk_e)
        | ((with_reducible apply w_cond_true); exact rfl)
        | ((with_reducible apply w_cond_false); exact rfl)
        | ((with_reducible apply w_cond) <;> first | exact rfl | (intro hb; (replace hb := Tidy.out hb; try (exfalso; omega))))
        | ((with_reducible apply blk_x); exact rfl)
        | ((with_reducible apply wl_v); exact rfl; (with_reducible apply v_succN); exact rfl; exact rfl; (simp only [maxLen] at *; omega))
        | ((with_reducible apply wl_v); exact rfl; (with_reducible apply v_1addN); exact rfl; exact rfl; (simp only [maxLen] at *; omega))
        | ((with_reducible apply wl_v); exact rfl; (with_reducible apply v_addN); exact rfl; exact rfl; (simp only [maxLen] at *; omega))
        | ((with_reducible apply wl_v); exact rfl; (with_reducible apply v_predN); exact rfl; exact rfl; omega; (simp only [maxLen] at *; omega))
        | ((with_reducible apply wl_v); exact rfl; (with_reducible apply v_subN); exact rfl; exact rfl; omega; (simp only [maxLen] at *; omega))
        | ((with_reducible apply wl_v); exact rfl; (with_reducible apply v_indexAddr); exact rfl; exact rfl; (first | assumption | omega))
        | ((with_reducible apply wl_v); exact rfl; (with_reducible apply v_loadw_ro); exact rfl; assumption; exact rfl)
        | ((with_reducible apply wl_v); exact rfl; (with_reducible apply v_load1_ro); exact rfl; assumption)
        | ((with_reducible apply wl_v); exact rfl; (with_reducible apply v_loadf_ro); exact rfl; assumption; exact rfl))
      have e1 : setAll (parH h ++ [-1]) K (i : Int) = parH (h ++ [(top, nodeF n top)]) := by rw [hpar, hhl]
      have e2 : [] ++ intsV (rootsFrom 0 l) ++ [.int .i64 (i : Int)] = intsV (rootsFrom 0 (l ++ [nodeF n top])) := by
        rw [rootsFrom_append]
        simp only [rootsFrom, nodeF_len, intsV, List.map_append, List.nil_append]
        congr 2
        simp
        omega
      have e3 : 0 + l.length + 1 = (l ++ [nodeF n top]).length := by simp
      rw [e1, e2, e3]
      refine ⟨(i + 1, l ++ [nodeF n top], h ++ [(top, nodeF n top)], (A', cap'), (A5, c5)), ?_, (by first | omega | (dsimp only; omega)), (by (repeat (first | exact Sub.nil _ | refine Sub.cons rfl ?_))), (by (repeat (first | exact Sub.nil _ | refine Sub.cons rfl ?_))), (by (repeat (first | exact MSub.nil _ | refine MSub.pick (by (repeat first | exact .hd | apply Sel.tl | apply In.tl)) ?_ | exact MSub.refl _ | refine MSub.drop .hd ?_)))⟩
      exact ⟨hlt, hI', hP', hw'⟩
  · have e : i = L.length := by omega
    subst e
    rw [List.drop_length, walkF] at hw
    simp only [Prod.mk.injEq] at hw
    obtain ⟨_, _, rfl⟩ := hw
    repeat' (first
      | ((with_reducible apply wl_v); exact rfl; (first | ((with_reducible apply vop_ok); exact rfl) | ((with_reducible apply v_len); exact rfl) | ((with_reducible apply v_lens); exact rfl) | ((with_reducible apply v_load_box); exact rfl; (repeat first | exact .hd | apply Sel.tl | apply In.tl); exact rfl) | ((with_reducible apply v_loadw_box); exact rfl; (repeat first | exact .hd | apply Sel.tl | apply In.tl); exact rfl) | ((with_reducible apply v_loadn_box); exact rfl; (repeat first | exact .hd | apply Sel.tl | apply In.tl); exact rfl; exact rfl)))
      | ((with_reducible apply wl_storen_box); exact rfl; exact rfl; (repeat first | exact .hd | apply Sel.tl | apply In.tl); exact rfl; exact rfl; exact rfl)
      | ((with_reducible apply wl_putn_box); exact rfl; exact rfl; (repeat first | exact .hd | apply Sel.tl | apply In.tl); exact rfl; exact rfl; exact rfl; exact rfl)
      | ((with_reducible apply wl_buildSlice); exact rfl; exact rfl; exact rfl; exact rfl; exact rfl; exact rfl; exact rfl; intro _)
      | (with_reducible first | apply wl_nil | apply thn_n | apply w_seq | apply w_region | apply w_ret | apply w_skip | apply w_exit | apply w_block | apply thn_r | apply thn_e | apply blk_n | apply blk_r | apply blk_e)
      | ((with_reducible apply w_cond_true); exact rfl)
      | ((with_reducible apply w_cond_false); exact rfl)
      | ((with_reducible apply w_cond) <;> first | exact rfl | (intro hb; (replace hb := Tidy.out hb; try (exfalso; omega))))
      | ((with_reducible apply blk_x); exact rfl))
    exact ret1 (.inl rfl) Try.results59 rfl (H' := [.own A1 3 1 L.length c1 (intsI (parH h))]) (by (repeat (first | exact MSub.nil _ | refine MSub.pick (by (repeat first | exact .hd | apply Sel.tl | apply In.tl)) ?_ | exact MSub.refl _ | refine MSub.drop .hd ?_))) ⟨A1, c1, rfl, rfl⟩
end Go.SL

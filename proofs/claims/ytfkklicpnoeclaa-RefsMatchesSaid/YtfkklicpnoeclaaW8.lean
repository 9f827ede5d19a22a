/-
  What Sub of package tree returns.
-/
import Derived.Test.YtfkklicpnoeclaaW7
namespace Go.SL
open Go Go.Proofs
attribute [local irreducible] W WL WQ WG WA VOp thn blk retP FnAt FnIn

/-- Where the tree below each node starts, by the visits so far. -/
def startStep (a : List Nat) (x : Visit × Nat) : List Nat := a.set x.2 (match x.1.1 with | [] => x.2 | k :: _ => a.getD k 0)
def starts (N : Nat) (vs : List Visit) : List Nat := vs.zipIdx.foldl startStep (List.replicate N 0)
theorem starts_snoc (N : Nat) (vs : List Visit) (x : Visit) : starts N (vs ++ [x]) = startStep (starts N vs) (x, vs.length) := by
  simp [starts, List.zipIdx_append]
theorem starts_length (N : Nat) (vs : List Visit) : (starts N vs).length = N := by
  have : ∀ (l : List (Visit × Nat)) (a : List Nat), (l.foldl startStep a).length = a.length := by
    intro l
    induction l with
    | nil => intro a; rfl
    | cons x r ih => intro a; rw [List.foldl_cons, ih]; simp [startStep]
  rw [starts, this, List.length_replicate]

theorem intsV_length (ks : List Nat) : (intsV ks).length = ks.length := by simp [intsV]
theorem intsV_get {ks : List Nat} {i : Nat} (h : i < ks.length) : (intsV ks)[i]? = some (.int .i64 (ks[i] : Int)) := by simp [intsV, h]
theorem intsV_set (ks : List Nat) (i v : Nat) : (intsV ks).set i (.int .i64 (v : Int)) = intsV (ks.set i v) := by simp [intsV, List.map_set]

def SubInv (N g : Nat) (vs : List Visit) (H : List Blk) : Prop :=
  (∀ j, (starts N vs).getD j 0 ≤ j) ∧ ∃ gb, H = [.own (some gb) 3 1 N N (intsV (starts N vs)), .box g 27 [sl (some gb) N N]]

theorem starts_le {N : Nat} {vs : List Visit} {x : Visit} (h : ∀ j, (starts N vs).getD j 0 ≤ j) (hk : ∀ k ∈ x.1, k < vs.length) (j : Nat) : (starts N (vs ++ [x])).getD j 0 ≤ j := by
  rw [starts_snoc, startStep]
  by_cases e : vs.length = j
  · subst e
    by_cases hl : vs.length < (starts N vs).length
    · rw [List.getD_eq_getElem?_getD, List.getElem?_set_self hl]
      simp only [Option.getD_some]
      split
      · exact Nat.le_refl _
      · rename_i k r hx
        have h1 := hk k (by rw [hx]; exact List.mem_cons_self)
        have h2 := h k
        omega
    · rw [List.getD_eq_getElem?_getD, List.getElem?_eq_none (by simp; omega)]
      exact Nat.zero_le _
  · rw [List.getD_eq_getElem?_getD, List.getElem?_set_ne e, ← List.getD_eq_getElem?_getD]
    exact h j

set_option maxRecDepth 20000 in
theorem visits_sub (N : Nat) (w0 : World) (g : Nat) : Visits N w0 60 [.pointer (some ⟨g, 0, none⟩)] (SubInv N g) := by
  rintro vs kids d A cap _ F ⟨hle, gb, rfl⟩ _ hlt hk
  refine fn_in Try.func60 rfl Try.ntmps60 rfl ?_
  have hsl := starts_length N vs
  generalize hst : starts N vs = st at hsl
  have he : (intsV st).set (0 + vs.length * 1) (.int .i64 (vs.length : Int)) = intsV (st.set vs.length vs.length) := by rw [← intsV_set]; simp
  cases kids with
  | nil =>
    repeat' (first
      | ((with_reducible apply wl_v); exact rfl; (with_reducible apply v_indexAddr); exact rfl; exact rfl; exact hlt)
      | ((with_reducible apply wl_store_own); exact rfl; exact rfl; (repeat first | exact .hd | apply Sel.tl | apply In.tl); exact rfl; (rw [intsV_length]; omega); rw [he])
      | ((with_reducible apply wl_v); exact rfl; (first | ((with_reducible apply vop_ok); exact rfl) | ((with_reducible apply v_len); exact rfl) | ((with_reducible apply v_lens); exact rfl) | ((with_reducible apply v_load_box); exact rfl; (repeat first | exact .hd | apply Sel.tl | apply In.tl); exact rfl) | ((with_reducible apply v_loadw_box); exact rfl; (repeat first | exact .hd | apply Sel.tl | apply In.tl); exact rfl) | ((with_reducible apply v_loadn_box); exact rfl; (repeat first | exact .hd | apply Sel.tl | apply In.tl); exact rfl; exact rfl)))
      | ((with_reducible apply wl_storen_box); exact rfl; exact rfl; (repeat first | exact .hd | apply Sel.tl | apply In.tl); exact rfl; exact rfl; exact rfl)
      | ((with_reducible apply wl_putn_box); exact rfl; exact rfl; (repeat first | exact .hd | apply Sel.tl | apply In.tl); exact rfl; exact rfl; exact rfl; exact rfl)
      | (with_reducible first | apply wl_nil | apply thn_n | apply w_seq | apply w_region | apply w_ret | apply w_skip | apply w_exit | apply w_block | apply thn_r | apply thn_e | apply blk_n | apply blk_r | apply blk_e)
      | ((with_reducible apply w_cond_true); exact rfl)
      | ((with_reducible apply w_cond_false); exact rfl)
      | ((with_reducible apply w_cond) <;> first | exact rfl | (intro hb; (replace hb := Tidy.out hb; try (exfalso; omega))))
      | ((with_reducible apply blk_x); exact rfl))
    refine ret0 (.inr rfl) Try.results60 (H' := .own (some gb) 3 1 N N (intsV (st.set vs.length vs.length)) :: .box g 27 [sl (some gb) N N] :: F) (by (repeat (first | exact MSub.nil _ | refine MSub.pick (by (repeat first | exact .hd | apply Sel.tl | apply In.tl)) ?_ | exact MSub.refl _ | refine MSub.drop .hd ?_))) ⟨[.own (some gb) 3 1 N N (intsV (starts N (vs ++ [([], d)]))), .box g 27 [sl (some gb) N N]], ⟨starts_le hle hk, gb, rfl⟩, ?_⟩
    rw [starts_snoc, hst]
    exact .refl _
  | cons k0 kr =>
    have hk0 : k0 < vs.length := hk k0 (by simp)
    have hg : (intsV (st.set vs.length vs.length))[0 + k0 * 1]? = some (.int .i64 ((st.getD k0 0 : Nat) : Int)) := by
      rw [show 0 + k0 * 1 = k0 by omega, intsV_get (by simp; omega)]
      simp [show vs.length ≠ k0 by omega, show k0 < st.length by omega]
    have he2 : (intsV (st.set vs.length vs.length)).set (0 + vs.length * 1) (.int .i64 ((st.getD k0 0 : Nat) : Int)) = intsV (st.set vs.length (st.getD k0 0)) := by
      rw [show 0 + vs.length * 1 = vs.length by omega, intsV_set, List.set_set]
    repeat' (first
      | ((with_reducible apply wl_v); exact rfl; (with_reducible apply v_indexAddr); exact rfl; exact rfl; exact hlt)
      | ((with_reducible apply wl_store_own); exact rfl; exact rfl; (repeat first | exact .hd | apply Sel.tl | apply In.tl); exact rfl; (rw [intsV_length]; omega); rw [he])
      | ((with_reducible apply wl_v); exact rfl; (first | ((with_reducible apply vop_ok); exact rfl) | ((with_reducible apply v_len); exact rfl) | ((with_reducible apply v_lens); exact rfl) | ((with_reducible apply v_load_box); exact rfl; (repeat first | exact .hd | apply Sel.tl | apply In.tl); exact rfl) | ((with_reducible apply v_loadw_box); exact rfl; (repeat first | exact .hd | apply Sel.tl | apply In.tl); exact rfl) | ((with_reducible apply v_loadn_box); exact rfl; (repeat first | exact .hd | apply Sel.tl | apply In.tl); exact rfl; exact rfl)))
      | ((with_reducible apply wl_storen_box); exact rfl; exact rfl; (repeat first | exact .hd | apply Sel.tl | apply In.tl); exact rfl; exact rfl; exact rfl)
      | ((with_reducible apply wl_putn_box); exact rfl; exact rfl; (repeat first | exact .hd | apply Sel.tl | apply In.tl); exact rfl; exact rfl; exact rfl; exact rfl)
      | (with_reducible first | apply wl_nil | apply thn_n | apply w_seq | apply w_region | apply w_ret | apply w_skip | apply w_exit | apply w_block | apply thn_r | apply thn_e | apply blk_n | apply blk_r | apply blk_e)
      | ((with_reducible apply w_cond_true); exact rfl)
      | ((with_reducible apply w_cond_false); exact rfl)
      | ((with_reducible apply w_cond) <;> first | exact rfl | (intro hb; (replace hb := Tidy.out hb; try (exfalso; omega))))
      | ((with_reducible apply blk_x); exact rfl))
    · refine w_some (.tl .hd) (by simp) fun ga hA => ?_
      subst hA
      refine w_drawL 9 (.own (some gb) 3 1 N N (intsV (st.set vs.length (st.getD k0 0))) :: .own (some ga) 3 1 (k0 :: kr).length cap (intsV (k0 :: kr)) :: .box g 27 [sl (some gb) N N] :: F) (by kernel_rfl) (by kernel_rfl) rfl ?_
      repeat' (first
        | ((with_reducible apply wg_l (f := 60)); exact rfl; decide +kernel; exact rfl; (with_reducible apply v_indexAddr (j := 0)); exact rfl; exact rfl; exact Nat.succ_pos _)
        | ((with_reducible apply wg_l (f := 60)); exact rfl; decide +kernel; exact rfl; (with_reducible apply v_indexAddr (j := vs.length)); exact rfl; exact rfl; exact hlt)
        | ((with_reducible apply wg_l (f := 60)); exact rfl; decide +kernel; exact rfl; (with_reducible apply v_indexAddr (j := k0)); exact rfl; exact rfl; omega)
        | ((with_reducible apply wg_l (f := 60)); exact rfl; decide +kernel; exact rfl; (with_reducible apply v_load_own); exact rfl; (repeat first | exact .hd | apply Sel.tl | apply In.tl); first | exact rfl | exact hg)
        | ((with_reducible apply wg_lset_own); exact rfl; exact rfl; (repeat first | exact .hd | apply Sel.tl | apply In.tl); exact rfl; (rw [intsV_length]; simp; omega); (rw [he2]; (repeat (first | exact MSub.nil _ | refine MSub.pick (by (repeat first | exact .hd | apply Sel.tl | apply In.tl)) ?_ | exact MSub.refl _ | refine MSub.drop .hd ?_))))
        | ((with_reducible apply wl_v); exact rfl; (first | ((with_reducible apply vop_ok); exact rfl) | ((with_reducible apply v_len); exact rfl) | ((with_reducible apply v_lens); exact rfl) | ((with_reducible apply v_load_box); exact rfl; (repeat first | exact .hd | apply Sel.tl | apply In.tl); exact rfl) | ((with_reducible apply v_loadw_box); exact rfl; (repeat first | exact .hd | apply Sel.tl | apply In.tl); exact rfl) | ((with_reducible apply v_loadn_box); exact rfl; (repeat first | exact .hd | apply Sel.tl | apply In.tl); exact rfl; exact rfl)))
        | ((with_reducible apply wl_storen_box); exact rfl; exact rfl; (repeat first | exact .hd | apply Sel.tl | apply In.tl); exact rfl; exact rfl; exact rfl)
        | ((with_reducible apply wl_putn_box); exact rfl; exact rfl; (repeat first | exact .hd | apply Sel.tl | apply In.tl); exact rfl; exact rfl; exact rfl; exact rfl)
        | (with_reducible first | apply wl_nil | apply thn_n | apply w_seq | apply w_region | apply w_ret | apply w_skip | apply w_exit | apply w_block | apply thn_r | apply thn_e | apply blk_n | apply blk_r | apply blk_e | apply wg_nil)
        | ((with_reducible apply w_cond_true); exact rfl)
        | ((with_reducible apply w_cond_false); exact rfl)
        | ((with_reducible apply w_cond) <;> first | exact rfl | (intro hb; (replace hb := Tidy.out hb; try (exfalso; omega))))
        | ((with_reducible apply blk_x); exact rfl)
        | ((with_reducible apply wg_v); exact rfl; (intro D ht; (first | ((with_reducible apply vop_ok); exact rfl) | ((with_reducible apply v_len); exact rfl) | ((with_reducible apply v_lens); exact rfl) | ((with_reducible apply v_load_box); exact rfl; (repeat first | exact .hd | apply Sel.tl | apply In.tl); exact rfl) | ((with_reducible apply v_loadw_box); exact rfl; (repeat first | exact .hd | apply Sel.tl | apply In.tl); exact rfl) | ((with_reducible apply v_loadn_box); exact rfl; (repeat first | exact .hd | apply Sel.tl | apply In.tl); exact rfl; exact rfl))); exact fun _ => rfl)
        | (refine wg_put _ _ rfl rfl (fun D => .hd) rfl rfl rfl (fun _ => Nat.le_of_ble_eq_true rfl) (fun D ht => .refl _) ?_)
        | ((with_reducible apply wg_l (f := 60)); exact rfl; decide +kernel; exact rfl; (first | ((with_reducible apply vop_ok); exact rfl) | ((with_reducible apply v_len); exact rfl) | ((with_reducible apply v_lens); exact rfl) | ((with_reducible apply v_load_box); exact rfl; (repeat first | exact .hd | apply Sel.tl | apply In.tl); exact rfl) | ((with_reducible apply v_loadw_box); exact rfl; (repeat first | exact .hd | apply Sel.tl | apply In.tl); exact rfl) | ((with_reducible apply v_loadn_box); exact rfl; (repeat first | exact .hd | apply Sel.tl | apply In.tl); exact rfl; exact rfl))))
      refine ret0 (.inr rfl) Try.results60 (H' := .own (some gb) 3 1 N N (intsV (st.set vs.length (st.getD k0 0))) :: .box g 27 [sl (some gb) N N] :: F) (by (repeat (first | exact MSub.nil _ | refine MSub.pick (by (repeat first | exact .hd | apply Sel.tl | apply In.tl)) ?_ | exact MSub.refl _ | refine MSub.drop .hd ?_))) ?_
      refine ⟨[.own (some gb) 3 1 N N (intsV (starts N (vs ++ [(k0 :: kr, d)]))), .box g 27 [sl (some gb) N N]], ⟨starts_le hle hk, gb, rfl⟩, ?_⟩
      rw [starts_snoc, hst]
      exact .refl _
    · exfalso
      rw [List.length_cons] at hb
      omega

/-! ### slices.Clone -/

theorem encNs_one (L : List Nd) : ∀ u ∈ L.flatMap encN, u.oneCell' = true := by
  intro u hu
  obtain ⟨n, _, h⟩ := List.mem_flatMap.1 hu
  simp only [encN, List.mem_cons, List.not_mem_nil, or_false] at h
  rcases h with rfl | rfl | rfl | rfl | rfl | rfl | rfl | rfl | rfl | rfl | rfl <;> rfl

set_option maxRecDepth 20000 in
theorem Clone_at (L : List Nd) (tv : Value) (w : World) (ht : Reads w tv L.length (L.flatMap encN)) (hlen : L.length ≤ 1000000) :
    FnAt Try.prog 61 [tv] w fun v H => ∃ A cap, v = sl A L.length cap ∧ H = [.own A 40 11 L.length cap (L.flatMap encN)] := by
  have ht' := ht
  obtain ⟨At, ct, rfl, ht1, ht2, ht3⟩ := ht
  refine fn_at Try.func61 rfl Try.ntmps61 rfl ?_
  have hl : (L.flatMap encN).length = L.length * 11 := flat_length' encN_len L
  refine w_nilrow 40 11 ?_
  repeat' (first
    | ((with_reducible apply wl_v); exact rfl; (with_reducible apply v_eqlnil); exact rfl)
    | ((with_reducible apply wl_buildSlice0); exact rfl; intro gb)
    | ((with_reducible apply wl_appendR (n' := 0) (c := 0) (A := some _) (m := L.length)); exact rfl; exact rfl; exact rfl; (repeat first | exact .hd | apply Sel.tl | apply In.tl); (intro w hm; exact ht'.of_w0 hm); exact hl; exact encNs_one L; omega; (simp only [maxLen]; omega); intro A' cap' hA)
    | ((with_reducible apply wl_v); exact rfl; (first | ((with_reducible apply vop_ok); exact rfl) | ((with_reducible apply v_eqlb); exact rfl; exact rfl) | ((with_reducible apply v_neqb); exact rfl; exact rfl)))
    | ((with_reducible apply wl_buildSlice); exact rfl; exact rfl; exact rfl; exact rfl; exact rfl; exact rfl; exact rfl; intro _)
    | (with_reducible first | apply wl_nil | apply thn_n | apply w_seq | apply w_region | apply w_ret | apply w_skip | apply w_exit | apply w_block | apply thn_r | apply thn_e | apply blk_n | apply blk_r | apply blk_e)
    | ((with_reducible apply w_cond_true); exact rfl)
    | ((with_reducible apply w_cond_false); exact rfl)
    | ((with_reducible apply w_cond) <;> first | exact rfl | (intro hb; (replace hb := Tidy.out hb; try (exfalso; omega))))
    | ((with_reducible apply blk_x); exact rfl))
  · have e : L.length = 0 := by
      rcases Nat.eq_zero_or_pos L.length with h | h
      · exact h
      · obtain ⟨g, o, rfl, _⟩ := ht3 h
        cases hb
    have e' : L = [] := List.eq_nil_of_length_eq_zero e
    subst e'
    exact ret1 (.inl rfl) Try.results61 rfl (.refl _) ⟨none, 0, rfl, rfl⟩
  · exact ret1 (.inl rfl) Try.results61 rfl (H' := [.own A' 40 11 (0 + L.length) cap' ([] ++ L.flatMap encN)]) (by (repeat (first | exact MSub.nil _ | refine MSub.pick (by (repeat first | exact .hd | apply Sel.tl | apply In.tl)) ?_ | exact MSub.refl _ | refine MSub.drop .hd ?_))) ⟨A', cap', by rw [Nat.zero_add], by rw [Nat.zero_add]; rfl⟩

/-- Sub: the tree below a node, and the error. -/
def subE (L : List Nd) (i : Int) : List Nd × Int :=
  if checkE L ≠ 0 then ([], checkE L) else if i < 0 ∨ (L.length : Int) ≤ i then ([], 3)
  else ((L.take (i.toNat + 1)).drop ((starts L.length (checkT L false).2).getD i.toNat 0), 0)

theorem zeros_eq (N : Nat) : ((List.range (N * 1)).map fun i => [Value.int .i64 0][i % [Value.int .i64 0].length]!) = intsV (starts N []) := by
  apply List.ext_getElem
  · simp [intsV, starts]
  · intro i h1 h2
    simp [intsV, starts, Nat.mod_one]

set_option maxRecDepth 20000 in
theorem Sub_at (L : List Nd) (i : Int) (tv : Value) (w : World) (ht : Reads w tv L.length (L.flatMap encN)) (hlen : L.length ≤ 1000000) :
    FnAt Try.prog 22 [tv, .int .i64 i] w fun v H => ∃ A cap, v = .tuple #[sl A (subE L i).1.length cap, .int .i64 (subE L i).2] ∧ H = [.own A 40 11 (subE L i).1.length cap ((subE L i).1.flatMap encN)] := by
  have ht' := ht
  obtain ⟨At, ct, rfl, ht1, ht2, ht3⟩ := ht
  refine fn_at Try.func22 rfl Try.ntmps22 rfl ?_
  have hz := zeros_eq L.length
  have hw := fun g gb => check_in L false _ w ht' 60 [.pointer (some ⟨g, 0, none⟩)] _ (visits_sub L.length w g) [.own (some gb) 3 1 L.length L.length (intsV (starts L.length [])), .box g 27 [sl (some gb) L.length L.length]] ⟨fun j => by
    simp only [starts, List.zipIdx_nil, List.foldl_nil, List.getD_eq_getElem?_getD, List.getElem?_replicate]
    split <;> simp, gb, rfl⟩
  unfold subE checkE
  generalize checkT L false = r at hw
  repeat' (first
    | ((with_reducible apply wl_makeSlice (c := L.length)); exact rfl; exact rfl; exact rfl; omega; (simp only [maxLen]; omega); (intro gb; rw [hz]))
    | ((with_reducible apply wl_callin); exact rfl; exact rfl; (refine (hw _ gb).msub ?_; (repeat (first | exact MSub.nil _ | refine MSub.pick (by (repeat first | exact .hd | apply Sel.tl | apply In.tl)) ?_ | exact MSub.refl _ | refine MSub.drop .hd ?_))); (rintro v H' ⟨rfl, hle, gb2, rfl⟩; refine wl_nilrow 40 11 ?_))
    | ((with_reducible apply wl_v); exact rfl; (first | ((with_reducible apply vop_ok); exact rfl) | ((with_reducible apply v_len); exact rfl) | ((with_reducible apply v_lens); exact rfl) | ((with_reducible apply v_makeFunc); exact rfl) | ((with_reducible apply v_load_box); exact rfl; (repeat first | exact .hd | apply Sel.tl | apply In.tl); exact rfl) | ((with_reducible apply v_eqlb); exact rfl; exact rfl) | ((with_reducible apply v_neqb); exact rfl; exact rfl) | ((with_reducible apply v_loadw_box); exact rfl; (repeat first | exact .hd | apply Sel.tl | apply In.tl); exact rfl) | ((with_reducible apply v_loadn_box); exact rfl; (repeat first | exact .hd | apply Sel.tl | apply In.tl); exact rfl; exact rfl)))
    | ((with_reducible apply wl_gyes); exact rfl; exact rfl)
    | ((with_reducible apply wl_gno_b); exact rfl; exact rfl; exact rfl; exact rfl)
    | ((with_reducible apply wl_gno_u); exact rfl; exact rfl; exact rfl)
    | ((with_reducible apply wl_alloc); exact rfl; intro _)
    | ((with_reducible apply wl_storen_box); exact rfl; exact rfl; (repeat first | exact .hd | apply Sel.tl | apply In.tl); exact rfl; exact rfl; exact rfl)
    | ((with_reducible apply wl_putn_box); exact rfl; exact rfl; (repeat first | exact .hd | apply Sel.tl | apply In.tl); exact rfl; exact rfl; exact rfl; exact rfl)
    | ((with_reducible apply wl_gsplit) <;> first | exact rfl | (intro hb; (replace hb := Tidy.out hb; try (exfalso; omega))))
    | (with_reducible first | apply wl_nil | apply thn_n | apply w_seq | apply w_region | apply w_ret | apply w_skip | apply w_exit | apply w_block | apply thn_r | apply thn_e | apply blk_n | apply blk_r | apply blk_e)
    | ((with_reducible apply w_cond_true); exact rfl)
    | ((with_reducible apply w_cond_false); exact rfl)
    | ((with_reducible apply w_cond) <;> first | exact rfl | (intro hb; (replace hb := Tidy.out hb; try (exfalso; omega))))
    | ((with_reducible apply blk_x); exact rfl))
  · refine ret2 (.inl rfl) Try.results22 rfl rfl (H' := [.own none 40 11 0 0 []]) (by (repeat (first | exact MSub.nil _ | refine MSub.pick (by (repeat first | exact .hd | apply Sel.tl | apply In.tl)) ?_ | exact MSub.refl _ | refine MSub.drop .hd ?_))) ⟨none, 0, ?_⟩
    rw [if_pos hb]
    exact ⟨rfl, rfl⟩
  · refine ret2 (.inl rfl) Try.results22 rfl rfl (H' := [.own none 40 11 0 0 []]) (by (repeat (first | exact MSub.nil _ | refine MSub.pick (by (repeat first | exact .hd | apply Sel.tl | apply In.tl)) ?_ | exact MSub.refl _ | refine MSub.drop .hd ?_))) ⟨none, 0, ?_⟩
    rw [if_neg (by omega), if_pos (by omega)]
    exact ⟨rfl, rfl⟩
  · refine ret2 (.inl rfl) Try.results22 rfl rfl (H' := [.own none 40 11 0 0 []]) (by (repeat (first | exact MSub.nil _ | refine MSub.pick (by (repeat first | exact .hd | apply Sel.tl | apply In.tl)) ?_ | exact MSub.refl _ | refine MSub.drop .hd ?_))) ⟨none, 0, ?_⟩
    rw [if_neg (by omega), if_pos (by omega)]
    exact ⟨rfl, rfl⟩
  · obtain ⟨j, rfl⟩ := Int.eq_ofNat_of_zero_le (by omega : 0 ≤ i)
    have hj : j < L.length := by omega
    rw [if_neg (by omega), if_neg (by omega), Int.toNat_natCast]
    generalize hst : starts L.length r.2 = st at hle
    have hstl : st.length = L.length := by rw [← hst]; exact starts_length _ _
    have hlo := hle j
    have hg : (intsV st)[0 + j * 1]? = some (.int .i64 ((st.getD j 0 : Nat) : Int)) := by
      rw [show 0 + j * 1 = j by omega, intsV_get (by omega)]
      simp [show j < st.length by omega]
    generalize st.getD j 0 = lo at hlo hg
    have hcut := ht'.cut (lo := lo) (hi := j + 1) (sz := 11) (by omega) (by omega)
    have hl1 : ((L.take (j + 1)).drop lo).length = j + 1 - lo := by simp; omega
    have hl2 : ((L.flatMap encN).drop (lo * 11)).take ((j + 1 - lo) * 11) = ((L.take (j + 1)).drop lo).flatMap encN := by
      rw [flat_drop encN_len, flat_take encN_len, List.drop_take]
    rw [hl2, ← hl1] at hcut
    have hcl := fun (w' : World) (H : List Blk) (hm : Mem w w' H) => Clone_at _ _ w' (hcut.of_w0 hm) (by rw [hl1]; omega)
    rw [hl1] at hcl
    repeat' (first
      | ((with_reducible apply wl_v); exact rfl; (with_reducible apply v_indexAddr (j := j)); exact rfl; exact rfl; exact hj)
      | ((with_reducible apply wl_v); exact rfl; (with_reducible apply v_load_own); exact rfl; (repeat first | exact .hd | apply Sel.tl | apply In.tl); exact hg)
      | ((with_reducible apply wl_v); exact rfl; (with_reducible apply v_succN); exact rfl; exact rfl; (simp only [maxLen]; omega))
      | ((with_reducible apply wl_v); exact rfl; (with_reducible apply v_slice (lo := lo) (hi := j + 1)); exact rfl; exact ⟨_, rfl⟩; exact ⟨_, rfl⟩; omega; omega)
      | ((with_reducible apply wl_call); exact rfl; exact rfl; (intro w' hm; exact hcl w' _ hm); (rintro v H' ⟨A, cap, rfl, rfl⟩))
      | ((with_reducible apply wl_v); exact rfl; (first | ((with_reducible apply vop_ok); exact rfl) | ((with_reducible apply v_len); exact rfl) | ((with_reducible apply v_lens); exact rfl) | ((with_reducible apply v_makeFunc); exact rfl) | ((with_reducible apply v_load_box); exact rfl; (repeat first | exact .hd | apply Sel.tl | apply In.tl); exact rfl) | ((with_reducible apply v_eqlb); exact rfl; exact rfl) | ((with_reducible apply v_neqb); exact rfl; exact rfl) | ((with_reducible apply v_loadw_box); exact rfl; (repeat first | exact .hd | apply Sel.tl | apply In.tl); exact rfl) | ((with_reducible apply v_loadn_box); exact rfl; (repeat first | exact .hd | apply Sel.tl | apply In.tl); exact rfl; exact rfl)))
      | ((with_reducible apply wl_gyes); exact rfl; exact rfl)
      | ((with_reducible apply wl_gno_b); exact rfl; exact rfl; exact rfl; exact rfl)
      | ((with_reducible apply wl_gno_u); exact rfl; exact rfl; exact rfl)
      | ((with_reducible apply wl_alloc); exact rfl; intro _)
      | ((with_reducible apply wl_storen_box); exact rfl; exact rfl; (repeat first | exact .hd | apply Sel.tl | apply In.tl); exact rfl; exact rfl; exact rfl)
      | ((with_reducible apply wl_putn_box); exact rfl; exact rfl; (repeat first | exact .hd | apply Sel.tl | apply In.tl); exact rfl; exact rfl; exact rfl; exact rfl)
      | ((with_reducible apply wl_gsplit) <;> first | exact rfl | (intro hb; (replace hb := Tidy.out hb; try (exfalso; omega))))
      | (with_reducible first | apply wl_nil | apply thn_n | apply w_seq | apply w_region | apply w_ret | apply w_skip | apply w_exit | apply w_block | apply thn_r | apply thn_e | apply blk_n | apply blk_r | apply blk_e)
      | ((with_reducible apply w_cond_true); exact rfl)
      | ((with_reducible apply w_cond_false); exact rfl)
      | ((with_reducible apply w_cond) <;> first | exact rfl | (intro hb; (replace hb := Tidy.out hb; try (exfalso; omega))))
      | ((with_reducible apply blk_x); exact rfl))
    exact ret2 (.inl rfl) Try.results22 rfl rfl (H' := [.own A 40 11 (j + 1 - lo) cap (((L.take (j + 1)).drop lo).flatMap encN)]) (by (repeat (first | exact MSub.nil _ | refine MSub.pick (by (repeat first | exact .hd | apply Sel.tl | apply In.tl)) ?_ | exact MSub.refl _ | refine MSub.drop .hd ?_))) ⟨A, cap, by rw [hl1], by rw [hl1]⟩
end Go.SL

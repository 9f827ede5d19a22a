/-
  What 'walk' and 'check' of package tree return, and which visits they make.
-/
import Derived.Test.YtfkklicpnoeclaaW3
import Derived.Test.YtfkklicpnoeclaaW4
namespace Go.SL
open Go Go.Proofs
attribute [local irreducible] W WL WQ WG WA VOp thn blk retP FnAt FnIn

/-- A visit keeps Inv, which tells what is owned by the visits so far. -/
def Visits (N : Nat) (w0 : World) (f : FuncId) (caps : List Value) (Inv : List Visit → List Blk → Prop) : Prop :=
  ∀ (vs : List Visit) (kids : List Nat) (d : Nat) (A : Option Nat) (cap : Nat) (H F : List Blk), Inv vs H → kids.length ≤ 1000 → vs.length < N → (∀ k ∈ kids, k < vs.length) →
    FnIn Try.prog f ([.int .i64 (vs.length : Int), sl A kids.length cap, .int .i64 (d : Int)] ++ caps) w0 (.own A 3 1 kids.length cap (kids.map fun (k : Nat) => .int .i64 (k : Int)) :: (H ++ F))
      fun _ H' => ∃ H1, Inv (vs ++ [(kids, d)]) H1 ∧ MSub (H1 ++ F) H'

theorem fields_ok {n : Nd} (h : fieldsE n = 0) : 0 ≤ below n ∧ below n ≤ 16 := by
  unfold fieldsE at h
  split at h
  · cases h
  · rename_i hk
    split at h
    · rename_i h7
      unfold below
      split
      · omega
      · split
        · omega
        · omega
    · rename_i h7
      have h7' : n.kind = 7 := by omega
      have hb : below n = n.n := by simp [below, h7']
      have hk1 : kindOk n = true := by
        cases hh : kindOk n
        · exact absurd (Or.inl hh) hk
        · rfl
      simp [kindOk, h7'] at hk1
      split at h
      · rename_i ha; omega
      · split at h
        · omega
        · rename_i hc
          have hm : (arity n.fn).2.1 ≤ 16 := by
            unfold arity
            (repeat' split) <;> simp
          omega

theorem topOf_length (st : List Pt) (k : Nat) (h : k ≤ st.length) : (topOf st k).length = k := by simp [topOf]; omega
theorem topOf_mem {st : List Pt} {k : Nat} {p : Pt} (h : p ∈ topOf st k) : p ∈ st := List.mem_of_mem_drop h

/-- The last k trees of the stack, as a slice. -/
theorem top_reads {w0 w : World} {H : List Blk} {A : Option Nat} {st : List Pt} {cap k : Nat} (hm : Mem w0 w H) (hi : In (.own A 117 3 st.length cap (st.flatMap encP)) H) (h : k ≤ st.length) :
    Reads w (.slice (if cap = st.length - k then A.map fun g => ⟨g, 0, none⟩ else (A.map fun g => (⟨g, 0, none⟩ : Addr)).map (·.add ((st.length - k) * 3))) (st.length - (st.length - k)) (cap - (st.length - k))) (topOf st k).length ((topOf st k).flatMap encP) := by
  have h1 := (Reads.of_own hm hi).cut (lo := st.length - k) (hi := st.length) (sz := 3) (by omega) (Nat.le_refl _)
  have e1 : st.length - (st.length - k) = (topOf st k).length := by rw [topOf_length st k h]; omega
  rw [flat_drop encP_len, e1] at h1
  have e2 : ((st.drop (st.length - k)).flatMap encP).take ((topOf st k).length * 3) = (topOf st k).flatMap encP := by
    rw [List.take_of_length_le (by rw [flat_length' encP_len]; exact Nat.le_refl _)]; rfl
  rw [e2] at h1
  rw [e1]
  exact h1

theorem depthOf_succ (top : List Pt) (j : Nat) (h : j < top.length) : depthOf (top.take (j + 1)) = max (depthOf (top.take j)) (top[j].depth + 1) := by
  unfold depthOf
  rw [List.take_succ_eq_append_getElem h, List.foldl_append]
  rfl
theorem depthOf_bound (top : List Pt) (h : ∀ p ∈ top, p.depth ≤ 32) : depthOf top ≤ 33 := by
  have : ∀ (l : List Pt) (d : Nat), d ≤ 33 → (∀ p ∈ l, p.depth ≤ 32) → l.foldl (fun d p => max d (p.depth + 1)) d ≤ 33 := by
    intro l
    induction l with
    | nil => intro d hd _; simpa using hd
    | cons p r ih =>
      intro d hd hp
      have := hp p List.mem_cons_self
      exact ih _ (by show max d (p.depth + 1) ≤ 33; omega) fun q hq => hp q (List.mem_cons_of_mem _ hq)
  exact this top 1 (by omega) h

structure WalkSt (L : List Nd) (Inv : List Visit → List Blk → Prop) (i : Nat) (st : List Pt) (vs : List Visit) (Hv : List Blk) : Prop where
  le : i ≤ L.length
  len : vs.length = i
  inv : Inv vs Hv
  rest : walkT L L 0 [] [] = walkT L (L.drop i) i st vs
  ok : ∀ p ∈ st, p.root < i ∧ p.depth ≤ 32
  small : st.length ≤ i

set_option maxRecDepth 20000 in
set_option maxHeartbeats 2000000 in
theorem walk_in (L : List Nd) (hne : 0 < L.length) (hlen : L.length ≤ 256) (tv : Value) (w0 : World) (ht : Reads w0 tv L.length (L.flatMap encN)) (f : FuncId) [hf : Callable Try.prog f] (caps : List Value) (Inv : List Visit → List Blk → Prop) (hV : Visits L.length w0 f caps Inv)
    (H : List Blk) (hI : Inv [] H) : FnIn Try.prog 76 [tv, .func (.func f) #[] caps.toArray] w0 H fun v H' => v = .int .i64 (walkT L L 0 [] []).1 ∧ Inv (walkT L L 0 [] []).2 H' := by
  have ht' := ht
  obtain ⟨At, ct, rfl, ht1, ht2, ht3⟩ := ht
  obtain ⟨gt, ot, rfl, hrt⟩ := ht3 hne
  refine fn_in Try.func76 rfl Try.ntmps76 rfl ?_
  repeat' (first
    | ((with_reducible apply wl_v); exact rfl; (first | ((with_reducible apply vop_ok); exact rfl) | ((with_reducible apply v_fieldAddr); exact rfl) | ((with_reducible apply v_len); exact rfl) | ((with_reducible apply v_lens); exact rfl) | ((with_reducible apply v_load_box); exact rfl; (repeat first | exact .hd | apply Sel.tl | apply In.tl); exact rfl) | ((with_reducible apply v_eqlb); exact rfl; exact rfl) | ((with_reducible apply v_neqb); exact rfl; exact rfl) | ((with_reducible apply v_max); exact rfl; exact rfl) | ((with_reducible apply v_loadw_box); exact rfl; (repeat first | exact .hd | apply Sel.tl | apply In.tl); exact rfl) | ((with_reducible apply v_loadn_box); exact rfl; (repeat first | exact .hd | apply Sel.tl | apply In.tl); exact rfl; exact rfl) | ((with_reducible apply v_build); exact rfl; exact rfl; exact rfl)))
    | ((with_reducible apply wl_gyes); exact rfl; exact rfl)
    | ((with_reducible apply wl_gno_b); exact rfl; exact rfl; exact rfl; exact rfl)
    | ((with_reducible apply wl_gno_u); exact rfl; exact rfl; exact rfl)
    | ((with_reducible apply wl_alloc); exact rfl; intro _)
    | ((with_reducible apply wl_storen_box); exact rfl; exact rfl; (repeat first | exact .hd | apply Sel.tl | apply In.tl); exact rfl; exact rfl; exact rfl)
    | ((with_reducible apply wl_putn_box); exact rfl; exact rfl; (repeat first | exact .hd | apply Sel.tl | apply In.tl); exact rfl; exact rfl; exact rfl; exact rfl)
    | ((with_reducible apply wl_buildSlice); exact rfl; exact rfl; exact rfl; exact rfl; exact rfl; exact rfl; exact rfl; intro _)
    | ((with_reducible apply wl_gsplit) <;> first | exact rfl | (intro hb; (replace hb := Tidy.out hb; try (exfalso; omega))))
    | (with_reducible first | apply wl_nil | apply thn_n | apply w_seq | apply w_region | apply w_ret | apply w_skip | apply w_exit | apply w_block | apply thn_r | apply thn_e | apply blk_n | apply blk_r | apply blk_e)
    | ((with_reducible apply w_cond_true); exact rfl)
    | ((with_reducible apply w_cond_false); exact rfl)
    | ((with_reducible apply w_cond) <;> first | exact rfl | (intro hb; (replace hb := Tidy.out hb; try (exfalso; omega))))
    | ((with_reducible apply blk_x); exact rfl))
  refine w_nilrow 117 3 ?_
  refine w_loopR (fun (i : Nat) s H => ∃ st vs A cap Hv, s = [(0, .slice (some ⟨gt, ot, none⟩) L.length ct), (1, .func (.func f) #[] caps.toArray), (5, sl A st.length cap), (14, .slice (some ⟨gt, ot, none⟩) L.length ct), (15, .int .i64 (L.length : Int)), (16, .int .i64 (i : Int))] ∧
      H = .own A 117 3 st.length cap (st.flatMap encP) :: Hv ∧ WalkSt L Inv i st vs Hv) (fun i => L.length - i) 0 ?_ ?_
  · refine ⟨_, _, ?_, ?_, ⟨[], [], none, 0, H, rfl, rfl, ⟨Nat.zero_le _, rfl, hI, rfl, by simp, Nat.le_refl _⟩⟩⟩
    · (repeat (first | exact Sub.nil _ | refine Sub.cons rfl ?_))
    · (repeat (first | exact MSub.nil _ | refine MSub.pick (by (repeat first | exact .hd | apply Sel.tl | apply In.tl)) ?_ | exact MSub.refl _ | refine MSub.drop .hd ?_))
  · rintro i _ _ ⟨st, vs, A, cap, Hv, rfl, rfl, hst⟩
    obtain ⟨hle, hvl, hinv, hrest, hok, hsmall⟩ := hst
    by_cases hlt : i < L.length
    · have hrn := hrt.elem encN_len i hlt
      rw [List.drop_eq_getElem_cons hlt, walkT, stepT] at hrest
      generalize hn : L[i] = n at hrest hrn
      by_cases hfe : fieldsE n = 0
      · obtain ⟨hb0, hb16⟩ := fields_ok hfe
        obtain ⟨k, hk⟩ := Int.eq_ofNat_of_zero_le hb0
        rw [if_neg (by simp [hfe]), hk, Int.toNat_natCast] at hrest
        have hbel : ∀ w, Pure Try.prog 86 [.agg (encN n).toArray] w (.int .i64 (k : Int)) := fun w => hk ▸ below_at n w
        have hfie : ∀ w, Pure Try.prog 85 [.agg (encN n).toArray] w (.int .i64 0) := fun w => hfe ▸ fields_at n w
        refine w_row .hd fun hr1 hr2 hr3 => ?_
        repeat' (first
          | ((with_reducible apply wl_v); exact rfl; (with_reducible apply v_indexAddr); exact rfl; exact rfl; exact hlt)
          | ((with_reducible apply wl_v); exact rfl; (with_reducible apply v_loadw_ro); exact rfl; exact hrn; exact rfl)
          | ((with_reducible apply wl_v); exact rfl; (with_reducible apply v_addN); exact rfl; exact rfl; (simp only [maxLen]; omega))
          | ((with_reducible apply wl_callp); exact rfl; exact rfl; (intro w hm; exact hfie w))
          | ((with_reducible apply wl_callp); exact rfl; exact rfl; (intro w hm; exact hbel w))
          | ((with_reducible apply w_draw (id := 9)); kernel_rfl; kernel_rfl)
          | ((with_reducible apply wq_v); exact rfl; (with_reducible apply v_subN); exact rfl; exact rfl; omega; omega)
          | ((with_reducible apply wl_v); exact rfl; (with_reducible apply v_subN); exact rfl; exact rfl; omega; omega)
          | ((with_reducible apply wq_v); exact rfl; (with_reducible apply v_slice (hi := st.length)); exact rfl; exact ⟨_, rfl⟩; exact rfl; omega; omega)
          | ((with_reducible apply wq_callp); exact rfl; exact rfl; (intro w hm; exact fits_at L n (topOf st k) _ _ w (ht'.of_w0 hm) (top_reads hm (by (repeat first | exact .hd | apply Sel.tl | apply In.tl)) (by omega)) (fun p hp => Nat.lt_trans (hok p (topOf_mem hp)).1 hlt) (by rw [topOf_length st k (by omega)]; omega)))
          | ((with_reducible first | apply wl_v | apply wq_v); exact rfl; (first | ((with_reducible apply vop_ok); exact rfl) | ((with_reducible apply v_fieldAddr); exact rfl) | ((with_reducible apply v_len); exact rfl) | ((with_reducible apply v_lens); exact rfl) | ((with_reducible apply v_load_box); exact rfl; (repeat first | exact .hd | apply Sel.tl | apply In.tl); exact rfl) | ((with_reducible apply v_eqlb); exact rfl; exact rfl) | ((with_reducible apply v_neqb); exact rfl; exact rfl) | ((with_reducible apply v_max); exact rfl; exact rfl) | ((with_reducible apply v_loadw_box); exact rfl; (repeat first | exact .hd | apply Sel.tl | apply In.tl); exact rfl) | ((with_reducible apply v_loadn_box); exact rfl; (repeat first | exact .hd | apply Sel.tl | apply In.tl); exact rfl; exact rfl) | ((with_reducible apply v_build); exact rfl; exact rfl; exact rfl)))
          | ((with_reducible first | apply wl_gyes | apply wq_gyes); exact rfl; exact rfl)
          | ((with_reducible first | apply wl_gno_b | apply wq_gno_b); exact rfl; exact rfl; exact rfl; exact rfl)
          | ((with_reducible first | apply wl_gno_u | apply wq_gno_u); exact rfl; exact rfl; exact rfl)
          | ((with_reducible apply wl_alloc); exact rfl; intro _)
          | ((with_reducible apply wl_storen_box); exact rfl; exact rfl; (repeat first | exact .hd | apply Sel.tl | apply In.tl); exact rfl; exact rfl; exact rfl)
          | ((with_reducible apply wl_putn_box); exact rfl; exact rfl; (repeat first | exact .hd | apply Sel.tl | apply In.tl); exact rfl; exact rfl; exact rfl; exact rfl)
          | ((with_reducible apply wl_buildSlice); exact rfl; exact rfl; exact rfl; exact rfl; exact rfl; exact rfl; exact rfl; intro _)
          | ((with_reducible first | apply wl_gsplit | apply wq_gsplit) <;> first | exact rfl | (intro hb; (replace hb := Tidy.out hb; try (exfalso; omega))))
          | (with_reducible first | apply wl_nil | apply thn_n | apply w_seq | apply w_region | apply w_ret | apply w_skip | apply w_exit | apply w_block | apply thn_r | apply thn_e | apply blk_n | apply blk_r | apply blk_e | apply wq_nil)
          | ((with_reducible apply w_cond_true); exact rfl)
          | ((with_reducible apply w_cond_false); exact rfl)
          | ((with_reducible apply w_cond) <;> first | exact rfl | (intro hb; (replace hb := Tidy.out hb; try (exfalso; omega))))
          | ((with_reducible apply blk_x); exact rfl))
        · refine ret1 (.inl rfl) Try.results76 rfl (.drop .hd (.drop .hd (.refl _))) ?_
          rw [hrest, if_pos (Or.inl (by omega))]
          exact ⟨rfl, hinv⟩
        · refine ret1 (.inl rfl) Try.results76 rfl (.drop .hd (.drop .hd (.refl _))) ?_
          rw [hrest, if_pos (Or.inr hb)]
          exact ⟨rfl, hinv⟩
        have hkl : k ≤ st.length := by omega
        rw [if_neg (by intro h; rcases h with h | h; (· omega); (· rw [hb] at h; cases h))] at hrest
        repeat' (first
          | ((with_reducible apply wl_v); exact rfl; (with_reducible apply v_subN); exact rfl; exact rfl; omega; omega)
          | ((with_reducible apply wl_slice (hi := st.length)); exact rfl; exact rfl; exact ⟨_, rfl⟩; exact rfl; omega; omega; (intro B hB))
          | ((with_reducible apply wl_v); exact rfl; (first | ((with_reducible apply vop_ok); exact rfl) | ((with_reducible apply v_fieldAddr); exact rfl) | ((with_reducible apply v_len); exact rfl) | ((with_reducible apply v_lens); exact rfl) | ((with_reducible apply v_load_box); exact rfl; (repeat first | exact .hd | apply Sel.tl | apply In.tl); exact rfl) | ((with_reducible apply v_eqlb); exact rfl; exact rfl) | ((with_reducible apply v_neqb); exact rfl; exact rfl) | ((with_reducible apply v_max); exact rfl; exact rfl) | ((with_reducible apply v_loadw_box); exact rfl; (repeat first | exact .hd | apply Sel.tl | apply In.tl); exact rfl) | ((with_reducible apply v_loadn_box); exact rfl; (repeat first | exact .hd | apply Sel.tl | apply In.tl); exact rfl; exact rfl) | ((with_reducible apply v_build); exact rfl; exact rfl; exact rfl)))
          | ((with_reducible apply wl_gyes); exact rfl; exact rfl)
          | ((with_reducible apply wl_gno_b); exact rfl; exact rfl; exact rfl; exact rfl)
          | ((with_reducible apply wl_gno_u); exact rfl; exact rfl; exact rfl)
          | ((with_reducible apply wl_alloc); exact rfl; intro _)
          | ((with_reducible apply wl_storen_box); exact rfl; exact rfl; (repeat first | exact .hd | apply Sel.tl | apply In.tl); exact rfl; exact rfl; exact rfl)
          | ((with_reducible apply wl_putn_box); exact rfl; exact rfl; (repeat first | exact .hd | apply Sel.tl | apply In.tl); exact rfl; exact rfl; exact rfl; exact rfl)
          | ((with_reducible apply wl_buildSlice); exact rfl; exact rfl; exact rfl; exact rfl; exact rfl; exact rfl; exact rfl; intro _)
          | ((with_reducible apply wl_gsplit) <;> first | exact rfl | (intro hb; (replace hb := Tidy.out hb; try (exfalso; omega))))
          | (with_reducible first | apply wl_nil | apply thn_n | apply w_seq | apply w_region | apply w_ret | apply w_skip | apply w_exit | apply w_block | apply thn_r | apply thn_e | apply blk_n | apply blk_r | apply blk_e)
          | ((with_reducible apply w_cond_true); exact rfl)
          | ((with_reducible apply w_cond_false); exact rfl)
          | ((with_reducible apply w_cond) <;> first | exact rfl | (intro hb; (replace hb := Tidy.out hb; try (exfalso; omega))))
          | ((with_reducible apply blk_x); exact rfl))
        rename_i gn gp
        refine w_nilrow 3 1 ?_
        have htl := topOf_length st k hkl
        refine w_loopR (fun (j : Nat) s H => ∃ A2 cap2, s = [(0, .slice (some ⟨gt, ot, none⟩) L.length ct), (1, .func (.func f) #[] caps.toArray), (5, sl A st.length cap), (6, .int .i64 (i : Int)), (9, .int .i64 (k : Int)), (10, .pointer (some ⟨gp, 0, none⟩)), (11, sl A2 j cap2),
            (14, .slice (some ⟨gt, ot, none⟩) L.length ct), (15, .int .i64 (L.length : Int)), (16, .int .i64 (i : Int)), (54, .slice B (st.length - (st.length - k)) (cap - (st.length - k))), (55, .int .i64 ((st.length - (st.length - k) : Nat) : Int)), (56, .int .i64 (j : Int))] ∧
            H = .own A2 3 1 j cap2 (((topOf st k).take j).map fun p => .int .i64 (p.root : Int)) :: .box gp 117 [.int .i64 (i : Int), .int .i64 (depthOf ((topOf st k).take j) : Int), .bool (decide (n.kind = 3))] :: .own A 117 3 st.length cap (st.flatMap encP) :: Hv ∧ j ≤ k) (fun j => k - j) 0 ?_ ?_
        · refine ⟨_, _, ?_, ?_, ⟨none, 0, rfl, rfl, by omega⟩⟩
          · (repeat (first | exact Sub.nil _ | refine Sub.cons rfl ?_))
          · (repeat (first | exact MSub.nil _ | refine MSub.pick (by (repeat first | exact .hd | apply Sel.tl | apply In.tl)) ?_ | exact MSub.refl _ | refine MSub.drop .hd ?_))
        · rintro j _ _ ⟨A2, cap2, rfl, rfl, hjk⟩
          by_cases hj : j < k
          · refine w_some (.tl (.tl .hd)) (by omega) fun gs hA => ?_
            subst hA
            obtain rfl : B = some ⟨gs, 0 + (st.length - k) * 3, none⟩ := by rw [hB, if_neg (by omega)]; simp [addr_add]
            have hjt : j < (topOf st k).length := by omega
            have he : ((st.flatMap encP).drop (0 + (st.length - k) * 3 + j * 3)).take 3 = encP (topOf st k)[j] := by
              rw [show 0 + (st.length - k) * 3 + j * 3 = (st.length - k + j) * 3 by rw [Nat.add_mul]; omega, flat_elem encP_len st _ (by omega)]
              simp [topOf]
            have hd32 : (topOf st k)[j].depth ≤ 32 := (hok _ (topOf_mem (List.getElem_mem hjt))).2
            repeat' (first
              | ((with_reducible apply wl_v); exact rfl; (with_reducible apply v_indexAddr); exact rfl; exact rfl; omega)
              | ((with_reducible apply wl_v); exact rfl; (with_reducible apply v_loade_own); exact rfl; (repeat first | exact .hd | apply Sel.tl | apply In.tl); exact he; exact rfl)
              | ((with_reducible apply wl_v); exact rfl; (with_reducible apply v_succN); exact rfl; exact rfl; (simp only [maxLen]; omega))
              | ((with_reducible apply wl_v); exact rfl; (with_reducible apply v_maxN); exact rfl; exact rfl)
              | ((with_reducible apply wl_append); exact rfl; exact rfl; exact rfl; (repeat first | exact .hd | apply Sel.tl | apply In.tl); (intro w hm; exact hm.cells_own (by (repeat first | exact .hd | apply Sel.tl | apply In.tl))); exact rfl; (simp [Value.oneCell', sl]); omega; (simp only [maxLen]; omega); (intro A' cap' hA'))
              | ((with_reducible apply wl_v); exact rfl; (first | ((with_reducible apply vop_ok); exact rfl) | ((with_reducible apply v_fieldAddr); exact rfl) | ((with_reducible apply v_len); exact rfl) | ((with_reducible apply v_lens); exact rfl) | ((with_reducible apply v_load_box); exact rfl; (repeat first | exact .hd | apply Sel.tl | apply In.tl); exact rfl) | ((with_reducible apply v_eqlb); exact rfl; exact rfl) | ((with_reducible apply v_neqb); exact rfl; exact rfl) | ((with_reducible apply v_max); exact rfl; exact rfl) | ((with_reducible apply v_loadw_box); exact rfl; (repeat first | exact .hd | apply Sel.tl | apply In.tl); exact rfl) | ((with_reducible apply v_loadn_box); exact rfl; (repeat first | exact .hd | apply Sel.tl | apply In.tl); exact rfl; exact rfl) | ((with_reducible apply v_build); exact rfl; exact rfl; exact rfl)))
              | ((with_reducible apply wl_gyes); exact rfl; exact rfl)
              | ((with_reducible apply wl_gno_b); exact rfl; exact rfl; exact rfl; exact rfl)
              | ((with_reducible apply wl_gno_u); exact rfl; exact rfl; exact rfl)
              | ((with_reducible apply wl_alloc); exact rfl; intro _)
              | ((with_reducible apply wl_storen_box); exact rfl; exact rfl; (repeat first | exact .hd | apply Sel.tl | apply In.tl); exact rfl; exact rfl; exact rfl)
              | ((with_reducible apply wl_putn_box); exact rfl; exact rfl; (repeat first | exact .hd | apply Sel.tl | apply In.tl); exact rfl; exact rfl; exact rfl; exact rfl)
              | ((with_reducible apply wl_buildSlice); exact rfl; exact rfl; exact rfl; exact rfl; exact rfl; exact rfl; exact rfl; intro _)
              | ((with_reducible apply wl_gsplit) <;> first | exact rfl | (intro hb; (replace hb := Tidy.out hb; try (exfalso; omega))))
              | (with_reducible first | apply wl_nil | apply thn_n | apply w_seq | apply w_region | apply w_ret | apply w_skip | apply w_exit | apply w_block | apply thn_r | apply thn_e | apply blk_n | apply blk_r | apply blk_e)
              | ((with_reducible apply w_cond_true); exact rfl)
              | ((with_reducible apply w_cond_false); exact rfl)
              | ((with_reducible apply w_cond) <;> first | exact rfl | (intro hb; (replace hb := Tidy.out hb; try (exfalso; omega))))
              | ((with_reducible apply blk_x); exact rfl))
            have hk1 : ((topOf st k).take (j + 1)).map (fun p => Value.int .i64 (p.root : Int)) = ((topOf st k).take j).map (fun p => Value.int .i64 (p.root : Int)) ++ [.int .i64 ((topOf st k)[j].root : Int)] := by
              rw [List.take_succ_eq_append_getElem hjt, List.map_append]; rfl
            refine ⟨j + 1, _, _, ?_, ?_, ?_, ⟨A', cap', rfl, rfl, hj⟩⟩
            · omega
            · (repeat (first | exact Sub.nil _ | refine Sub.cons rfl ?_))
            · rw [hk1, depthOf_succ _ _ hjt]
              (repeat (first | exact MSub.nil _ | refine MSub.pick (by (repeat first | exact .hd | apply Sel.tl | apply In.tl)) ?_ | exact MSub.refl _ | refine MSub.drop .hd ?_))
          · have e : j = k := by omega
            subst e
            have htk : (topOf st j).take j = topOf st j := List.take_of_length_le (by omega)
            rw [htk]
            have hd33 := depthOf_bound (topOf st j) fun p hp => (hok p (topOf_mem hp)).2
            repeat' (first
              | ((with_reducible apply wl_v); exact rfl; (first | ((with_reducible apply vop_ok); exact rfl) | ((with_reducible apply v_fieldAddr); exact rfl) | ((with_reducible apply v_len); exact rfl) | ((with_reducible apply v_lens); exact rfl) | ((with_reducible apply v_load_box); exact rfl; (repeat first | exact .hd | apply Sel.tl | apply In.tl); exact rfl) | ((with_reducible apply v_eqlb); exact rfl; exact rfl) | ((with_reducible apply v_neqb); exact rfl; exact rfl) | ((with_reducible apply v_max); exact rfl; exact rfl) | ((with_reducible apply v_loadw_box); exact rfl; (repeat first | exact .hd | apply Sel.tl | apply In.tl); exact rfl) | ((with_reducible apply v_loadn_box); exact rfl; (repeat first | exact .hd | apply Sel.tl | apply In.tl); exact rfl; exact rfl) | ((with_reducible apply v_build); exact rfl; exact rfl; exact rfl)))
              | ((with_reducible apply wl_gyes); exact rfl; exact rfl)
              | ((with_reducible apply wl_gno_b); exact rfl; exact rfl; exact rfl; exact rfl)
              | ((with_reducible apply wl_gno_u); exact rfl; exact rfl; exact rfl)
              | ((with_reducible apply wl_alloc); exact rfl; intro _)
              | ((with_reducible apply wl_storen_box); exact rfl; exact rfl; (repeat first | exact .hd | apply Sel.tl | apply In.tl); exact rfl; exact rfl; exact rfl)
              | ((with_reducible apply wl_putn_box); exact rfl; exact rfl; (repeat first | exact .hd | apply Sel.tl | apply In.tl); exact rfl; exact rfl; exact rfl; exact rfl)
              | ((with_reducible apply wl_buildSlice); exact rfl; exact rfl; exact rfl; exact rfl; exact rfl; exact rfl; exact rfl; intro _)
              | ((with_reducible apply wl_gsplit) <;> first | exact rfl | (intro hb; (replace hb := Tidy.out hb; try (exfalso; omega))))
              | (with_reducible first | apply wl_nil | apply thn_n | apply w_seq | apply w_region | apply w_ret | apply w_skip | apply w_exit | apply w_block | apply thn_r | apply thn_e | apply blk_n | apply blk_r | apply blk_e)
              | ((with_reducible apply w_cond_true); exact rfl)
              | ((with_reducible apply w_cond_false); exact rfl)
              | ((with_reducible apply w_cond) <;> first | exact rfl | (intro hb; (replace hb := Tidy.out hb; try (exfalso; omega))))
              | ((with_reducible apply blk_x); exact rfl))
            · refine ret1 (.inl rfl) Try.results76 rfl (.drop .hd (.drop .hd (.drop .hd (.refl _)))) ?_
              rw [hrest, if_pos (by omega)]
              exact ⟨rfl, hinv⟩
            rw [if_neg (by omega)] at hrest
            refine w_shrink (.tl (.tl .hd)) (st.length - j) (by omega) ?_
            refine w_drawA 10 rfl (by kernel_rfl) ?_
            ((with_reducible apply wa_pure (i := 0)); exact rfl; exact rfl; decide +kernel; decide +kernel; decide +kernel; (repeat (first | exact np_ret | apply np_thn | apply np_blk)); (intro _ _; first | (first | ((with_reducible apply vop_ok); exact rfl) | ((with_reducible apply v_fieldAddr); exact rfl) | ((with_reducible apply v_len); exact rfl) | ((with_reducible apply v_lens); exact rfl) | ((with_reducible apply v_makeFunc); exact rfl) | ((with_reducible apply v_load_box); exact rfl; (repeat first | exact .hd | apply Sel.tl | apply In.tl); exact rfl) | ((with_reducible apply v_eqlb); exact rfl; exact rfl) | ((with_reducible apply v_neqb); exact rfl; exact rfl) | ((with_reducible apply v_max); exact rfl; exact rfl) | ((with_reducible apply v_min); exact rfl; exact rfl) | ((with_reducible apply v_loadw_box); exact rfl; (repeat first | exact .hd | apply Sel.tl | apply In.tl); exact rfl) | ((with_reducible apply v_loadn_box); exact rfl; (repeat first | exact .hd | apply Sel.tl | apply In.tl); exact rfl; exact rfl) | ((with_reducible apply v_build); exact rfl; exact rfl; exact rfl) | ((with_reducible apply v_shr); exact rfl; exact rfl; exact rfl)) | ((with_reducible apply v_subN); exact rfl; exact rfl; omega; omega) | ((with_reducible apply v_sliceP); exact rfl; exact rfl; omega)))
            ((with_reducible apply wa_pure (i := 1)); exact rfl; exact rfl; decide +kernel; decide +kernel; decide +kernel; (repeat (first | exact np_ret | apply np_thn | apply np_blk)); (intro _ _; first | (first | ((with_reducible apply vop_ok); exact rfl) | ((with_reducible apply v_fieldAddr); exact rfl) | ((with_reducible apply v_len); exact rfl) | ((with_reducible apply v_lens); exact rfl) | ((with_reducible apply v_makeFunc); exact rfl) | ((with_reducible apply v_load_box); exact rfl; (repeat first | exact .hd | apply Sel.tl | apply In.tl); exact rfl) | ((with_reducible apply v_eqlb); exact rfl; exact rfl) | ((with_reducible apply v_neqb); exact rfl; exact rfl) | ((with_reducible apply v_max); exact rfl; exact rfl) | ((with_reducible apply v_min); exact rfl; exact rfl) | ((with_reducible apply v_loadw_box); exact rfl; (repeat first | exact .hd | apply Sel.tl | apply In.tl); exact rfl) | ((with_reducible apply v_loadn_box); exact rfl; (repeat first | exact .hd | apply Sel.tl | apply In.tl); exact rfl; exact rfl) | ((with_reducible apply v_build); exact rfl; exact rfl; exact rfl) | ((with_reducible apply v_shr); exact rfl; exact rfl; exact rfl)) | ((with_reducible apply v_subN); exact rfl; exact rfl; omega; omega) | ((with_reducible apply v_sliceP); exact rfl; exact rfl; omega)))
            ((with_reducible apply wa_pure (i := 2)); exact rfl; exact rfl; decide +kernel; decide +kernel; decide +kernel; (repeat (first | exact np_ret | apply np_thn | apply np_blk)); (intro _ _; first | (first | ((with_reducible apply vop_ok); exact rfl) | ((with_reducible apply v_fieldAddr); exact rfl) | ((with_reducible apply v_len); exact rfl) | ((with_reducible apply v_lens); exact rfl) | ((with_reducible apply v_makeFunc); exact rfl) | ((with_reducible apply v_load_box); exact rfl; (repeat first | exact .hd | apply Sel.tl | apply In.tl); exact rfl) | ((with_reducible apply v_eqlb); exact rfl; exact rfl) | ((with_reducible apply v_neqb); exact rfl; exact rfl) | ((with_reducible apply v_max); exact rfl; exact rfl) | ((with_reducible apply v_min); exact rfl; exact rfl) | ((with_reducible apply v_loadw_box); exact rfl; (repeat first | exact .hd | apply Sel.tl | apply In.tl); exact rfl) | ((with_reducible apply v_loadn_box); exact rfl; (repeat first | exact .hd | apply Sel.tl | apply In.tl); exact rfl; exact rfl) | ((with_reducible apply v_build); exact rfl; exact rfl; exact rfl) | ((with_reducible apply v_shr); exact rfl; exact rfl; exact rfl)) | ((with_reducible apply v_subN); exact rfl; exact rfl; omega; omega) | ((with_reducible apply v_sliceP); exact rfl; exact rfl; omega)))
            ((with_reducible apply wa_pure (i := 3)); exact rfl; exact rfl; decide +kernel; decide +kernel; decide +kernel; (repeat (first | exact np_ret | apply np_thn | apply np_blk)); (intro _ _; first | (first | ((with_reducible apply vop_ok); exact rfl) | ((with_reducible apply v_fieldAddr); exact rfl) | ((with_reducible apply v_len); exact rfl) | ((with_reducible apply v_lens); exact rfl) | ((with_reducible apply v_makeFunc); exact rfl) | ((with_reducible apply v_load_box); exact rfl; (repeat first | exact .hd | apply Sel.tl | apply In.tl); exact rfl) | ((with_reducible apply v_eqlb); exact rfl; exact rfl) | ((with_reducible apply v_neqb); exact rfl; exact rfl) | ((with_reducible apply v_max); exact rfl; exact rfl) | ((with_reducible apply v_min); exact rfl; exact rfl) | ((with_reducible apply v_loadw_box); exact rfl; (repeat first | exact .hd | apply Sel.tl | apply In.tl); exact rfl) | ((with_reducible apply v_loadn_box); exact rfl; (repeat first | exact .hd | apply Sel.tl | apply In.tl); exact rfl; exact rfl) | ((with_reducible apply v_build); exact rfl; exact rfl; exact rfl) | ((with_reducible apply v_shr); exact rfl; exact rfl; exact rfl)) | ((with_reducible apply v_subN); exact rfl; exact rfl; omega; omega) | ((with_reducible apply v_sliceP); exact rfl; exact rfl; omega)))
            ((with_reducible apply wa_pure (i := 4)); exact rfl; exact rfl; decide +kernel; decide +kernel; decide +kernel; (repeat (first | exact np_ret | apply np_thn | apply np_blk)); (intro _ _; first | (first | ((with_reducible apply vop_ok); exact rfl) | ((with_reducible apply v_fieldAddr); exact rfl) | ((with_reducible apply v_len); exact rfl) | ((with_reducible apply v_lens); exact rfl) | ((with_reducible apply v_makeFunc); exact rfl) | ((with_reducible apply v_load_box); exact rfl; (repeat first | exact .hd | apply Sel.tl | apply In.tl); exact rfl) | ((with_reducible apply v_eqlb); exact rfl; exact rfl) | ((with_reducible apply v_neqb); exact rfl; exact rfl) | ((with_reducible apply v_max); exact rfl; exact rfl) | ((with_reducible apply v_min); exact rfl; exact rfl) | ((with_reducible apply v_loadw_box); exact rfl; (repeat first | exact .hd | apply Sel.tl | apply In.tl); exact rfl) | ((with_reducible apply v_loadn_box); exact rfl; (repeat first | exact .hd | apply Sel.tl | apply In.tl); exact rfl; exact rfl) | ((with_reducible apply v_build); exact rfl; exact rfl; exact rfl) | ((with_reducible apply v_shr); exact rfl; exact rfl; exact rfl)) | ((with_reducible apply v_subN); exact rfl; exact rfl; omega; omega) | ((with_reducible apply v_sliceP); exact rfl; exact rfl; omega)))
            ((with_reducible apply wa_pure (i := 5)); exact rfl; exact rfl; decide +kernel; decide +kernel; decide +kernel; (repeat (first | exact np_ret | apply np_thn | apply np_blk)); (intro _ _; first | (first | ((with_reducible apply vop_ok); exact rfl) | ((with_reducible apply v_fieldAddr); exact rfl) | ((with_reducible apply v_len); exact rfl) | ((with_reducible apply v_lens); exact rfl) | ((with_reducible apply v_makeFunc); exact rfl) | ((with_reducible apply v_load_box); exact rfl; (repeat first | exact .hd | apply Sel.tl | apply In.tl); exact rfl) | ((with_reducible apply v_eqlb); exact rfl; exact rfl) | ((with_reducible apply v_neqb); exact rfl; exact rfl) | ((with_reducible apply v_max); exact rfl; exact rfl) | ((with_reducible apply v_min); exact rfl; exact rfl) | ((with_reducible apply v_loadw_box); exact rfl; (repeat first | exact .hd | apply Sel.tl | apply In.tl); exact rfl) | ((with_reducible apply v_loadn_box); exact rfl; (repeat first | exact .hd | apply Sel.tl | apply In.tl); exact rfl; exact rfl) | ((with_reducible apply v_build); exact rfl; exact rfl; exact rfl) | ((with_reducible apply v_shr); exact rfl; exact rfl; exact rfl)) | ((with_reducible apply v_subN); exact rfl; exact rfl; omega; omega) | ((with_reducible apply v_sliceP); exact rfl; exact rfl; omega)))
            repeat' (first
              | ((with_reducible apply wa_one (i := 6)); exact rfl; decide +kernel)
              | ((with_reducible apply wa_one (i := 7)); exact rfl; decide +kernel)
              | ((with_reducible apply wa_one (i := 8)); exact rfl; decide +kernel)
              | ((with_reducible apply wa_one (i := 9)); exact rfl; decide +kernel)
              | ((with_reducible apply wa_done); decide +kernel)
              | ((with_reducible apply wl_append); exact rfl; exact rfl; exact rfl; (repeat first | exact .hd | apply Sel.tl | apply In.tl); (intro w hm; exact hm.cells_own (by (repeat first | exact .hd | apply Sel.tl | apply In.tl))); exact rfl; (simp [Value.oneCell', sl]); omega; (simp only [maxLen]; omega); (intro A' cap' hA'))
              | ((with_reducible apply wl_v); exact rfl; (first | ((with_reducible apply vop_ok); exact rfl) | ((with_reducible apply v_fieldAddr); exact rfl) | ((with_reducible apply v_len); exact rfl) | ((with_reducible apply v_lens); exact rfl) | ((with_reducible apply v_load_box); exact rfl; (repeat first | exact .hd | apply Sel.tl | apply In.tl); exact rfl) | ((with_reducible apply v_eqlb); exact rfl; exact rfl) | ((with_reducible apply v_neqb); exact rfl; exact rfl) | ((with_reducible apply v_max); exact rfl; exact rfl) | ((with_reducible apply v_loadw_box); exact rfl; (repeat first | exact .hd | apply Sel.tl | apply In.tl); exact rfl) | ((with_reducible apply v_loadn_box); exact rfl; (repeat first | exact .hd | apply Sel.tl | apply In.tl); exact rfl; exact rfl) | ((with_reducible apply v_build); exact rfl; exact rfl; exact rfl)))
              | ((with_reducible apply wl_gyes); exact rfl; exact rfl)
              | ((with_reducible apply wl_gno_b); exact rfl; exact rfl; exact rfl; exact rfl)
              | ((with_reducible apply wl_gno_u); exact rfl; exact rfl; exact rfl)
              | ((with_reducible apply wl_alloc); exact rfl; intro _)
              | ((with_reducible apply wl_storen_box); exact rfl; exact rfl; (repeat first | exact .hd | apply Sel.tl | apply In.tl); exact rfl; exact rfl; exact rfl)
              | ((with_reducible apply wl_putn_box); exact rfl; exact rfl; (repeat first | exact .hd | apply Sel.tl | apply In.tl); exact rfl; exact rfl; exact rfl; exact rfl)
              | ((with_reducible apply wl_buildSlice); exact rfl; exact rfl; exact rfl; exact rfl; exact rfl; exact rfl; exact rfl; intro _)
              | ((with_reducible apply wl_gsplit) <;> first | exact rfl | (intro hb; (replace hb := Tidy.out hb; try (exfalso; omega))))
              | (with_reducible first | apply wl_nil | apply thn_n | apply w_seq | apply w_region | apply w_ret | apply w_skip | apply w_exit | apply w_block | apply thn_r | apply thn_e | apply blk_n | apply blk_r | apply blk_e)
              | ((with_reducible apply w_cond_true); exact rfl)
              | ((with_reducible apply w_cond_false); exact rfl)
              | ((with_reducible apply w_cond) <;> first | exact rfl | (intro hb; (replace hb := Tidy.out hb; try (exfalso; omega))))
              | ((with_reducible apply blk_x); exact rfl))
            have hcont : (st.flatMap encP).take ((st.length - j) * 3) ++ [.int .i64 (i : Int), .int .i64 (depthOf (topOf st j) : Int), .bool (decide (n.kind = 3))] = (st.take (st.length - j) ++ [(⟨i, depthOf (topOf st j), decide (n.kind = 3)⟩ : Pt)]).flatMap encP := by
              rw [flat_take encP_len, List.flatMap_append]; rfl
            have hvis := hV vs ((topOf st j).map Pt.root) (depthOf (topOf st j)) A2 cap2 Hv [.own A' 117 3 (st.length - j + 1) cap' ((st.take (st.length - j) ++ [(⟨i, depthOf (topOf st j), decide (n.kind = 3)⟩ : Pt)]).flatMap encP)] hinv (by rw [List.length_map]; omega) (by omega) (by intro q hq; obtain ⟨p, hp, rfl⟩ := List.mem_map.1 hq; rw [hvl]; exact (hok p (topOf_mem hp)).1)
            simp only [List.length_map, htl, hvl, List.map_map] at hvis
            rw [hcont]
            (with_reducible apply wl_callv)
            · exact rfl
            · exact rfl
            · infer_instance
            · exact rfl
            · refine hvis.msub ?_
              refine MSub.pick (T := _) (by (repeat first | exact .hd | apply Sel.tl | apply In.tl)) (MSub.snoc (by (repeat first | exact .hd | apply Sel.tl | apply In.tl)) ?_)
              (repeat (first | exact MSub.nil _ | refine MSub.pick (by (repeat first | exact .hd | apply Sel.tl | apply In.tl)) ?_ | exact MSub.refl _ | refine MSub.drop .hd ?_))
            rintro v H' ⟨H1, hI1, hM1⟩
            repeat' (first
              | ((with_reducible apply wl_v); exact rfl; (with_reducible apply v_succN); exact rfl; exact rfl; (simp only [maxLen]; omega))
              | ((with_reducible apply wl_v); exact rfl; (first | ((with_reducible apply vop_ok); exact rfl) | ((with_reducible apply v_fieldAddr); exact rfl) | ((with_reducible apply v_len); exact rfl) | ((with_reducible apply v_lens); exact rfl) | ((with_reducible apply v_load_box); exact rfl; (repeat first | exact .hd | apply Sel.tl | apply In.tl); exact rfl) | ((with_reducible apply v_eqlb); exact rfl; exact rfl) | ((with_reducible apply v_neqb); exact rfl; exact rfl) | ((with_reducible apply v_max); exact rfl; exact rfl) | ((with_reducible apply v_loadw_box); exact rfl; (repeat first | exact .hd | apply Sel.tl | apply In.tl); exact rfl) | ((with_reducible apply v_loadn_box); exact rfl; (repeat first | exact .hd | apply Sel.tl | apply In.tl); exact rfl; exact rfl) | ((with_reducible apply v_build); exact rfl; exact rfl; exact rfl)))
              | ((with_reducible apply wl_gyes); exact rfl; exact rfl)
              | ((with_reducible apply wl_gno_b); exact rfl; exact rfl; exact rfl; exact rfl)
              | ((with_reducible apply wl_gno_u); exact rfl; exact rfl; exact rfl)
              | ((with_reducible apply wl_alloc); exact rfl; intro _)
              | ((with_reducible apply wl_storen_box); exact rfl; exact rfl; (repeat first | exact .hd | apply Sel.tl | apply In.tl); exact rfl; exact rfl; exact rfl)
              | ((with_reducible apply wl_putn_box); exact rfl; exact rfl; (repeat first | exact .hd | apply Sel.tl | apply In.tl); exact rfl; exact rfl; exact rfl; exact rfl)
              | ((with_reducible apply wl_buildSlice); exact rfl; exact rfl; exact rfl; exact rfl; exact rfl; exact rfl; exact rfl; intro _)
              | ((with_reducible apply wl_gsplit) <;> first | exact rfl | (intro hb; (replace hb := Tidy.out hb; try (exfalso; omega))))
              | (with_reducible first | apply wl_nil | apply thn_n | apply w_seq | apply w_region | apply w_ret | apply w_skip | apply w_exit | apply w_block | apply thn_r | apply thn_e | apply blk_n | apply blk_r | apply blk_e)
              | ((with_reducible apply w_cond_true); exact rfl)
              | ((with_reducible apply w_cond_false); exact rfl)
              | ((with_reducible apply w_cond) <;> first | exact rfl | (intro hb; (replace hb := Tidy.out hb; try (exfalso; omega))))
              | ((with_reducible apply blk_x); exact rfl))
            refine ⟨i + 1, _, _, ?_, ?_, ?_, ⟨st.take (st.length - j) ++ [(⟨i, depthOf (topOf st j), decide (n.kind = 3)⟩ : Pt)], vs ++ [((topOf st j).map Pt.root, depthOf (topOf st j))], A', cap', H1, rfl, rfl, ⟨?_, ?_, ?_, ?_, ?_, ?_⟩⟩⟩
            · omega
            · have e1 : (st.take (st.length - j) ++ [(⟨i, depthOf (topOf st j), decide (n.kind = 3)⟩ : Pt)]).length = st.length - j + 1 := by simp
              rw [e1]
              (repeat (first | exact Sub.nil _ | refine Sub.cons rfl ?_))
            · have e1 : (st.take (st.length - j) ++ [(⟨i, depthOf (topOf st j), decide (n.kind = 3)⟩ : Pt)]).length = st.length - j + 1 := by simp
              rw [e1]
              exact hM1.rot
            · omega
            · simp [hvl]
            · exact hI1
            · exact hrest
            · intro p hp
              rcases List.mem_append.1 hp with hp | hp
              · exact ⟨Nat.lt_succ_of_lt (hok p (List.mem_of_mem_take hp)).1, (hok p (List.mem_of_mem_take hp)).2⟩
              · have e : p = ⟨i, depthOf (topOf st j), decide (n.kind = 3)⟩ := by simpa using hp
                subst e
                exact ⟨Nat.lt_succ_self i, by show depthOf (topOf st j) ≤ 32; omega⟩
            · simp; omega
      · have hfie : ∀ w, Pure Try.prog 85 [.agg (encN n).toArray] w (.int .i64 (fieldsE n)) := fun w => fields_at n w
        rw [if_pos hfe] at hrest
        repeat' (first
          | ((with_reducible apply wl_v); exact rfl; (with_reducible apply v_indexAddr); exact rfl; exact rfl; exact hlt)
          | ((with_reducible apply wl_v); exact rfl; (with_reducible apply v_loadw_ro); exact rfl; exact hrn; exact rfl)
          | ((with_reducible apply wl_callp); exact rfl; exact rfl; (intro w hm; exact hfie w))
          | ((with_reducible apply wl_v); exact rfl; (first | ((with_reducible apply vop_ok); exact rfl) | ((with_reducible apply v_fieldAddr); exact rfl) | ((with_reducible apply v_len); exact rfl) | ((with_reducible apply v_lens); exact rfl) | ((with_reducible apply v_load_box); exact rfl; (repeat first | exact .hd | apply Sel.tl | apply In.tl); exact rfl) | ((with_reducible apply v_eqlb); exact rfl; exact rfl) | ((with_reducible apply v_neqb); exact rfl; exact rfl) | ((with_reducible apply v_max); exact rfl; exact rfl) | ((with_reducible apply v_loadw_box); exact rfl; (repeat first | exact .hd | apply Sel.tl | apply In.tl); exact rfl) | ((with_reducible apply v_loadn_box); exact rfl; (repeat first | exact .hd | apply Sel.tl | apply In.tl); exact rfl; exact rfl) | ((with_reducible apply v_build); exact rfl; exact rfl; exact rfl)))
          | ((with_reducible apply wl_gyes); exact rfl; exact rfl)
          | ((with_reducible apply wl_gno_b); exact rfl; exact rfl; exact rfl; exact rfl)
          | ((with_reducible apply wl_gno_u); exact rfl; exact rfl; exact rfl)
          | ((with_reducible apply wl_alloc); exact rfl; intro _)
          | ((with_reducible apply wl_storen_box); exact rfl; exact rfl; (repeat first | exact .hd | apply Sel.tl | apply In.tl); exact rfl; exact rfl; exact rfl)
          | ((with_reducible apply wl_putn_box); exact rfl; exact rfl; (repeat first | exact .hd | apply Sel.tl | apply In.tl); exact rfl; exact rfl; exact rfl; exact rfl)
          | ((with_reducible apply wl_buildSlice); exact rfl; exact rfl; exact rfl; exact rfl; exact rfl; exact rfl; exact rfl; intro _)
          | ((with_reducible apply wl_gsplit) <;> first | exact rfl | (intro hb; (replace hb := Tidy.out hb; try (exfalso; omega))))
          | (with_reducible first | apply wl_nil | apply thn_n | apply w_seq | apply w_region | apply w_ret | apply w_skip | apply w_exit | apply w_block | apply thn_r | apply thn_e | apply blk_n | apply blk_r | apply blk_e)
          | ((with_reducible apply w_cond_true); exact rfl)
          | ((with_reducible apply w_cond_false); exact rfl)
          | ((with_reducible apply w_cond) <;> first | exact rfl | (intro hb; (replace hb := Tidy.out hb; try (exfalso; omega))))
          | ((with_reducible apply blk_x); exact rfl))
        refine ret1 (.inl rfl) Try.results76 rfl (.drop .hd (.drop .hd (.refl _))) ?_
        rw [hrest]
        exact ⟨rfl, hinv⟩
    · have e : i = L.length := by omega
      subst e
      rw [List.drop_length, walkT] at hrest
      repeat' (first
        | ((with_reducible apply wl_v); exact rfl; (first | ((with_reducible apply vop_ok); exact rfl) | ((with_reducible apply v_fieldAddr); exact rfl) | ((with_reducible apply v_len); exact rfl) | ((with_reducible apply v_lens); exact rfl) | ((with_reducible apply v_load_box); exact rfl; (repeat first | exact .hd | apply Sel.tl | apply In.tl); exact rfl) | ((with_reducible apply v_eqlb); exact rfl; exact rfl) | ((with_reducible apply v_neqb); exact rfl; exact rfl) | ((with_reducible apply v_max); exact rfl; exact rfl) | ((with_reducible apply v_loadw_box); exact rfl; (repeat first | exact .hd | apply Sel.tl | apply In.tl); exact rfl) | ((with_reducible apply v_loadn_box); exact rfl; (repeat first | exact .hd | apply Sel.tl | apply In.tl); exact rfl; exact rfl) | ((with_reducible apply v_build); exact rfl; exact rfl; exact rfl)))
        | ((with_reducible apply wl_gyes); exact rfl; exact rfl)
        | ((with_reducible apply wl_gno_b); exact rfl; exact rfl; exact rfl; exact rfl)
        | ((with_reducible apply wl_gno_u); exact rfl; exact rfl; exact rfl)
        | ((with_reducible apply wl_alloc); exact rfl; intro _)
        | ((with_reducible apply wl_storen_box); exact rfl; exact rfl; (repeat first | exact .hd | apply Sel.tl | apply In.tl); exact rfl; exact rfl; exact rfl)
        | ((with_reducible apply wl_putn_box); exact rfl; exact rfl; (repeat first | exact .hd | apply Sel.tl | apply In.tl); exact rfl; exact rfl; exact rfl; exact rfl)
        | ((with_reducible apply wl_buildSlice); exact rfl; exact rfl; exact rfl; exact rfl; exact rfl; exact rfl; exact rfl; intro _)
        | ((with_reducible apply wl_gsplit) <;> first | exact rfl | (intro hb; (replace hb := Tidy.out hb; try (exfalso; omega))))
        | (with_reducible first | apply wl_nil | apply thn_n | apply w_seq | apply w_region | apply w_ret | apply w_skip | apply w_exit | apply w_block | apply thn_r | apply thn_e | apply blk_n | apply blk_r | apply blk_e)
        | ((with_reducible apply w_cond_true); exact rfl)
        | ((with_reducible apply w_cond_false); exact rfl)
        | ((with_reducible apply w_cond) <;> first | exact rfl | (intro hb; (replace hb := Tidy.out hb; try (exfalso; omega))))
        | ((with_reducible apply blk_x); exact rfl))
      · refine ret1 (.inl rfl) Try.results76 rfl (.drop .hd (.refl _)) ?_
        rw [hrest, if_neg (by omega)]
        exact ⟨rfl, hinv⟩
      · refine ret1 (.inl rfl) Try.results76 rfl (.drop .hd (.refl _)) ?_
        rw [hrest, if_pos (by omega)]
        exact ⟨rfl, hinv⟩
end Go.SL

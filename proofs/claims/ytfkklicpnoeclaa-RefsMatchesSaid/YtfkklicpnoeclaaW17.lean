/-
  The document's 'fits' and 'node'.
-/
import Derived.Test.YtfkklicpnoeclaaW16
import Derived.Test.YtfkklicpnoeclaaW13
import Derived.Test.YtfkklicpnoeclaaSl11
namespace Go.SL
open Go Go.Proofs
attribute [local irreducible] W WL WQ WG WA VOp thn blk retP FnAt FnIn

def refFitsE (n : Nd) (i : Int) (m : Nd) : Bool :=
  if n.kind ≠ 7 then decide (m.kind ≠ 3) else if 46 ≤ n.fn then decide (m.kind = 3) || decide (m.kind = 2) else decide (m.kind ≠ 3) || refWideE n.fn i

set_option maxRecDepth 10000 in
theorem refFits_at (n : Nd) (i : Int) (m : Nd) (w : World) : Pure Try.prog 88 [.agg (encN n).toArray, .int .i64 i, .agg (encN m).toArray] w (.bool (refFitsE n i m)) := by
  refine fn_at Try.func88 rfl Try.ntmps88 rfl ?_
  repeat' (first
    | ((with_reducible apply wl_callp); exact rfl; exact rfl; (intro w hm; exact refWide_at n.fn i w))
    | ((with_reducible apply wl_v); exact rfl; (first | ((with_reducible apply vop_ok); exact rfl) | ((with_reducible apply v_fieldAddr); exact rfl) | ((with_reducible apply v_load_box); exact rfl; (repeat first | exact .hd | apply Sel.tl | apply In.tl); exact rfl) | ((with_reducible apply v_eqlb); exact rfl; exact rfl) | ((with_reducible apply v_neqb); exact rfl; exact rfl) | ((with_reducible apply v_loadw_box); exact rfl; (repeat first | exact .hd | apply Sel.tl | apply In.tl); exact rfl) | ((with_reducible apply v_loadn_box); exact rfl; (repeat first | exact .hd | apply Sel.tl | apply In.tl); exact rfl; exact rfl)))
    | ((with_reducible apply wl_gyes); exact rfl; exact rfl)
    | ((with_reducible apply wl_gno_b); exact rfl; exact rfl; exact rfl; exact rfl)
    | ((with_reducible apply wl_gno_u); exact rfl; exact rfl; exact rfl)
    | ((with_reducible apply wl_boxs); exact rfl; exact rfl; intro _)
    | ((with_reducible apply wl_box1); exact rfl; exact rfl; exact rfl; intro _)
    | ((with_reducible apply wl_gsplit) <;> first | exact rfl | (intro hb; (replace hb := Tidy.out hb; try (exfalso; omega))))
    | (with_reducible first | apply wl_nil | apply thn_n | apply w_seq | apply w_region | apply w_ret | apply w_skip | apply w_exit | apply w_block | apply thn_r | apply thn_e | apply blk_n | apply blk_r | apply blk_e | apply cut_r | apply cut_e)
    | ((with_reducible apply w_cond_true); exact rfl)
    | ((with_reducible apply w_cond_false); exact rfl)
    | ((with_reducible apply w_cond) <;> first | exact rfl | (intro hb; (replace hb := Tidy.out hb; try (exfalso; omega))))
    | ((with_reducible apply blk_x); exact rfl)
    | ((with_reducible apply cut_n (i := ())) <;> first | exact trivial | ((repeat (first | exact Sub.nil _ | refine Sub.cons rfl ?_)); done) | ((repeat (first | exact MSub.nil _ | refine MSub.pick (by (repeat first | exact .hd | apply Sel.tl | apply In.tl)) ?_ | exact MSub.refl _ | refine MSub.drop .hd ?_)); done)))
  all_goals (((with_reducible apply ret1); exact .inl rfl; exact rfl; exact rfl; exact MSub.nil _); ((try simp only [← Int.not_lt] at *); simp_all [refFitsE, -Int.not_lt, -Int.not_le, ← Int.not_lt]))

theorem fieldsE_ok {n : Nd} (h : fieldsE n = 0) : refFields n = true ∧ (n.kind = 7 → knownF n.fn = true ∧ (refArityE n.fn).1 ≤ n.n ∧ n.n ≤ (refArityE n.fn).2) := by
  unfold fieldsE at h
  split at h
  · cases h
  · rename_i h1
    have hf : refFields n = true := by
      unfold refFields
      cases ha : kindOk n <;> cases hb : eqN n (want n) <;> simp_all
    refine ⟨hf, fun h7 => ?_⟩
    rw [if_neg (by simp [h7])] at h
    cases hk : knownF n.fn
    · rw [arity_unknown hk] at h
      simp at h
    · rw [arity_known hk] at h
      refine ⟨rfl, ?_⟩
      dsimp only at h
      rw [if_neg (by simp)] at h
      split at h
      · cases h
      · omega

theorem released_known {fn : Int} (h : knownF fn = true) : releasedF fn = decide (46 ≤ fn) := by
  simp only [knownF, Bool.and_eq_true, decide_eq_true_eq] at h
  unfold releasedF
  rw [decide_eq_true (by omega : fn ≤ 50), Bool.and_true]

theorem wide_released {fn i : Int} (h : 46 ≤ fn) (hk : knownF fn = true) (h0 : 0 ≤ i) (h1 : i < (refArityE fn).2) : refWideE fn i = true := by
  simp only [knownF, Bool.and_eq_true, decide_eq_true_eq] at hk
  unfold refWideE
  rw [if_neg (by omega), if_neg (by omega), if_neg (by omega), if_neg (by omega), decide_eq_true h, decide_eq_true hk.2]
  rfl

theorem fitOne_ref {L : List Nd} {n : Nd} {p : Pt} (h : fieldsE n = 0) (hr : p.root < L.length) (hp : p.wide = decide (L[p.root].kind = 3)) {i : Int} (h0 : 0 ≤ i) (h1 : i < below n) : fitOne L n i p = refFitsE n i L[p.root] := by
  obtain ⟨_, h7⟩ := fieldsE_ok h
  unfold fitOne refFitsE mayAt
  rw [kindAt_get hr, hp]
  generalize L[p.root].kind = k
  by_cases hk7 : n.kind = 7
  · obtain ⟨hk, ha, hb⟩ := h7 hk7
    have hb7 : below n = n.n := by simp [below, hk7]
    rw [if_pos hk7, if_neg (by simp [hk7]), released_known hk, wide_known hk]
    by_cases h46 : 46 ≤ n.fn
    · rw [if_pos h46, wide_released h46 hk h0 (by omega)]
      by_cases e3 : k = 3
      · simp [e3, hk7, h46]
      · by_cases e2 : k = 2 <;> simp [e3, e2, hk7, h46]
    · rw [if_neg h46]
      by_cases e3 : k = 3 <;> simp [e3, h46]
  · rw [if_neg hk7, if_pos hk7]
    by_cases e3 : k = 3 <;> simp [e3, hk7]

theorem refName_known {fn : Int} (hk : knownF fn = true) : refNameE fn ≠ emptyB := by
  simp only [knownF, Bool.and_eq_true, decide_eq_true_eq] at hk
  obtain ⟨j, hj⟩ := Int.eq_ofNat_of_zero_le (by omega : 0 ≤ fn - 1)
  have e2 : refNameE fn = namesL.getD j emptyB := by
    rw [refNameE, if_neg (by omega), show fn.toNat = j + 1 by omega]
    rfl
  rw [e2]
  exact (names_ok j (by omega)).1
theorem refName_unknown {fn : Int} (hk : knownF fn = false) (h0 : 0 ≤ fn) : refNameE fn = emptyB := by
  simp only [knownF, Bool.and_eq_false_iff, decide_eq_false_iff_not] at hk
  rw [refNameE]
  split
  · rfl
  · rw [show fn.toNat = 0 by omega]
    rfl

theorem fieldsE_bad {n : Nd} (h : fieldsE n ≠ 0) : (refFields n = false ∧ fieldsE n = 2) ∨ (refFields n = true ∧ n.kind = 7 ∧ knownF n.fn = false ∧ fieldsE n = 10) ∨
    (refFields n = true ∧ n.kind = 7 ∧ knownF n.fn = true ∧ (n.n < (refArityE n.fn).1 ∨ (refArityE n.fn).2 < n.n) ∧ fieldsE n = 11) := by
  unfold fieldsE at h ⊢
  by_cases h1 : kindOk n = false ∨ eqN n (want n) = false
  · left
    refine ⟨?_, if_pos h1⟩
    unfold refFields
    rcases h1 with h1 | h1 <;> simp [h1]
  · right
    rw [if_neg h1] at h ⊢
    have hf : refFields n = true := by
      unfold refFields
      cases ha : kindOk n <;> cases hb : eqN n (want n) <;> simp_all
    by_cases h7 : n.kind = 7
    · rw [if_neg (by simp [h7])] at h ⊢
      cases hk : knownF n.fn
      · left
        rw [arity_unknown hk] at h ⊢
        exact ⟨hf, h7, rfl, by simp⟩
      · right
        rw [arity_known hk] at h ⊢
        dsimp only at h ⊢
        rw [if_neg (by simp)] at h ⊢
        by_cases hc : n.n < (refArityE n.fn).1 ∨ (refArityE n.fn).2 < n.n
        · exact ⟨hf, h7, rfl, hc, if_pos hc⟩
        · rw [if_neg hc] at h
          exact absurd rfl h
    · rw [if_pos (by simpa using h7)] at h
      exact absurd rfl h

def encT (p : Pt) : List Value := [.int .i64 (p.root : Int), .int .i64 (p.depth : Int)]
theorem encT_len (p : Pt) : (encT p).length = 2 := rfl
def wfN (n : Nd) : Prop := -9223372036854775808 ≤ n.v.num ∧ 0 ≤ n.fn ∧ n.fn ≤ 255

/-- What 'node' of the document returns. -/
def nodeR (L : List Nd) (n : Nd) (i : Nat) (st : List Pt) : List Pt × Int :=
  match stepT L n i st with
  | .inl e => ([], e)
  | .inr r => (r.1, 0)

theorem v_1addN {P : Program} {w0 : World} {s : Slots} {H : List Blk} {ty : TypeId} {x y : Operand} {b : Nat} {t t' : TypeId} (hx : ev s x = some (.int .i64 1)) (hy : ev s y = some (.int .i64 (b : Nat))) (hb : b + 1 ≤ maxLen) : VOp P w0 s H (.binOp .add t x y t') ty (.int .i64 ((b + 1 : Nat) : Int)) := by
  have h := v_addN (P := P) (w0 := w0) (H := H) (ty := ty) (t := t) (t' := t') (a := 1) hx hy (by omega)
  rwa [Nat.add_comm 1 b] at h

theorem encTs_one (L : List Pt) : ∀ u ∈ L.flatMap encT, u.oneCell' = true := by
  intro u hu
  obtain ⟨n, _, h⟩ := List.mem_flatMap.1 hu
  simp only [encT, List.mem_cons, List.not_mem_nil, or_false] at h
  rcases h with rfl | rfl <;> rfl

structure TopsOk (L : List Nd) (i : Nat) (st : List Pt) : Prop where
  ok : ∀ p ∈ st, p.root < i ∧ p.depth ≤ 32 ∧ p.wide = decide (kindAt L p.root = 3)
  small : st.length ≤ i

set_option maxRecDepth 20000 in
set_option maxHeartbeats 2000000 in
theorem refNode_at (L : List Nd) (i : Nat) (hi : i < L.length) (hlen : L.length ≤ 256) (hwf : wfN L[i]) (st : List Pt) (hst : TopsOk L i st) (tv lv : Value) (w : World) (ht : Reads w tv L.length (L.flatMap encN)) (hp : Reads w lv st.length (st.flatMap encT)) :
    FnAt Try.prog 77 [tv, .int .i64 (i : Int), lv] w fun v H => ∃ A cap, v = .tuple #[sl A (nodeR L L[i] i st).1.length cap, .int .i64 (nodeR L L[i] i st).2] ∧ H = [.own A 88 2 (nodeR L L[i] i st).1.length cap ((nodeR L L[i] i st).1.flatMap encT)] := by
  have hp' := hp
  obtain ⟨At, ct, rfl, ht1, ht2, ht3⟩ := ht
  obtain ⟨Al, cl, rfl, hl1, hl2, hl3⟩ := hp
  obtain ⟨gt, ot, rfl, hrt⟩ := ht3 (by omega)
  have hrn := hrt.elem encN_len i hi
  obtain ⟨hok, hsmall⟩ := hst
  refine fn_at Try.func77 rfl Try.ntmps77 rfl ?_
  refine w_nilrow 88 2 ?_
  generalize hn : L[i] = n at hrn hwf
  generalize hR : nodeR L n i st = R
  unfold nodeR stepT at hR
  by_cases hfe : fieldsE n = 0
  · obtain ⟨hb0, hb16⟩ := fields_ok hfe
    obtain ⟨k, hk⟩ := Int.eq_ofNat_of_zero_le hb0
    obtain ⟨hf1, hf7⟩ := fieldsE_ok hfe
    have c1 := fun w => hf1 ▸ refFields_at n hwf.1 w
    have c2 := fun w => refName_at n.fn hwf.2.1 hwf.2.2 w
    have c3 := fun w => refArity_at n.fn w
    have hne := fun h7 => refName_known (hf7 h7).1
    have har := fun h7 => (hf7 h7).2
    have c4 : ∀ w, Pure Try.prog 78 [.agg (encN n).toArray] w (.int .i64 (k : Int)) := fun w => hk ▸ refBelow_at n w
    rw [if_neg (by simp [hfe]), hk, Int.toNat_natCast] at hR
    generalize refArityE n.fn = ar at har c3
    repeat' (first
      | ((with_reducible apply wl_callp); exact rfl; exact rfl; (intro w hm; exact c1 w))
      | ((with_reducible apply wl_callp); exact rfl; exact rfl; (intro w hm; exact c2 w))
      | ((with_reducible apply wl_callp); exact rfl; exact rfl; (intro w hm; exact c3 w))
      | ((with_reducible apply wl_callp); exact rfl; exact rfl; (intro w hm; exact c4 w))
      | ((with_reducible apply wl_v); exact rfl; (with_reducible apply v_eqls_f); exact rfl; exact rfl; exact hne (by assumption))
      | ((with_reducible apply w_keep (c := .tmp 24) [0, 1, 2, 8]); exact rfl)
      | ((with_reducible apply wl_v); exact rfl; (with_reducible apply v_subN); exact rfl; exact rfl; omega; (simp only [maxLen]; omega))
      | ((with_reducible apply wl_v); exact rfl; (first | ((with_reducible apply vop_ok); exact rfl) | ((with_reducible apply v_fieldAddr); exact rfl) | ((with_reducible apply v_len); exact rfl) | ((with_reducible apply v_lens); exact rfl) | ((with_reducible apply v_load_box); exact rfl; (repeat first | exact .hd | apply Sel.tl | apply In.tl); exact rfl) | ((with_reducible apply v_eqlb); exact rfl; exact rfl) | ((with_reducible apply v_neqb); exact rfl; exact rfl) | ((with_reducible apply v_max); exact rfl; exact rfl) | ((with_reducible apply v_loadw_box); exact rfl; (repeat first | exact .hd | apply Sel.tl | apply In.tl); exact rfl) | ((with_reducible apply v_loadn_box); exact rfl; (repeat first | exact .hd | apply Sel.tl | apply In.tl); exact rfl; exact rfl) | ((with_reducible apply v_build); exact rfl; exact rfl; exact rfl)))
      | ((with_reducible apply wl_gyes); exact rfl; exact rfl)
      | ((with_reducible apply wl_gno_b); exact rfl; exact rfl; exact rfl; exact rfl)
      | ((with_reducible apply wl_gno_u); exact rfl; exact rfl; exact rfl)
      | ((with_reducible apply wl_alloc); exact rfl; intro _)
      | ((with_reducible apply wl_storen_box); exact rfl; exact rfl; (repeat first | exact .hd | apply Sel.tl | apply In.tl); exact rfl; exact rfl; exact rfl)
      | ((with_reducible apply wl_putn_box); exact rfl; exact rfl; (repeat first | exact .hd | apply Sel.tl | apply In.tl); exact rfl; exact rfl; exact rfl; exact rfl)
      | ((with_reducible apply wl_buildSlice); exact rfl; exact rfl; exact rfl; exact rfl; exact rfl; exact rfl; exact rfl; intro _)
      | ((with_reducible apply wl_gsplit) <;> first | exact rfl | (intro hb; (replace hb := Tidy.out hb; try (exfalso; omega))))
      | (with_reducible first | apply wl_nil | apply thn_n | apply w_seq | apply w_region | apply w_ret | apply w_skip | apply w_exit | apply w_block | apply thn_r | apply thn_e | apply blk_n | apply blk_r | apply blk_e | apply cut_r | apply cut_e)
      | ((with_reducible apply w_cond_true); exact rfl)
      | ((with_reducible apply w_cond_false); exact rfl)
      | ((with_reducible apply w_cond) <;> first | exact rfl | (intro hb; (replace hb := Tidy.out hb; try (exfalso; omega))))
      | ((with_reducible apply blk_x); exact rfl)
      | ((with_reducible apply cut_n (i := ())) <;> first | exact trivial | ((repeat (first | exact Sub.nil _ | refine Sub.cons rfl ?_)); done) | ((repeat (first | exact MSub.nil _ | refine MSub.pick (by (repeat first | exact .hd | apply Sel.tl | apply In.tl)) ?_ | exact MSub.refl _ | refine MSub.drop .hd ?_)); done))
      | ((with_reducible apply wl_v); exact rfl; (with_reducible apply v_indexAddr); exact rfl; exact rfl; (first | assumption | omega))
      | ((with_reducible apply wl_v); exact rfl; (with_reducible apply v_loadw_ro); exact rfl; assumption; exact rfl)
      | ((with_reducible apply wl_v); exact rfl; (with_reducible apply v_load1_ro); exact rfl; assumption)
      | ((with_reducible apply wl_v); exact rfl; (with_reducible apply v_loadf_ro); exact rfl; assumption; exact rfl))
    · rw [if_pos (Or.inl (by omega))] at hR
      subst hR
      exact ret2 (.inl rfl) Try.results77 rfl rfl (H' := [.own none 88 2 0 0 []]) (by (repeat (first | exact MSub.nil _ | refine MSub.pick (by (repeat first | exact .hd | apply Sel.tl | apply In.tl)) ?_ | exact MSub.refl _ | refine MSub.drop .hd ?_))) ⟨none, 0, rfl, rfl⟩
    · rename_i g
      have htl := topOf_length st k (by omega)
      have hlt : ¬ ((st.length : Int) < (k : Int)) := by omega
      refine w_loopK [0, 1, 2, 8, 11, 12] rfl (fun j : Nat => [(13, .int .i64 (depthOf ((topOf st k).take j) : Int)), (14, .int .i64 (j : Int))]) (fun _ => [.box g 40 (encN n), .own none 88 2 0 0 []]) (fun j => j ≤ k ∧ fitsFrom L n 0 (topOf st k) = fitsFrom L n (j : Int) ((topOf st k).drop j)) (fun j => k - j) 0 ⟨by omega, rfl⟩ (by (repeat (first | exact Sub.nil _ | refine Sub.cons rfl ?_))) (by (repeat (first | exact MSub.nil _ | refine MSub.pick (by (repeat first | exact .hd | apply Sel.tl | apply In.tl)) ?_ | exact MSub.refl _ | refine MSub.drop .hd ?_))) ?_
      rintro j ⟨hj, hfit⟩
      by_cases hjk : j < k
      · obtain ⟨gl, ol, rfl, hrl⟩ := hl3 (by omega)
        have hjt : j < (topOf st k).length := by omega
        have hpe : (topOf st k)[j] = st[st.length - k + j]'(by omega) := by simp [topOf]
        have hrp := hrl.elem encT_len (st.length - k + j) (by omega)
        have hds := depthOf_succ (topOf st k) j hjt
        rw [List.drop_eq_getElem_cons hjt, fitsFrom] at hfit
        rw [← hpe] at hrp
        have hpm := topOf_mem (List.getElem_mem hjt)
        generalize (topOf st k)[j] = p at hpm hrp hds hfit
        obtain ⟨hp1, hp2, hp3⟩ := hok p hpm
        have hrr := hrt.elem encN_len p.root (by omega)
        have hf := fitOne_ref hfe (L := L) (p := p) (by omega) (by rw [hp3, kindAt_get]) (i := (j : Int)) (by omega) (by omega)
        have hcall := fun w => refFits_at n (j : Int) (L[p.root]'(by omega)) w
        rw [← hf] at hcall
        generalize L[p.root]'(by omega) = m at hrr hcall
        generalize hfo : fitOne L n (j : Int) p = fo at hcall hfit
        have hd33 := depthOf_bound ((topOf st k).take j) fun q hq => (hok q (topOf_mem (List.mem_of_mem_take hq))).2.1
        repeat' (first
          | ((with_reducible apply wq_callp); exact rfl; exact rfl; (intro w hm; exact hcall w))
          | ((with_reducible apply wl_v); exact rfl; (with_reducible apply v_addN); exact rfl; exact rfl; (simp only [maxLen]; omega))
          | ((with_reducible apply wq_v); exact rfl; (with_reducible apply v_addN); exact rfl; exact rfl; (simp only [maxLen]; omega))
          | ((with_reducible apply wl_v); exact rfl; (with_reducible apply v_1addN); exact rfl; exact rfl; (simp only [maxLen]; omega))
          | ((with_reducible apply wl_v); exact rfl; (with_reducible apply v_succN); exact rfl; exact rfl; (simp only [maxLen]; omega))
          | ((with_reducible apply wl_v); exact rfl; (with_reducible apply v_maxN); exact rfl; exact rfl)
          | ((with_reducible first | apply wl_v | apply wq_v); exact rfl; (first | ((with_reducible apply vop_ok); exact rfl) | ((with_reducible apply v_fieldAddr); exact rfl) | ((with_reducible apply v_len); exact rfl) | ((with_reducible apply v_lens); exact rfl) | ((with_reducible apply v_load_box); exact rfl; (repeat first | exact .hd | apply Sel.tl | apply In.tl); exact rfl) | ((with_reducible apply v_eqlb); exact rfl; exact rfl) | ((with_reducible apply v_neqb); exact rfl; exact rfl) | ((with_reducible apply v_max); exact rfl; exact rfl) | ((with_reducible apply v_loadw_box); exact rfl; (repeat first | exact .hd | apply Sel.tl | apply In.tl); exact rfl) | ((with_reducible apply v_loadn_box); exact rfl; (repeat first | exact .hd | apply Sel.tl | apply In.tl); exact rfl; exact rfl) | ((with_reducible apply v_build); exact rfl; exact rfl; exact rfl)))
          | ((with_reducible first | apply wl_gyes | apply wq_gyes); exact rfl; exact rfl)
          | ((with_reducible first | apply wl_gno_b | apply wq_gno_b); exact rfl; exact rfl; exact rfl; exact rfl)
          | ((with_reducible first | apply wl_gno_u | apply wq_gno_u); exact rfl; exact rfl; exact rfl)
          | ((with_reducible apply wl_alloc); exact rfl; intro _)
          | ((with_reducible apply wl_storen_box); exact rfl; exact rfl; (repeat first | exact .hd | apply Sel.tl | apply In.tl); exact rfl; exact rfl; exact rfl)
          | ((with_reducible apply wl_putn_box); exact rfl; exact rfl; (repeat first | exact .hd | apply Sel.tl | apply In.tl); exact rfl; exact rfl; exact rfl; exact rfl)
          | ((with_reducible apply wl_buildSlice); exact rfl; exact rfl; exact rfl; exact rfl; exact rfl; exact rfl; exact rfl; intro _)
          | ((with_reducible first | apply wl_gsplit | apply wq_gsplit) <;> first | exact rfl | (intro hb; (replace hb := Tidy.out hb; try (exfalso; omega))))
          | (with_reducible first | apply wl_nil | apply thn_n | apply w_seq | apply w_region | apply w_ret | apply w_skip | apply w_exit | apply w_block | apply thn_r | apply thn_e | apply blk_n | apply blk_r | apply blk_e | apply wq_nil | apply cut_r | apply cut_e)
          | ((with_reducible apply w_cond_true); exact rfl)
          | ((with_reducible apply w_cond_false); exact rfl)
          | ((with_reducible apply w_cond) <;> first | exact rfl | (intro hb; (replace hb := Tidy.out hb; try (exfalso; omega))))
          | ((with_reducible apply blk_x); exact rfl)
          | ((with_reducible apply cut_n (i := ())) <;> first | exact trivial | ((repeat (first | exact Sub.nil _ | refine Sub.cons rfl ?_)); done) | ((repeat (first | exact MSub.nil _ | refine MSub.pick (by (repeat first | exact .hd | apply Sel.tl | apply In.tl)) ?_ | exact MSub.refl _ | refine MSub.drop .hd ?_)); done))
          | ((with_reducible first | apply wl_v | apply wq_v); exact rfl; (with_reducible apply v_indexAddr); exact rfl; exact rfl; (first | assumption | omega))
          | ((with_reducible first | apply wl_v | apply wq_v); exact rfl; (with_reducible apply v_loadw_ro); exact rfl; assumption; exact rfl)
          | ((with_reducible first | apply wl_v | apply wq_v); exact rfl; (with_reducible apply v_load1_ro); exact rfl; assumption)
          | ((with_reducible first | apply wl_v | apply wq_v); exact rfl; (with_reducible apply v_loadf_ro); exact rfl; assumption; exact rfl)
          | ((with_reducible apply w_draw); kernel_rfl; kernel_rfl))
        · rw [if_pos (Or.inr (by rw [hfit]; simp_all))] at hR
          subst hR
          exact ret2 (.inl rfl) Try.results77 rfl rfl (H' := [.own none 88 2 0 0 []]) (by (repeat (first | exact MSub.nil _ | refine MSub.pick (by (repeat first | exact .hd | apply Sel.tl | apply In.tl)) ?_ | exact MSub.refl _ | refine MSub.drop .hd ?_))) ⟨none, 0, rfl, rfl⟩
        · rw [Nat.add_comm 1, ← hds]
          refine ⟨j + 1, ?_, (by first | omega | (dsimp only; omega)), (by (repeat (first | exact Sub.nil _ | refine Sub.cons rfl ?_))), (by (repeat (first | exact Sub.nil _ | refine Sub.cons rfl ?_))), (by (repeat (first | exact MSub.nil _ | refine MSub.pick (by (repeat first | exact .hd | apply Sel.tl | apply In.tl)) ?_ | exact MSub.refl _ | refine MSub.drop .hd ?_)))⟩
          refine ⟨by omega, ?_⟩
          rw [hfit, hb, Bool.true_and]
          rfl
      · have e : j = k := by omega
        subst e
        have htk : (topOf st j).take j = topOf st j := List.take_of_length_le (by omega)
        rw [htk]
        have hd33 := depthOf_bound (topOf st j) fun q hq => (hok q (topOf_mem hq)).2.1
        rw [List.drop_of_length_le (by omega), fitsFrom] at hfit
        rw [if_neg (by rw [hfit]; simp; omega)] at hR
        have hcut := hp'.cut (lo := 0) (hi := st.length - j) (sz := 2) (by omega) (by omega)
        have hcl : (((st.flatMap encT).drop (0 * 2)).take ((st.length - j - 0) * 2)) = (st.take (st.length - j)).flatMap encT := by
          rw [Nat.zero_mul, List.drop_zero, Nat.sub_zero, flat_take encT_len]
        rw [hcl] at hcut
        have hll : ((st.take (st.length - j)).flatMap encT).length = (st.length - j - 0) * 2 := by rw [flat_length' encT_len, List.length_take]; omega
        repeat' (first
          | ((with_reducible apply wl_buildSlice0); exact rfl; intro gb)
          | ((with_reducible apply wl_v); exact rfl; (with_reducible apply v_slice (lo := 0) (hi := st.length - j)); exact rfl; exact rfl; exact ⟨_, rfl⟩; omega; omega)
          | ((with_reducible apply wl_appendR (n' := 0) (c := 0) (A := some _) (m := st.length - j - 0)); exact rfl; exact rfl; exact rfl; (repeat first | exact .hd | apply Sel.tl | apply In.tl); (intro w hm; exact hcut.of_w0 hm); exact hll; exact encTs_one _; omega; (simp only [maxLen]; omega); intro A' cap' hA)
          | ((with_reducible apply wl_append); exact rfl; exact rfl; exact rfl; (repeat first | exact .hd | apply Sel.tl | apply In.tl); (intro w hm; exact hm.cells_own (by (repeat first | exact .hd | apply Sel.tl | apply In.tl))); exact rfl; (simp [Value.oneCell', sl]); omega; (simp only [maxLen]; omega); (intro A' cap' hA'))
          | ((with_reducible apply wl_v); exact rfl; (first | ((with_reducible apply vop_ok); exact rfl) | ((with_reducible apply v_fieldAddr); exact rfl) | ((with_reducible apply v_len); exact rfl) | ((with_reducible apply v_lens); exact rfl) | ((with_reducible apply v_load_box); exact rfl; (repeat first | exact .hd | apply Sel.tl | apply In.tl); exact rfl) | ((with_reducible apply v_eqlb); exact rfl; exact rfl) | ((with_reducible apply v_neqb); exact rfl; exact rfl) | ((with_reducible apply v_max); exact rfl; exact rfl) | ((with_reducible apply v_loadw_box); exact rfl; (repeat first | exact .hd | apply Sel.tl | apply In.tl); exact rfl) | ((with_reducible apply v_loadn_box); exact rfl; (repeat first | exact .hd | apply Sel.tl | apply In.tl); exact rfl; exact rfl) | ((with_reducible apply v_build); exact rfl; exact rfl; exact rfl)))
          | ((with_reducible apply wl_gyes); exact rfl; exact rfl)
          | ((with_reducible apply wl_gno_b); exact rfl; exact rfl; exact rfl; exact rfl)
          | ((with_reducible apply wl_gno_u); exact rfl; exact rfl; exact rfl)
          | ((with_reducible apply wl_alloc); exact rfl; intro _)
          | ((with_reducible apply wl_storen_box); exact rfl; exact rfl; (repeat first | exact .hd | apply Sel.tl | apply In.tl); exact rfl; exact rfl; exact rfl)
          | ((with_reducible apply wl_putn_box); exact rfl; exact rfl; (repeat first | exact .hd | apply Sel.tl | apply In.tl); exact rfl; exact rfl; exact rfl; exact rfl)
          | ((with_reducible apply wl_buildSlice); exact rfl; exact rfl; exact rfl; exact rfl; exact rfl; exact rfl; exact rfl; intro _)
          | ((with_reducible apply wl_gsplit) <;> first | exact rfl | (intro hb; (replace hb := Tidy.out hb; try (exfalso; omega))))
          | (with_reducible first | apply wl_nil | apply thn_n | apply w_seq | apply w_region | apply w_ret | apply w_skip | apply w_exit | apply w_block | apply thn_r | apply thn_e | apply blk_n | apply blk_r | apply blk_e | apply cut_r | apply cut_e)
          | ((with_reducible apply w_cond_true); exact rfl)
          | ((with_reducible apply w_cond_false); exact rfl)
          | ((with_reducible apply w_cond) <;> first | exact rfl | (intro hb; (replace hb := Tidy.out hb; try (exfalso; omega))))
          | ((with_reducible apply blk_x); exact rfl)
          | ((with_reducible apply cut_n (i := ())) <;> first | exact trivial | ((repeat (first | exact Sub.nil _ | refine Sub.cons rfl ?_)); done) | ((repeat (first | exact MSub.nil _ | refine MSub.pick (by (repeat first | exact .hd | apply Sel.tl | apply In.tl)) ?_ | exact MSub.refl _ | refine MSub.drop .hd ?_)); done)))
        · rw [if_pos (by omega)] at hR
          subst hR
          exact ret2 (.inl rfl) Try.results77 rfl rfl (H' := [.own none 88 2 0 0 []]) (by (repeat (first | exact MSub.nil _ | refine MSub.pick (by (repeat first | exact .hd | apply Sel.tl | apply In.tl)) ?_ | exact MSub.refl _ | refine MSub.drop .hd ?_))) ⟨none, 0, rfl, rfl⟩
        · rw [if_neg (by omega)] at hR
          subst hR
          have e1 : (st.take (st.length - j) ++ [(⟨i, depthOf (topOf st j), decide (n.kind = 3)⟩ : Pt)]).length = 0 + (st.length - j - 0) + 1 := by simp
          have e2 : (st.take (st.length - j) ++ [(⟨i, depthOf (topOf st j), decide (n.kind = 3)⟩ : Pt)]).flatMap encT = [] ++ (st.take (st.length - j)).flatMap encT ++ [.int .i64 (i : Int), .int .i64 (depthOf (topOf st j) : Int)] := by
            rw [List.flatMap_append]; rfl
          refine ret2 (.inl rfl) Try.results77 rfl rfl (H' := [.own A' 88 2 (0 + (st.length - j - 0) + 1) cap' ([] ++ (st.take (st.length - j)).flatMap encT ++ [.int .i64 (i : Int), .int .i64 (depthOf (topOf st j) : Int)])]) (by (repeat (first | exact MSub.nil _ | refine MSub.pick (by (repeat first | exact .hd | apply Sel.tl | apply In.tl)) ?_ | exact MSub.refl _ | refine MSub.drop .hd ?_))) ⟨A', cap', ?_⟩
          dsimp only
          rw [e1, e2]
          exact ⟨rfl, rfl⟩
  · rw [if_pos hfe] at hR
    rcases fieldsE_bad hfe with ⟨h1, h2⟩ | ⟨h1, h7, h2, h3⟩ | ⟨h1, h7, h2, h3, h4⟩
    · have c1 := fun w => h1 ▸ refFields_at n hwf.1 w
      rw [h2] at hR
      subst hR
      repeat' (first
        | ((with_reducible apply wl_v); exact rfl; (with_reducible apply v_indexAddr); exact rfl; exact rfl; exact hi)
        | ((with_reducible apply wl_v); exact rfl; (with_reducible apply v_loadw_ro); exact rfl; exact hrn; exact rfl)
        | ((with_reducible apply wl_callp); exact rfl; exact rfl; (intro w hm; exact c1 w))
        | ((with_reducible apply wl_v); exact rfl; (first | ((with_reducible apply vop_ok); exact rfl) | ((with_reducible apply v_fieldAddr); exact rfl) | ((with_reducible apply v_len); exact rfl) | ((with_reducible apply v_lens); exact rfl) | ((with_reducible apply v_load_box); exact rfl; (repeat first | exact .hd | apply Sel.tl | apply In.tl); exact rfl) | ((with_reducible apply v_eqlb); exact rfl; exact rfl) | ((with_reducible apply v_neqb); exact rfl; exact rfl) | ((with_reducible apply v_max); exact rfl; exact rfl) | ((with_reducible apply v_loadw_box); exact rfl; (repeat first | exact .hd | apply Sel.tl | apply In.tl); exact rfl) | ((with_reducible apply v_loadn_box); exact rfl; (repeat first | exact .hd | apply Sel.tl | apply In.tl); exact rfl; exact rfl) | ((with_reducible apply v_build); exact rfl; exact rfl; exact rfl)))
        | ((with_reducible apply wl_gyes); exact rfl; exact rfl)
        | ((with_reducible apply wl_gno_b); exact rfl; exact rfl; exact rfl; exact rfl)
        | ((with_reducible apply wl_gno_u); exact rfl; exact rfl; exact rfl)
        | ((with_reducible apply wl_alloc); exact rfl; intro _)
        | ((with_reducible apply wl_storen_box); exact rfl; exact rfl; (repeat first | exact .hd | apply Sel.tl | apply In.tl); exact rfl; exact rfl; exact rfl)
        | ((with_reducible apply wl_putn_box); exact rfl; exact rfl; (repeat first | exact .hd | apply Sel.tl | apply In.tl); exact rfl; exact rfl; exact rfl; exact rfl)
        | ((with_reducible apply wl_buildSlice); exact rfl; exact rfl; exact rfl; exact rfl; exact rfl; exact rfl; exact rfl; intro _)
        | ((with_reducible apply wl_gsplit) <;> first | exact rfl | (intro hb; (replace hb := Tidy.out hb; try (exfalso; omega))))
        | (with_reducible first | apply wl_nil | apply thn_n | apply w_seq | apply w_region | apply w_ret | apply w_skip | apply w_exit | apply w_block | apply thn_r | apply thn_e | apply blk_n | apply blk_r | apply blk_e | apply cut_r | apply cut_e)
        | ((with_reducible apply w_cond_true); exact rfl)
        | ((with_reducible apply w_cond_false); exact rfl)
        | ((with_reducible apply w_cond) <;> first | exact rfl | (intro hb; (replace hb := Tidy.out hb; try (exfalso; omega))))
        | ((with_reducible apply blk_x); exact rfl)
        | ((with_reducible apply cut_n (i := ())) <;> first | exact trivial | ((repeat (first | exact Sub.nil _ | refine Sub.cons rfl ?_)); done) | ((repeat (first | exact MSub.nil _ | refine MSub.pick (by (repeat first | exact .hd | apply Sel.tl | apply In.tl)) ?_ | exact MSub.refl _ | refine MSub.drop .hd ?_)); done)))
      exact ret2 (.inl rfl) Try.results77 rfl rfl (H' := [.own none 88 2 0 0 []]) (by (repeat (first | exact MSub.nil _ | refine MSub.pick (by (repeat first | exact .hd | apply Sel.tl | apply In.tl)) ?_ | exact MSub.refl _ | refine MSub.drop .hd ?_))) ⟨none, 0, rfl, rfl⟩
    · have c1 := fun w => h1 ▸ refFields_at n hwf.1 w
      have c2 := fun w => refName_unknown h2 hwf.2.1 ▸ refName_at n.fn hwf.2.1 hwf.2.2 w
      rw [h3] at hR
      subst hR
      repeat' (first
        | ((with_reducible apply wl_v); exact rfl; (with_reducible apply v_indexAddr); exact rfl; exact rfl; exact hi)
        | ((with_reducible apply wl_v); exact rfl; (with_reducible apply v_loadw_ro); exact rfl; exact hrn; exact rfl)
        | ((with_reducible apply wl_callp); exact rfl; exact rfl; (intro w hm; exact c1 w))
        | ((with_reducible apply wl_callp); exact rfl; exact rfl; (intro w hm; exact c2 w))
        | ((with_reducible apply wl_v); exact rfl; (with_reducible apply v_eqls_t); exact rfl; exact rfl; exact rfl)
        | ((with_reducible apply wl_v); exact rfl; (first | ((with_reducible apply vop_ok); exact rfl) | ((with_reducible apply v_fieldAddr); exact rfl) | ((with_reducible apply v_len); exact rfl) | ((with_reducible apply v_lens); exact rfl) | ((with_reducible apply v_load_box); exact rfl; (repeat first | exact .hd | apply Sel.tl | apply In.tl); exact rfl) | ((with_reducible apply v_eqlb); exact rfl; exact rfl) | ((with_reducible apply v_neqb); exact rfl; exact rfl) | ((with_reducible apply v_max); exact rfl; exact rfl) | ((with_reducible apply v_loadw_box); exact rfl; (repeat first | exact .hd | apply Sel.tl | apply In.tl); exact rfl) | ((with_reducible apply v_loadn_box); exact rfl; (repeat first | exact .hd | apply Sel.tl | apply In.tl); exact rfl; exact rfl) | ((with_reducible apply v_build); exact rfl; exact rfl; exact rfl)))
        | ((with_reducible apply wl_gyes); exact rfl; exact rfl)
        | ((with_reducible apply wl_gno_b); exact rfl; exact rfl; exact rfl; exact rfl)
        | ((with_reducible apply wl_gno_u); exact rfl; exact rfl; exact rfl)
        | ((with_reducible apply wl_alloc); exact rfl; intro _)
        | ((with_reducible apply wl_storen_box); exact rfl; exact rfl; (repeat first | exact .hd | apply Sel.tl | apply In.tl); exact rfl; exact rfl; exact rfl)
        | ((with_reducible apply wl_putn_box); exact rfl; exact rfl; (repeat first | exact .hd | apply Sel.tl | apply In.tl); exact rfl; exact rfl; exact rfl; exact rfl)
        | ((with_reducible apply wl_buildSlice); exact rfl; exact rfl; exact rfl; exact rfl; exact rfl; exact rfl; exact rfl; intro _)
        | ((with_reducible apply wl_gsplit) <;> first | exact rfl | (intro hb; (replace hb := Tidy.out hb; try (exfalso; omega))))
        | (with_reducible first | apply wl_nil | apply thn_n | apply w_seq | apply w_region | apply w_ret | apply w_skip | apply w_exit | apply w_block | apply thn_r | apply thn_e | apply blk_n | apply blk_r | apply blk_e | apply cut_r | apply cut_e)
        | ((with_reducible apply w_cond_true); exact rfl)
        | ((with_reducible apply w_cond_false); exact rfl)
        | ((with_reducible apply w_cond) <;> first | exact rfl | (intro hb; (replace hb := Tidy.out hb; try (exfalso; omega))))
        | ((with_reducible apply blk_x); exact rfl)
        | ((with_reducible apply cut_n (i := ())) <;> first | exact trivial | ((repeat (first | exact Sub.nil _ | refine Sub.cons rfl ?_)); done) | ((repeat (first | exact MSub.nil _ | refine MSub.pick (by (repeat first | exact .hd | apply Sel.tl | apply In.tl)) ?_ | exact MSub.refl _ | refine MSub.drop .hd ?_)); done)))
      exact ret2 (.inl rfl) Try.results77 rfl rfl (H' := [.own none 88 2 0 0 []]) (by (repeat (first | exact MSub.nil _ | refine MSub.pick (by (repeat first | exact .hd | apply Sel.tl | apply In.tl)) ?_ | exact MSub.refl _ | refine MSub.drop .hd ?_))) ⟨none, 0, rfl, rfl⟩
    · have c1 := fun w => h1 ▸ refFields_at n hwf.1 w
      have c2 := fun w => refName_at n.fn hwf.2.1 hwf.2.2 w
      have c3 := fun w => refArity_at n.fn w
      have hne := refName_known h2
      rw [h4] at hR
      subst hR
      generalize refArityE n.fn = ar at h3 c3
      repeat' (first
        | ((with_reducible apply wl_v); exact rfl; (with_reducible apply v_indexAddr); exact rfl; exact rfl; exact hi)
        | ((with_reducible apply wl_v); exact rfl; (with_reducible apply v_loadw_ro); exact rfl; exact hrn; exact rfl)
        | ((with_reducible apply wl_callp); exact rfl; exact rfl; (intro w hm; exact c1 w))
        | ((with_reducible apply wl_callp); exact rfl; exact rfl; (intro w hm; exact c2 w))
        | ((with_reducible apply wl_callp); exact rfl; exact rfl; (intro w hm; exact c3 w))
        | ((with_reducible apply wl_v); exact rfl; (with_reducible apply v_eqls_f); exact rfl; exact rfl; exact hne)
        | ((with_reducible apply wl_v); exact rfl; (first | ((with_reducible apply vop_ok); exact rfl) | ((with_reducible apply v_fieldAddr); exact rfl) | ((with_reducible apply v_len); exact rfl) | ((with_reducible apply v_lens); exact rfl) | ((with_reducible apply v_load_box); exact rfl; (repeat first | exact .hd | apply Sel.tl | apply In.tl); exact rfl) | ((with_reducible apply v_eqlb); exact rfl; exact rfl) | ((with_reducible apply v_neqb); exact rfl; exact rfl) | ((with_reducible apply v_max); exact rfl; exact rfl) | ((with_reducible apply v_loadw_box); exact rfl; (repeat first | exact .hd | apply Sel.tl | apply In.tl); exact rfl) | ((with_reducible apply v_loadn_box); exact rfl; (repeat first | exact .hd | apply Sel.tl | apply In.tl); exact rfl; exact rfl) | ((with_reducible apply v_build); exact rfl; exact rfl; exact rfl)))
        | ((with_reducible apply wl_gyes); exact rfl; exact rfl)
        | ((with_reducible apply wl_gno_b); exact rfl; exact rfl; exact rfl; exact rfl)
        | ((with_reducible apply wl_gno_u); exact rfl; exact rfl; exact rfl)
        | ((with_reducible apply wl_alloc); exact rfl; intro _)
        | ((with_reducible apply wl_storen_box); exact rfl; exact rfl; (repeat first | exact .hd | apply Sel.tl | apply In.tl); exact rfl; exact rfl; exact rfl)
        | ((with_reducible apply wl_putn_box); exact rfl; exact rfl; (repeat first | exact .hd | apply Sel.tl | apply In.tl); exact rfl; exact rfl; exact rfl; exact rfl)
        | ((with_reducible apply wl_buildSlice); exact rfl; exact rfl; exact rfl; exact rfl; exact rfl; exact rfl; exact rfl; intro _)
        | ((with_reducible apply wl_gsplit) <;> first | exact rfl | (intro hb; (replace hb := Tidy.out hb; try (exfalso; omega))))
        | (with_reducible first | apply wl_nil | apply thn_n | apply w_seq | apply w_region | apply w_ret | apply w_skip | apply w_exit | apply w_block | apply thn_r | apply thn_e | apply blk_n | apply blk_r | apply blk_e | apply cut_r | apply cut_e)
        | ((with_reducible apply w_cond_true); exact rfl)
        | ((with_reducible apply w_cond_false); exact rfl)
        | ((with_reducible apply w_cond) <;> first | exact rfl | (intro hb; (replace hb := Tidy.out hb; try (exfalso; omega))))
        | ((with_reducible apply blk_x); exact rfl)
        | ((with_reducible apply cut_n (i := ())) <;> first | exact trivial | ((repeat (first | exact Sub.nil _ | refine Sub.cons rfl ?_)); done) | ((repeat (first | exact MSub.nil _ | refine MSub.pick (by (repeat first | exact .hd | apply Sel.tl | apply In.tl)) ?_ | exact MSub.refl _ | refine MSub.drop .hd ?_)); done)))
      all_goals exact ret2 (.inl rfl) Try.results77 rfl rfl (H' := [.own none 88 2 0 0 []]) (by (repeat (first | exact MSub.nil _ | refine MSub.pick (by (repeat first | exact .hd | apply Sel.tl | apply In.tl)) ?_ | exact MSub.refl _ | refine MSub.drop .hd ?_))) ⟨none, 0, rfl, rfl⟩
end Go.SL

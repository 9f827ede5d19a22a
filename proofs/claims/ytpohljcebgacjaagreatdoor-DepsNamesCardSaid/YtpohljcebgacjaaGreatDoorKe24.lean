/-
  Lemmas and walks, put together: W17 Rw Lc R1 W31 W32.
-/
import Derived.Test.YtpohljcebgacjaaGreatDoorKe21
import Derived.Test.YtpohljcebgacjaaGreatDoorKe23
set_option linter.unusedSimpArgs false
set_option linter.unusedVariables false
set_option maxRecDepth 20000
namespace Go.SL
open Go Go.Proofs
attribute [local irreducible] W WL WQ WG WA VOp thn blk retP FnAt FnIn
def refFitsE (n : Nd) (i : Int) (m : Nd) : Bool :=
 if n.kind ≠ 7 then decide (m.kind ≠ 3) else if 46 ≤ n.fn then decide (m.kind = 3) || decide (m.kind = 2) else decide (m.kind ≠ 3) || refWideE n.fn i
set_option maxRecDepth 10000 in
theorem refFits_at (n : Nd) (i : Int) (m : Nd) (w : World) : Pure Tryz.prog 276 [.agg (encN n).toArray, .int .i64 i, .agg (encN m).toArray] w (.bool (refFitsE n i m)) := by
 refine fn_at Tryz.func276 rfl Tryz.ntmps276 rfl ?_
 repeat' (first | ((with_reducible apply wl_callp); exact rfl; exact rfl; (intro w hm; exact refWide_at n.fn i w)) | refine sT ?_ | refine sM fun _ => ?_ | (refine sC ?_ ?_ <;> intro hb <;> try omega) | exact cT | fail)
 all_goals ((refine rT1 ?_); ((try simp only [← Int.not_lt] at *); simp_all [refFitsE, -Int.not_lt, -Int.not_le, ← Int.not_lt]))
theorem fieldsE_ok {n : Nd} (h : fieldsE n = 0) : refFields n = true ∧ (n.kind = 7 → knownF n.fn = true ∧ (refArityE n.fn).1 ≤ n.n ∧ n.n ≤ (refArityE n.fn).2) := by
 unfold fieldsE at h
 split at h
 ·
  cases h
 ·
  rename_i h1
  have hf : refFields n = true := by
   unfold refFields
   cases ha : kindOk n <;> cases hb : eqN n (want n) <;> simp_all
  refine ⟨hf, fun h7 => ?_⟩
  rw [if_neg (by simp [h7])] at h
  cases hk : knownF n.fn
  ·
   rw [arity_unknown hk] at h
   simp at h
  ·
   rw [arity_known hk] at h
   refine ⟨rfl, ?_⟩
   dsimp only at h
   rw [if_neg (by simp)] at h
   split at h
   ·
    cases h
   ·
    omega
theorem released_known {fn : Int} (h : knownF fn = true) : releasedF fn = decide (46 ≤ fn) := by
 simp only [knownF, Bool.and_eq_true, decide_eq_true_eq] at h
 unfold releasedF
 rw [decide_eq_true (by omega : fn ≤ 50), Bool.and_true]
theorem wide_released {fn i : Int} (h : 46 ≤ fn) (hk : knownF fn = true) (h0 : 0 ≤ i) (h1 : i < (refArityE fn).2) : refWideE fn i = true := by
 simp only [knownF, Bool.and_eq_true, decide_eq_true_eq] at hk
 unfold refWideE
 rw [if_neg (by omega), if_neg (by omega), if_neg (by omega), if_neg (by omega), decide_eq_true h, decide_eq_true hk.2]
 rfl
theorem fitOne_ref {L : List Nd} {n : Nd} {p : Pt} (h : fieldsE n = 0) (hr : p.root < L.length) (hp : p.wide = decide (L[p.root].kind = 3)) {i : Int} (h0 : 0 ≤ i) (h1 : i < below n) : fitOne L n i p = refFitsE n i L[p.root] := by
 obtain ⟨_, h7⟩ := fieldsE_ok h
 unfold fitOne refFitsE mayAt
 rw [kindAt_get hr, hp]
 generalize L[p.root].kind = k
 by_cases hk7 : n.kind = 7
 ·
  obtain ⟨hk, ha, hb⟩ := h7 hk7
  have hb7 : below n = n.n := by simp [below, hk7]
  rw [if_pos hk7, if_neg (by simp [hk7]), released_known hk, wide_known hk]
  by_cases h46 : 46 ≤ n.fn
  ·
   rw [if_pos h46, wide_released h46 hk h0 (by omega)]
   by_cases e3 : k = 3
   ·
    simp [e3, hk7, h46]
   ·
    by_cases e2 : k = 2 <;> simp [e3, e2, hk7, h46]
  ·
   rw [if_neg h46]
   by_cases e3 : k = 3 <;> simp [e3, h46]
 ·
  rw [if_neg hk7, if_pos hk7]
  by_cases e3 : k = 3 <;> simp [e3, hk7]
theorem refName_known {fn : Int} (hk : knownF fn = true) : refNameE fn ≠ emptyB := by
 simp only [knownF, Bool.and_eq_true, decide_eq_true_eq] at hk
 obtain ⟨j, hj⟩ := Int.eq_ofNat_of_zero_le (by omega : 0 ≤ fn - 1)
 have e2 : refNameE fn = namesL.getD j emptyB := by
  rw [refNameE, if_neg (by omega), show fn.toNat = j + 1 by omega]
  rfl
 rw [e2]
 exact (names_ok j (by omega)).1
theorem refName_unknown {fn : Int} (hk : knownF fn = false) (h0 : 0 ≤ fn) : refNameE fn = emptyB := by
 simp only [knownF, Bool.and_eq_false_iff, decide_eq_false_iff_not] at hk
 rw [refNameE]
 split
 ·
  rfl
 ·
  rw [show fn.toNat = 0 by omega]
  rfl
theorem fieldsE_bad {n : Nd} (h : fieldsE n ≠ 0) : (refFields n = false ∧ fieldsE n = 2) ∨ (refFields n = true ∧ n.kind = 7 ∧ knownF n.fn = false ∧ fieldsE n = 10) ∨
  (refFields n = true ∧ n.kind = 7 ∧ knownF n.fn = true ∧ (n.n < (refArityE n.fn).1 ∨ (refArityE n.fn).2 < n.n) ∧ fieldsE n = 11) := by
 unfold fieldsE at h ⊢
 by_cases h1 : kindOk n = false ∨ eqN n (want n) = false
 ·
  left
  refine ⟨?_, if_pos h1⟩
  unfold refFields
  rcases h1 with h1 | h1 <;> simp [h1]
 ·
  right
  rw [if_neg h1] at h ⊢
  have hf : refFields n = true := by
   unfold refFields
   cases ha : kindOk n <;> cases hb : eqN n (want n) <;> simp_all
  by_cases h7 : n.kind = 7
  ·
   rw [if_neg (by simp [h7])] at h ⊢
   cases hk : knownF n.fn
   ·
    left
    rw [arity_unknown hk] at h ⊢
    exact ⟨hf, h7, rfl, by simp⟩
   ·
    right
    rw [arity_known hk] at h ⊢
    dsimp only at h ⊢
    rw [if_neg (by simp)] at h ⊢
    by_cases hc : n.n < (refArityE n.fn).1 ∨ (refArityE n.fn).2 < n.n
    ·
     exact ⟨hf, h7, rfl, hc, if_pos hc⟩
    ·
     rw [if_neg hc] at h
     exact absurd rfl h
  ·
   rw [if_pos (by simpa using h7)] at h
   exact absurd rfl h
def encT (p : Pt) : List Value := [.int .i64 (p.root : Int), .int .i64 (p.depth : Int)]
theorem encT_len (p : Pt) : (encT p).length = 2 := rfl
def wfN (n : Nd) : Prop := -9223372036854775808 ≤ n.v.num ∧ 0 ≤ n.fn ∧ n.fn ≤ 255
def nodeR (L : List Nd) (n : Nd) (i : Nat) (st : List Pt) : List Pt × Int :=
 match stepT L n i st with
 | .inl e => ([], e)
 | .inr r => (r.1, 0)
theorem v_1addN {P : Program} {w0 : World} {s : Slots} {H : List Blk} {ty : TypeId} {x y : Operand} {b : Nat} {t t' : TypeId} (hx : ev s x = some (.int .i64 1)) (hy : ev s y = some (.int .i64 (b : Nat))) (hb : b + 1 ≤ maxLen) : VOp P w0 s H (.binOp .add t x y t') ty (.int .i64 ((b + 1 : Nat) : Int)) := by
 have h := v_addN (P := P) (w0 := w0) (H := H) (ty := ty) (t := t) (t' := t') (a := 1) hx hy (by omega)
 rwa [Nat.add_comm 1 b] at h
theorem encTs_one (L : List Pt) : ∀ u ∈ L.flatMap encT, u.oneCell' = true := by
 intro u hu
 obtain ⟨n, _, h⟩ := List.mem_flatMap.1 hu
 simp only [encT, List.mem_cons, List.not_mem_nil, or_false] at h
 rcases h with rfl | rfl <;> rfl
structure TopsOk (L : List Nd) (i : Nat) (st : List Pt) : Prop where
 ok : ∀ p ∈ st, p.root < i ∧ p.depth ≤ 32 ∧ p.wide = decide (kindAt L p.root = 3)
 small : st.length ≤ i
set_option maxHeartbeats 2000000 in
theorem refNode_at (L : List Nd) (i : Nat) (hi : i < L.length) (hlen : L.length ≤ 256) (hwf : wfN L[i]) (st : List Pt) (hst : TopsOk L i st) (tv lv : Value) (w : World) (ht : Reads w tv L.length (L.flatMap encN)) (hp : Reads w lv st.length (st.flatMap encT)) :
  FnAt Tryz.prog 255 [tv, .int .i64 (i : Int), lv] w fun v H => ∃ A cap, v = .tuple #[sl A (nodeR L L[i] i st).1.length cap, .int .i64 (nodeR L L[i] i st).2] ∧ H = [.own A 276 2 (nodeR L L[i] i st).1.length cap ((nodeR L L[i] i st).1.flatMap encT)] := by
 have hp' := hp
 obtain ⟨At, ct, rfl, ht1, ht2, ht3⟩ := ht
 obtain ⟨Al, cl, rfl, hl1, hl2, hl3⟩ := hp
 obtain ⟨gt, ot, rfl, hrt⟩ := ht3 (by omega)
 have hrn := hrt.elem encN_len i hi
 obtain ⟨hok, hsmall⟩ := hst
 refine fn_at Tryz.func255 rfl Tryz.ntmps255 rfl ?_
 refine w_nilrow 276 2 ?_
 generalize hn : L[i] = n at hrn hwf
 generalize hR : nodeR L n i st = R
 unfold nodeR stepT at hR
 by_cases hfe : fieldsE n = 0
 ·
  obtain ⟨hb0, hb16⟩ := fields_ok hfe
  obtain ⟨k, hk⟩ := Int.eq_ofNat_of_zero_le hb0
  obtain ⟨hf1, hf7⟩ := fieldsE_ok hfe
  have c1 := fun w => hf1 ▸ refFields_at n hwf.1 w
  have c2 := fun w => refName_at n.fn hwf.2.1 hwf.2.2 w
  have c3 := fun w => refArity_at n.fn w
  have hne := fun h7 => refName_known (hf7 h7).1
  have har := fun h7 => (hf7 h7).2
  have c4 : ∀ w, Pure Tryz.prog 177 [.agg (encN n).toArray] w (.int .i64 (k : Int)) := fun w => hk ▸ refBelow_at n w
  rw [if_neg (by simp [hfe]), hk, Int.toNat_natCast] at hR
  generalize refArityE n.fn = ar at har c3
  repeat' (first | ((with_reducible apply wl_callp); exact rfl; exact rfl; (intro w hm; exact c1 w)) | ((with_reducible apply wl_callp); exact rfl; exact rfl; (intro w hm; exact c2 w)) | ((with_reducible apply wl_callp); exact rfl; exact rfl; (intro w hm; exact c3 w)) | ((with_reducible apply wl_callp); exact rfl; exact rfl; (intro w hm; exact c4 w)) | ((with_reducible apply wl_v); exact rfl; (with_reducible apply v_eqls_f); exact rfl; exact rfl; exact hne (by assumption)) | ((with_reducible apply w_keep (c := .tmp 24) [0, 1, 2, 8]); exact rfl) | ((with_reducible apply wl_v); exact rfl; (with_reducible apply v_subN); exact rfl; exact rfl; omega; (simp only [maxLen]; omega)) | refine sT ?_ | refine sO ?_ | refine sM fun _ => ?_ | (refine sC ?_ ?_ <;> intro hb <;> try omega) | exact cT | fail)
  ·
   rw [if_pos (Or.inl (by omega))] at hR
   subst hR
   exact ret2 (.inl rfl) Tryz.results255 rfl rfl (H' := [.own none 276 2 0 0 []]) mS ⟨none, 0, rfl, rfl⟩
  ·
   rename_i g
   have htl := topOf_length st k (by omega)
   have hlt : ¬ ((st.length : Int) < (k : Int)) := by omega
   refine w_loopK [0, 1, 2, 8, 11, 12] rfl (fun j : Nat => [(13, .int .i64 (depthOf ((topOf st k).take j) : Int)), (14, .int .i64 (j : Int))]) (fun _ => [.box g 136 (encN n), .own none 276 2 0 0 []]) (fun j => j ≤ k ∧ fitsFrom L n 0 (topOf st k) = fitsFrom L n (j : Int) ((topOf st k).drop j)) (fun j => k - j) 0 ⟨by omega, rfl⟩ sB mS ?_
   rintro j ⟨hj, hfit⟩
   by_cases hjk : j < k
   ·
    obtain ⟨gl, ol, rfl, hrl⟩ := hl3 (by omega)
    have hjt : j < (topOf st k).length := by omega
    have hpe : (topOf st k)[j] = st[st.length - k + j]'(by omega) := by simp [topOf]
    have hrp := hrl.elem encT_len (st.length - k + j) (by omega)
    have hds := depthOf_succ (topOf st k) j hjt
    rw [List.drop_eq_getElem_cons hjt, fitsFrom] at hfit
    rw [← hpe] at hrp
    have hpm := topOf_mem (List.getElem_mem hjt)
    generalize (topOf st k)[j] = p at hpm hrp hds hfit
    obtain ⟨hp1, hp2, hp3⟩ := hok p hpm
    have hrr := hrt.elem encN_len p.root (by omega)
    have hf := fitOne_ref hfe (L := L) (p := p) (by omega) (by rw [hp3, kindAt_get]) (i := (j : Int)) (by omega) (by omega)
    have hcall := fun w => refFits_at n (j : Int) (L[p.root]'(by omega)) w
    rw [← hf] at hcall
    generalize L[p.root]'(by omega) = m at hrr hcall
    generalize hfo : fitOne L n (j : Int) p = fo at hcall hfit
    have hd33 := depthOf_bound ((topOf st k).take j) fun q hq => (hok q (topOf_mem (List.mem_of_mem_take hq))).2.1
    repeat' (first | ((with_reducible apply wq_callp); exact rfl; exact rfl; (intro w hm; exact hcall w)) | ((with_reducible apply wl_v); exact rfl; (with_reducible apply v_addN); exact rfl; exact rfl; (simp only [maxLen]; omega)) | ((with_reducible apply wq_v); exact rfl; (with_reducible apply v_addN); exact rfl; exact rfl; (simp only [maxLen]; omega)) | ((with_reducible apply wl_v); exact rfl; (with_reducible apply v_1addN); exact rfl; exact rfl; (simp only [maxLen]; omega)) | ((with_reducible apply wl_v); exact rfl; (with_reducible apply v_succN); exact rfl; exact rfl; (simp only [maxLen]; omega)) | ((with_reducible apply wl_v); exact rfl; (with_reducible apply v_maxN); exact rfl; exact rfl) | refine sT ?_ | refine sQ ?_ | refine sO ?_ | refine sOQ ?_ | refine sD ?_ | refine sM fun _ => ?_ | (refine sC ?_ ?_ <;> intro hb <;> try omega) | (refine sCQ ?_ ?_ <;> intro hb <;> try omega) | exact cT | fail)
    ·
     rw [if_pos (Or.inr (by rw [hfit]; simp_all))] at hR
     subst hR
     exact ret2 (.inl rfl) Tryz.results255 rfl rfl (H' := [.own none 276 2 0 0 []]) mS ⟨none, 0, rfl, rfl⟩
    ·
     rw [Nat.add_comm 1, ← hds]
     refine ⟨j + 1, ?_, (by first | omega | (dsimp only; omega)), sB, sB, mS⟩
     refine ⟨by omega, ?_⟩
     rw [hfit, hb, Bool.true_and]
     rfl
   ·
    have e : j = k := by omega
    subst e
    have htk : (topOf st j).take j = topOf st j := List.take_of_length_le (by omega)
    rw [htk]
    have hd33 := depthOf_bound (topOf st j) fun q hq => (hok q (topOf_mem hq)).2.1
    rw [List.drop_of_length_le (by omega), fitsFrom] at hfit
    rw [if_neg (by rw [hfit]; simp; omega)] at hR
    have hcut := hp'.cut (lo := 0) (hi := st.length - j) (sz := 2) (by omega) (by omega)
    have hcl : (((st.flatMap encT).drop (0 * 2)).take ((st.length - j - 0) * 2)) = (st.take (st.length - j)).flatMap encT := by
     rw [Nat.zero_mul, List.drop_zero, Nat.sub_zero, flat_take encT_len]
    rw [hcl] at hcut
    have hll : ((st.take (st.length - j)).flatMap encT).length = (st.length - j - 0) * 2 := by rw [flat_length' encT_len, List.length_take]; omega
    repeat' (first | ((with_reducible apply wl_buildSlice0); exact rfl; intro gb) | ((with_reducible apply wl_v); exact rfl; (with_reducible apply v_slice (lo := 0) (hi := st.length - j)); exact rfl; exact rfl; exact ⟨_, rfl⟩; omega; omega) | ((with_reducible apply wl_appendR (n' := 0) (c := 0) (A := some _) (m := st.length - j - 0)); (iterate 3 exact rfl); exact pK; (intro w hm; exact hcut.of_w0 hm); exact hll; exact encTs_one _; omega; (simp only [maxLen]; omega); intro A' cap' hA) | ((with_reducible apply wl_append); (iterate 3 exact rfl); (repeat first | exact .hd | apply Sel.tl | apply In.tl); (intro w hm; exact hm.cells_own (by (repeat first | exact .hd | apply Sel.tl | apply In.tl))); exact rfl; (simp [Value.oneCell', sl]); omega; (simp only [maxLen]; omega); (intro A' cap' hA')) | refine sT ?_ | refine sM fun _ => ?_ | (refine sC ?_ ?_ <;> intro hb <;> try omega) | exact cT | fail)
    ·
     rw [if_pos (by omega)] at hR
     subst hR
     exact ret2 (.inl rfl) Tryz.results255 rfl rfl (H' := [.own none 276 2 0 0 []]) mS ⟨none, 0, rfl, rfl⟩
    ·
     rw [if_neg (by omega)] at hR
     subst hR
     have e1 : (st.take (st.length - j) ++ [(⟨i, depthOf (topOf st j), decide (n.kind = 3)⟩ : Pt)]).length = 0 + (st.length - j - 0) + 1 := by simp
     have e2 : (st.take (st.length - j) ++ [(⟨i, depthOf (topOf st j), decide (n.kind = 3)⟩ : Pt)]).flatMap encT = [] ++ (st.take (st.length - j)).flatMap encT ++ [.int .i64 (i : Int), .int .i64 (depthOf (topOf st j) : Int)] := by
      rw [List.flatMap_append]; rfl
     refine ret2 (.inl rfl) Tryz.results255 rfl rfl (H' := [.own A' 276 2 (0 + (st.length - j - 0) + 1) cap' ([] ++ (st.take (st.length - j)).flatMap encT ++ [.int .i64 (i : Int), .int .i64 (depthOf (topOf st j) : Int)])]) mS ⟨A', cap', ?_⟩
     dsimp only
     rw [e1, e2]
     exact ⟨rfl, rfl⟩
 ·
  rw [if_pos hfe] at hR
  rcases fieldsE_bad hfe with ⟨h1, h2⟩ | ⟨h1, h7, h2, h3⟩ | ⟨h1, h7, h2, h3, h4⟩
  ·
   have c1 := fun w => h1 ▸ refFields_at n hwf.1 w
   rw [h2] at hR
   subst hR
   repeat' (first | ((with_reducible apply wl_v); exact rfl; (with_reducible apply v_indexAddr); exact rfl; exact rfl; exact hi) | ((with_reducible apply wl_v); exact rfl; (with_reducible apply v_loadw_ro); exact rfl; exact hrn; exact rfl) | ((with_reducible apply wl_callp); exact rfl; exact rfl; (intro w hm; exact c1 w)) | refine sT ?_ | refine sM fun _ => ?_ | (refine sC ?_ ?_ <;> intro hb <;> try omega) | exact cT | fail)
   exact ret2 (.inl rfl) Tryz.results255 rfl rfl (H' := [.own none 276 2 0 0 []]) mS ⟨none, 0, rfl, rfl⟩
  ·
   have c1 := fun w => h1 ▸ refFields_at n hwf.1 w
   have c2 := fun w => refName_unknown h2 hwf.2.1 ▸ refName_at n.fn hwf.2.1 hwf.2.2 w
   rw [h3] at hR
   subst hR
   repeat' (first | ((with_reducible apply wl_v); exact rfl; (with_reducible apply v_indexAddr); exact rfl; exact rfl; exact hi) | ((with_reducible apply wl_v); exact rfl; (with_reducible apply v_loadw_ro); exact rfl; exact hrn; exact rfl) | ((with_reducible apply wl_callp); exact rfl; exact rfl; (intro w hm; exact c1 w)) | ((with_reducible apply wl_callp); exact rfl; exact rfl; (intro w hm; exact c2 w)) | ((with_reducible apply wl_v); exact rfl; (with_reducible apply v_eqls_t); (iterate 3 exact rfl)) | refine sT ?_ | refine sM fun _ => ?_ | (refine sC ?_ ?_ <;> intro hb <;> try omega) | exact cT | fail)
   exact ret2 (.inl rfl) Tryz.results255 rfl rfl (H' := [.own none 276 2 0 0 []]) mS ⟨none, 0, rfl, rfl⟩
  ·
   have c1 := fun w => h1 ▸ refFields_at n hwf.1 w
   have c2 := fun w => refName_at n.fn hwf.2.1 hwf.2.2 w
   have c3 := fun w => refArity_at n.fn w
   have hne := refName_known h2
   rw [h4] at hR
   subst hR
   generalize refArityE n.fn = ar at h3 c3
   repeat' (first | ((with_reducible apply wl_v); exact rfl; (with_reducible apply v_indexAddr); exact rfl; exact rfl; exact hi) | ((with_reducible apply wl_v); exact rfl; (with_reducible apply v_loadw_ro); exact rfl; exact hrn; exact rfl) | ((with_reducible apply wl_callp); exact rfl; exact rfl; (intro w hm; exact c1 w)) | ((with_reducible apply wl_callp); exact rfl; exact rfl; (intro w hm; exact c2 w)) | ((with_reducible apply wl_callp); exact rfl; exact rfl; (intro w hm; exact c3 w)) | ((with_reducible apply wl_v); exact rfl; (with_reducible apply v_eqls_f); exact rfl; exact rfl; exact hne) | refine sT ?_ | refine sM fun _ => ?_ | (refine sC ?_ ?_ <;> intro hb <;> try omega) | exact cT | fail)
   all_goals exact ret2 (.inl rfl) Tryz.results255 rfl rfl (H' := [.own none 276 2 0 0 []]) mS ⟨none, 0, rfl, rfl⟩
end Go.SL
namespace Go.SL
open Go
theorem natOf_pos : ∀ (l : List Int) {v : Int}, (∀ c ∈ l, 48 ≤ c) → 0 ≤ v → 0 ≤ natOf l v
 | [], _, _, h => h
 | c :: r, v, hl, h => by
  rw [natOf]
  refine natOf_pos r (fun d hd => hl d (List.mem_cons_of_mem _ hd)) ?_
  have := hl c List.mem_cons_self
  omega
theorem runL_mem' {p : Int → Bool} : ∀ {l : List Int} {c : Int}, c ∈ l.take (runL p l) → p c = true
 | [], _, h => by cases h
 | d :: r, c, h => by
  rw [runL] at h
  split at h
  ·
   rename_i hd
   rw [List.take_succ_cons] at h
   rcases List.mem_cons.1 h with rfl | h
   ·
    exact hd
   ·
    exact runL_mem' h
  ·
   cases h
theorem numberL_pos {l : List Int} {v : Int} {n : Nat} (h : numberL l = some (v, n)) : 0 ≤ v := by
 unfold numberL at h
 dsimp only at h
 split at h
 ·
  cases h
 ·
  split at h
  ·
   cases h
  ·
   cases h
   refine natOf_pos _ (fun c hc => ?_) (Int.le_refl _)
   rw [List.mem_append, List.mem_append] at hc
   rcases hc with (hc | hc) | hc
   ·
    have := runL_mem' hc
    rw [digC_iff] at this
    exact this.1
   ·
    have hp : placesL (l.drop (runL digC l)) = 0 ∨ ∃ r, l.drop (runL digC l) = 46 :: r ∧ placesL (l.drop (runL digC l)) = runL digC r := by
     by_cases h0 : placesL (l.drop (runL digC l)) = 0
     ·
      exact .inl h0
     ·
      exact .inr (placesL_pos h0)
    rcases hp with hp | ⟨r, hr, hp⟩
    ·
     rw [hp] at hc; cases hc
    ·
     have hr' : l.drop (runL digC l + 1) = r := by rw [← List.tail_drop, hr]; rfl
     rw [hr', hp] at hc
     have := runL_mem' hc
     rw [digC_iff] at this
     exact this.1
   ·
    rw [List.eq_of_mem_replicate hc]; decide
theorem failL_pos (l : List Int) : ∀ (ns : List (List Int)) {i c : Int} {n : Nat}, 0 ≤ i → failL l ns i = some (c, n) → 0 ≤ c
 | [], _, _, _, _, h => by cases h
 | s :: r, i, c, n, hi, h => by
  rw [failL] at h
  split at h
  ·
   cases h; exact hi
  ·
   exact failL_pos l r (by omega) h
theorem opL_mem (l : List Int) : ∀ (ns : List (List Int × Int)) {c : Int} {n : Nat}, opL l ns = some (c, n) → ∃ s ∈ ns, s.2 = c
 | [], _, _, h => by cases h
 | (s, k) :: r, c, n, h => by
  rw [opL] at h
  split at h
  ·
   cases h; exact ⟨_, List.mem_cons_self, rfl⟩
  ·
   obtain ⟨x, hx, he⟩ := opL_mem l r h
   exact ⟨x, List.mem_cons_of_mem _ hx, he⟩
theorem signR_num {l : List Int} {t : Tk} {n : Nat} (h : signR l = some (t, n)) : 0 ≤ t.num := by
 unfold signR at h
 split at h
 ·
  rename_i x hx
  cases h
  unfold failP at hx
  obtain ⟨⟨c, m⟩, hy, hz⟩ := Option.map_eq_some_iff.1 hx
  cases hz
  exact failL_pos l _ (by decide) hy
 ·
  unfold signP at h
  split at h
  ·
   rename_i hx
   cases h
   obtain ⟨s, hs, he⟩ := opL_mem l _ hx
   have : ∀ s ∈ opNames, 0 ≤ s.2 := by decide
   exact he ▸ this s hs
  ·
   split at h
   ·
    cases h; simp
   ·
    split at h
    ·
     cases h; simp
    ·
     split at h
     ·
      cases h; simp
     ·
      cases h
theorem wordI_num {l : List Int} {t : Tk} {n : Nat} (h : wordI l = some (t, n)) : 0 ≤ t.num := by
 unfold wordI at h
 split at h
 ·
  cases h
 ·
  split at h
  ·
   cases h; simp
  ·
   split at h
   ·
    cases h; simp
   ·
    split at h
    ·
     cases h; simp
    ·
     split at h
     ·
      cases h
     ·
      split at h
      ·
       cases h; simp
      ·
       cases h; simp
theorem tokenR_num {l : List Int} {t : Tk} {n : Nat} (h : tokenR l = some (t, n)) : 0 ≤ t.num := by
 unfold tokenR at h
 split at h
 ·
  obtain ⟨⟨v, m⟩, hy, hx⟩ := Option.map_eq_some_iff.1 h
  cases hx
  exact numberL_pos hy
 ·
  split at h
  ·
   obtain ⟨x, _, hx⟩ := Option.map_eq_some_iff.1 h
   cases hx; simp
  ·
   split at h
   ·
    exact wordI_num h
   ·
    exact signR_num h
theorem tokensG_num {l : List Int} : ∀ (f i : Nat) (r : List Tk), tokensG tokenR l f i = .ok r → ∀ t ∈ r, 0 ≤ t.num := by
 intro f
 induction f with
 | zero => intro i r h; cases h; exact fun _ h => by cases h
 | succ f ih =>
  intro i r h
  simp only [tokensG] at h
  split at h
  ·
   cases h; exact fun _ h => by cases h
  ·
   split at h
   ·
    exact ih _ _ h
   ·
    split at h
    ·
     cases h
    ·
     rename_i t n ht
     cases hr : tokensG tokenR l f (i + n) with
     | error e => rw [hr] at h; cases h
     | ok r' =>
      rw [hr] at h
      cases h
      intro u hu
      rcases List.mem_cons.1 hu with rfl | hu
      ·
       have := tokenR_num ht
       exact this
      ·
       exact ih _ _ hr u hu
theorem tokensV_num (l : List Int) : ∀ t ∈ (tokensV tokenR l).1, 0 ≤ t.num := by
 unfold tokensV
 split
 ·
  exact fun _ h => by cases h
 ·
  split
  ·
   exact fun _ h => by cases h
  ·
   split
   ·
    rename_i r hr
    exact tokensG_num _ _ _ hr
   ·
    exact fun _ h => by cases h
def Wf (p : PS) : Prop := (∀ t ∈ p.l, 0 ≤ t.num) ∧ ∀ n ∈ p.out, wfN n
theorem Wf.skip {p : PS} (h : Wf p) : Wf p.skip := ⟨fun t ht => h.1 t (List.mem_of_mem_tail ht), h.2⟩
theorem Wf.put {p : PS} (h : Wf p) {n : Nd} (hn : wfN n) : Wf (p.put n) := ⟨h.1, fun m hm => by
 rcases List.mem_append.1 hm with hm | hm
 ·
  exact h.2 m hm
 ·
  rw [List.mem_singleton.1 hm]; exact hn⟩
theorem hdT_num {fin : Int} {l : List Tk} (h : ∀ t ∈ l, 0 ≤ t.num) : 0 ≤ (hdT fin l).num := by
 cases l with
 | nil => exact Int.le_refl _
 | cons t r => exact h t List.mem_cons_self
theorem wf_zero (k : Int) (r : Rct) (o : Int) : wfN ⟨k, zeroV, r, o, 0, 0⟩ := ⟨by simp [zeroV], Int.le_refl 0, by simp⟩
theorem wf_lit {t : Tk} (h : 0 ≤ t.num) : wfN (litT t) := by
 unfold litT
 refine ⟨?_, Int.le_refl 0, by simp⟩
 simp only
 split
 ·
  simp only; omega
 ·
  split
  ·
   simp
  ·
   split
   ·
    simp only; omega
   ·
    simp only; omega
theorem functionE_bound (b : ByteArray) : 0 ≤ (functionE b).1 ∧ (functionE b).1 ≤ 255 := by
 have hb1 := idxFrom_bound namesL b 0 (by omega)
 rw [namesL_length] at hb1
 unfold functionE
 split
 ·
  dsimp only; omega
 ·
  dsimp only; omega
theorem endCall_wf {fin : Int} {name : Tk} {fn : Int} {n m : Nat} {p p' : PS} (h : endCall fin name fn n p = some (.ok (m, p'))) (hw : Wf p) (h0 : 0 ≤ fn) (h1 : fn ≤ 255) : Wf p' := by
 unfold endCall at h
 dsimp only at h
 split at h
 ·
  cases h
 ·
  split at h
  ·
   cases h
  ·
   split at h
   ·
    cases h
   ·
    cases h
    exact hw.skip.put ⟨by simp [zeroV], h0, h1⟩
theorem runP_wf (fin : Int) : ∀ (f : Nat) (j : Job) (p : PS) (n : Nat) (p' : PS), runP fin f j p = some (.ok (n, p')) → Wf p → Wf p'
 | 0, _, _, _, _, h, _ => by cases h
 | f + 1, j, p, n, p', h, hw => by
  have ih := runP_wf fin f
  cases j with
  | level k =>
   rw [runP] at h
   split at h
   ·
    exact ih _ _ _ _ h hw
   ·
    obtain ⟨n1, p1, h1, h2⟩ := thenP_ok h
    exact ih _ _ _ _ h2 (ih _ _ _ _ h1 hw)
  | loop k =>
   rw [runP] at h
   try dsimp only at h
   split at h
   ·
    obtain ⟨n1, p1, h1, h2⟩ := thenP_ok h
    exact ih _ _ _ _ h2 ((ih _ _ _ _ h1 hw.skip).put (wf_zero _ _ _))
   ·
    cases h; exact hw
  | sign =>
   rw [runP] at h
   try dsimp only at h
   split at h
   ·
    obtain ⟨n1, p1, h1, h2⟩ := thenP_ok h
    cases h2
    exact (ih _ _ _ _ h1 hw.skip).put (wf_zero _ _ _)
   ·
    obtain ⟨n1, p1, h1, h2⟩ := thenP_ok h
    split at h2
    ·
     obtain ⟨n2, p2, h3, h4⟩ := thenP_ok h2
     cases h4
     exact (ih _ _ _ _ h3 (ih _ _ _ _ h1 hw).skip).put (wf_zero _ _ _)
    ·
     cases h2
     exact ih _ _ _ _ h1 hw
  | pct =>
   rw [runP] at h
   obtain ⟨n1, p1, h1, h2⟩ := thenP_ok h
   exact ih _ _ _ _ h2 (ih _ _ _ _ h1 hw)
  | pctl =>
   rw [runP] at h
   try dsimp only at h
   split at h
   ·
    exact ih _ _ _ _ h (hw.skip.put (wf_zero _ _ _))
   ·
    cases h; exact hw
  | prim =>
   rw [runP] at h
   try dsimp only at h
   split at h
   ·
    cases h
    exact hw.skip.put (wf_lit (hdT_num hw.1))
   ·
    split at h
    ·
     cases h
     exact hw.skip.put (wf_zero _ _ _)
    ·
     split at h
     ·
      obtain ⟨n1, p1, h1, h2⟩ := thenP_ok h
      split at h2
      ·
       cases h2
      ·
       cases h2
       exact (ih _ _ _ _ h1 hw.skip).skip
     ·
      split at h
      ·
       split at h
       ·
        cases h
       ·
        have hb := functionE_bound (hdT fin p.l).text
        split at h
        ·
         cases h
        ·
         split at h
         ·
          exact endCall_wf h hw.skip.skip hb.1 hb.2
         ·
          obtain ⟨n1, p1, h1, h2⟩ := thenP_ok h
          exact endCall_wf h2 (ih _ _ _ _ h1 hw.skip.skip) hb.1 hb.2
      ·
       cases h
  | args fn i =>
   rw [runP] at h
   try dsimp only at h
   have hgo : ∀ p0 : PS, Wf p0 → (if (hdT fin p0.l).kind = 11 then runP fin f (.args fn (i + 1)) p0.skip else some (.ok (i + 1, p0))) = some (.ok (n, p')) → Wf p' := by
    intro p0 hw0 h0
    split at h0
    ·
     exact ih _ _ _ _ h0 hw0.skip
    ·
     cases h0; exact hw0
   split at h
   ·
    obtain ⟨n1, p1, h1, h2⟩ := thenP_ok h
    exact hgo p1 (ih _ _ _ _ h1 hw) h2
   ·
    split at h
    ·
     cases h
    ·
     exact hgo _ (hw.skip.put (wf_zero _ _ _)) h
def constR (b : ByteArray) : Vl :=
 if b = emptyB then zeroV
 else if (ints b).headD 0 = 39 then ⟨3, 0, mkB (ints b).tail⟩
 else if upB b = trueB ∨ upB b = falseB then truthV (decide (upB b = trueB))
 else if (codeE b).2 = 0 ∧ (codeE b).1 < 6 then failV (codeE b).1
 else if (decL (ints b)).2 = 0 then makeV (decL (ints b)).1
 else if (decL (ints b)).2 = 3 then failV 3
 else ⟨3, 0, b⟩
theorem constP_eq {b : ByteArray} (hg : glyphE b = 0) : constP b = constR b := by
 have hT : trueB ≠ falseB := by decide
 have h3 : try3 b = if upB b = trueB then (truthV true, true) else if upB b = falseB then (truthV false, true) else (failV 2, false) := by
  have hv : valE ⟨3, 0, b⟩ = 0 := by simp [valE, valOk, hg]
  simp only [try3, boolTextV, hv, if_true, namedV]
  split
  ·
   rfl
  ·
   split <;> rfl
 have h2 : try2 b = if (ints b).headD 0 = 39 then (⟨3, 0, mkB (ints b).tail⟩, true) else (⟨3, 0, b⟩, false) := by
  have hq : ints quoteB = [39] := rfl
  have hs : quoteB.size = 1 := rfl
  simp only [try2, cutB, hq, hs]
  cases hi : ints b with
  | nil => simp
  | cons c r =>
   simp only [List.take_succ_cons, List.take_zero, List.cons.injEq, and_true, List.headD_cons, List.tail_cons]
   by_cases hc : c = 39
   ·
    have hsz : b.size = (c :: r).length := by rw [← hi, ints_length]
    have : sub b 1 b.size = mkB r := by
     refine mkB_eq ?_
     rw [ints_sub, hi, hsz]
     simp
    simp only [hc, if_true, this]
   ·
    simp only [hc, if_false]
 have hgen : ∀ (p : Prop) [Decidable p] (x y z : Vl), (if (if p then (x, true) else (y, false)).2 = true then (if p then (x, true) else (y, false)).1 else z) = if p then x else z := by
  intro p _ x y z
  split <;> simp
 unfold constP triesP constFrom constFrom constFrom constFrom constFrom constFrom constR
 have e1 : (try1 b).2 = decide (b = emptyB) := rfl
 rw [e1, h2, h3]
 by_cases c1 : b = emptyB
 ·
  simp [c1, try1]
 ·
  rw [if_neg (by simpa using c1), if_neg c1]
  by_cases c2 : (ints b).headD 0 = 39
  ·
   simp only [c2, if_true]
  ·
   simp only [c2, if_false, Bool.false_eq_true]
   by_cases c3 : upB b = trueB
   ·
    simp [c3]
   ·
    by_cases c4 : upB b = falseB
    ·
     simp [c4, hT.symm]
    ·
     simp only [c3, c4, if_false, or_self, Bool.false_eq_true]
     by_cases c5 : (codeE b).2 = 0 ∧ (codeE b).1 < 6
     ·
      have : (try4 b).2 = true := by simp only [try4, c5.1, decide_true, Bool.true_and, decide_eq_true_eq]; omega
      rw [if_pos this, if_pos c5]; rfl
     ·
      have : (try4 b).2 = false := by
       simp only [try4, Bool.and_eq_false_iff, decide_eq_false_iff_not]
       by_cases h : (codeE b).2 = 0
       ·
        right; intro h'; exact c5 ⟨h, by omega⟩
       ·
        left; exact h
      rw [if_neg (by simp [this]), if_neg c5]
      by_cases c6 : (decL (ints b)).2 = 0
      ·
       simp [try5, c6]
      ·
       by_cases c7 : (decL (ints b)).2 = 3
       ·
        simp [try5, c7]
       ·
        simp [try5, c6, c7]
end Go.SL
namespace Go.SL
open Go Go.Proofs
attribute [local irreducible] W WL WQ WG WA WX WLI WR WT WC VOp RW thn blk cutP scp retP retPP endB FnAt FnIn FnP ceP
section
variable {w0 : World} {s : Slots} {H : List Blk} {ty t' : TypeId} {x y : Operand}
theorem v_eqlV_to {a b : Vl} {c : Bool} (h : decide (a = b) = c) (hx : ev s x = some (.agg (encV a).toArray)) (hy : ev s y = some (.agg (encV b).toArray)) : VOp Tryz.prog w0 s H (.binOp .eql 120 x y t') ty (.bool c) := by
 have h1 := v_eqlV (w0 := w0) (H := H) (ty := ty) (t' := t') hx hy
 rwa [eqV_dec, h] at h1
theorem v_eqlF_to {a b : Rf} {c : Bool} (h : decide (a = b) = c) (hx : ev s x = some (.agg (encF a).toArray)) (hy : ev s y = some (.agg (encF b).toArray)) : VOp Tryz.prog w0 s H (.binOp .eql 38 x y t') ty (.bool c) := by
 have h1 := v_eqlF (w0 := w0) (H := H) (ty := ty) (t' := t') hx hy
 rwa [eqF_dec, h] at h1
end
theorem refLess_at (a b : Rf) (w : World) : Pure Tryz.prog 79 [.agg (encF a).toArray, .agg (encF b).toArray] w (.bool (lessF a b)) := by
 refine fn_at Tryz.func79 rfl Tryz.ntmps79 rfl ?_
 repeat' (first | refine sT ?_ | refine sM fun _ => ?_ | (refine sC ?_ ?_ <;> intro hb <;> try omega) | fail)
 all_goals ((refine rT1 ?_); ((try simp only [← Int.not_lt] at *); simp_all [lessF, -Int.not_lt, -Int.not_le, ← Int.not_lt]))
theorem refOne_at (a : Rf) (w : World) : Pure Tryz.prog 104 [.agg (encF a).toArray] w (.agg (encR (oneA a.col a.row)).toArray) := by
 refine fn_at Tryz.func104 rfl Tryz.ntmps104 rfl ?_
 repeat' (first | refine sT ?_ | refine sM fun _ => ?_ | (refine sC ?_ ?_ <;> intro hb <;> try omega) | fail)
 all_goals ((refine eRC ?_); rfl)
theorem bat_out {a : ByteArray} {i : Nat} (h : a.size ≤ i) : bat a i = 0 := by
 rw [bat, List.getD_eq_getElem?_getD, List.getElem?_eq_none (by rw [ints_length]; exact h)]; rfl
theorem refDigit_at (a : ByteArray) (ha : a.size ≤ 1000000) (i : Nat) (w : World) : Pure Tryz.prog 247 [.string a, .int .i64 (i : Int)] w (.bool (digC (bat a i))) := by
 refine fn_at Tryz.func247 rfl Tryz.ntmps247 rfl ?_
 have h0 := fun h : a.size ≤ i => bat_out h
 generalize hc : bat a i = c at h0
 repeat' (first | ((with_reducible apply wl_v); exact rfl; (with_reducible apply v_idx (j := i)); exact rfl; exact rfl; omega) | (rw [hc]) | refine sT ?_ | refine sT2 ?_ | refine sM fun _ => ?_ | (refine sC ?_ ?_ <;> intro hb <;> try omega) | fail)
 all_goals ((refine rT1 ?_); (try rw [h0 (by omega)]); simp_all [digC]; try omega)
theorem refLetter_at (a : ByteArray) (ha : a.size ≤ 1000000) (i : Nat) (w : World) : Pure Tryz.prog 250 [.string a, .int .i64 (i : Int)] w (.bool (letC (bat a i))) := by
 refine fn_at Tryz.func250 rfl Tryz.ntmps250 rfl ?_
 have h0 := fun h : a.size ≤ i => bat_out h
 generalize hc : bat a i = c at h0
 repeat' (first | ((with_reducible apply wl_v); exact rfl; (with_reducible apply v_idx (j := i)); exact rfl; exact rfl; omega) | (rw [hc]) | refine sT ?_ | refine sT2 ?_ | refine sM fun _ => ?_ | (refine sC ?_ ?_ <;> intro hb <;> try omega) | fail)
 all_goals ((refine rT1 ?_); (try rw [h0 (by omega)]); simp_all [letC]; try omega)
def letN (c : Int) : Int := if letC c then upC c - 64 else 0
theorem refLetN_at (c : Int) (h0 : 0 ≤ c) (h1 : c < 256) (w : World) : Pure Tryz.prog 296 [.int .u8 c] w (.int .i64 (letN c)) := by
 refine fn_at Tryz.func296 rfl Tryz.ntmps296 rfl ?_
 repeat' (first | ((with_reducible apply wl_v (d := 10)); exact rfl; (with_reducible apply v_subw_id (c := c - 65)); exact rfl; exact rfl; exact wrap_u8 (by omega) (by omega)) | ((with_reducible apply wl_v (d := 20)); exact rfl; (with_reducible apply v_subw_id (c := c - 97)); exact rfl; exact rfl; exact wrap_u8 (by omega) (by omega)) | ((with_reducible apply wl_v (d := 11)); exact rfl; (with_reducible apply v_conv_to (c := c - 65)); exact rfl; exact I64.wrap ⟨by omega, by omega⟩) | ((with_reducible apply wl_v (d := 21)); exact rfl; (with_reducible apply v_conv_to (c := c - 97)); exact rfl; exact I64.wrap ⟨by omega, by omega⟩) | ((with_reducible apply wl_v (d := 12)); exact rfl; (with_reducible apply v_add); exact rfl; exact rfl; exact ⟨by omega, by omega⟩) | ((with_reducible apply wl_v (d := 22)); exact rfl; (with_reducible apply v_add); exact rfl; exact rfl; exact ⟨by omega, by omega⟩) | refine sT ?_ | refine sM fun _ => ?_ | (refine sC ?_ ?_ <;> intro hb <;> try omega) | fail)
 all_goals
  (refine rT1 ?_)
  unfold letN upC
  first
   | (rw [if_pos ((letC_iff c).2 (by omega)), if_pos (by omega)]; congr 1; omega)
   | (rw [if_pos ((letC_iff c).2 (by omega)), if_neg (by omega)]; congr 1; omega)
   | (rw [if_neg (by rw [letC_iff]; omega)])
set_option maxHeartbeats 1000000 in
theorem refUpper_at (a : ByteArray) (ha : a.size ≤ 1000000) (w : World) : Pure Tryz.prog 166 [.string a] w (.string (upB a)) := by
 refine fn_at Tryz.func166 rfl Tryz.ntmps166 rfl ?_
 repeat' (first | ((with_reducible apply wl_toBytes); exact rfl; exact rfl; intro gb cap) | refine sT ?_ | refine sM fun _ => ?_ | (refine sC ?_ ?_ <;> intro hb <;> try omega) | fail)
 refine w_loopK [3] rfl (fun i : Nat => [(4, .int .i64 (i : Int))]) (fun i => [.byt gb 5 a.size cap ((((ints a).take i).map upC ++ (ints a).drop i).map (Value.int .u8))]) (fun i => i ≤ a.size) (fun i => a.size - i) 0 (by omega) sB ?_ ?_
 ·
  rw [bytesV_eq]; simp only [List.take_zero, List.map_nil, List.nil_append, List.drop_zero]; exact mS
 intro i hi
 have hl := ints_length a
 by_cases hlt : i < a.size
 ·
  have hil : i < (ints a).length := by omega
  have hok := ints_ok a (ints a)[i] (List.getElem_mem hil)
  have hget : ((((ints a).take i).map upC ++ (ints a).drop i).map (Value.int .u8))[0 + i * 1]? = some (.int .u8 (ints a)[i]) := by
   rw [List.getElem?_map, show 0 + i * 1 = i by omega, List.getElem?_append_right (by simp; omega)]
   simp [Nat.min_eq_left (Nat.le_of_lt hil), List.getElem?_drop]
  have hstep : 97 ≤ (ints a)[i] ∧ (ints a)[i] ≤ 122 → upC (ints a)[i] = (ints a)[i] - 32 := fun h => by rw [upC, if_pos h]
  have hsame : ¬ (97 ≤ (ints a)[i] ∧ (ints a)[i] ≤ 122) → upC (ints a)[i] = (ints a)[i] := fun h => by rw [upC, if_neg h]
  have hupd := upd_step upC (Value.int .u8) (ints a) i hil
  have hkeep : ∀ v, (((ints a).take i).map upC ++ (ints a).drop i).map (Value.int .u8) = v → upC (ints a)[i] = (ints a)[i] → v = (((ints a).take (i + 1)).map upC ++ (ints a).drop (i + 1)).map (Value.int .u8) := fun v hv hs => by
   rw [← hupd, hs, ← hv]
   rw [show 0 + i * 1 = i by omega] at hget
   obtain ⟨h1, h2⟩ := List.getElem?_eq_some_iff.1 hget
   rw [← h2, List.set_getElem_self]
  generalize (ints a)[i] = c at hget hok hstep hsame hupd hkeep
  repeat' (first | ((with_reducible apply wl_v); exact rfl; (with_reducible apply v_indexAddr); exact rfl; exact rfl; exact hlt) | ((with_reducible apply wl_v); exact rfl; (with_reducible apply v_load_byt); exact rfl; exact pK; exact hget) | ((with_reducible apply wl_v (d := 31)); exact rfl; (with_reducible apply v_subw_id (c := c - 32)); exact rfl; exact rfl; exact wrap_u8 (by omega) (by omega)) | ((with_reducible apply wl_store_byt); exact rfl; exact rfl; exact pK; exact rfl; (simp; omega)) | refine sT ?_ | refine sS ?_ | refine sW ?_ | refine sN ?_ | refine sWN ?_ | refine sM fun _ => ?_ | (refine sC ?_ ?_ <;> intro hb <;> try omega) | (refine sCW ?_ ?_ <;> intro hb <;> try omega) | fail)
  ·
   rw [show 0 + i * 1 = i by omega, ← hstep ⟨by assumption, by assumption⟩, hupd]
   exact ⟨i + 1, hlt, by omega, sB, sB, mS⟩
  ·
   exact ⟨i + 1, hlt, by omega, sB, sB, (by rw [← hkeep _ rfl (hsame (by omega))]; exact mS)⟩
  ·
   exact ⟨i + 1, hlt, by omega, sB, sB, (by rw [← hkeep _ rfl (hsame (by omega))]; exact mS)⟩
 ·
  have e2 : i = a.size := by omega
  subst e2
  rw [List.take_of_length_le (by omega), List.drop_of_length_le (by omega), List.append_nil]
  repeat' (first | ((with_reducible apply wl_v (d := 34)); exact rfl; (with_reducible apply v_ofBytes); exact rfl; exact pK; (rw [List.length_map]; omega)) | refine sT ?_ | refine sS ?_ | refine sM fun _ => ?_ | (refine sC ?_ ?_ <;> intro hb <;> try omega) | fail)
  (refine rT1 ?_)
  rfl
end Go.SL
namespace Go.SL
open Go Go.Proofs
attribute [local irreducible] W WL WQ WG WA VOp thn blk cutP retP FnAt FnIn Held
def aT : List Nd := [k2, k3, j7, k6]
section
variable (w : World) (tv : Value) (h : Reads w tv 4 (aT.flatMap encN))
include h
end
end Go.SL

/-
  Lemmas and walks, put together: Q3 Q4 Q5 W15 W16.
-/
import Derived.Test.YtpohljcebgacjaaGreatDoorKe22
set_option linter.unusedSimpArgs false
set_option linter.unusedVariables false
set_option maxRecDepth 20000
namespace Go.SL
open Go Go.Proofs
attribute [local irreducible] W WL WQ WG WA WX WLI WR WT WC VOp RW thn blk cutP scp retP retPP endB FnAt FnIn FnP ceP
set_option maxHeartbeats 2000000 in
theorem rPercent_ok (f : Nat) (ihP : RPOK f .prim 272 []) : RPOK (f + 1) .pct 253 [] := by
  intro x k p B cb r R w0 hk hp hout hrun
  refine fn_in Tryz.func253 rfl Tryz.ntmps253 rfl ?_
  have hxt := x.ht
  dsimp only at hrun
  rw [runP] at hrun
  obtain ⟨r1, hr1, ⟨e, rfl, rfl⟩ | ⟨n1, p1, rfl, hr2⟩⟩ := thenP_inv hrun
  · repeat' (first | ((with_reducible apply wl_callin (f := 272)); exact rfl; exact rfl; exact FnIn.msub (ihP x k p B cb _ _ w0 hk hp hout hr1) (MSub.pick pK (MSub.pick pK (MSub.pick pK (MSub.refl _)))); rintro _ _ ⟨rfl, k1, B1, cb1, o1, h1, h2, h3, h4, rfl⟩) | refine sT ?_ | refine sS ?_ | refine sN ?_ | refine sM fun _ => ?_ | (refine sC ?_ ?_ <;> intro hb <;> try omega) | fail)
    refine w_loopK [0] rfl (fun _ : Unit => []) (fun _ => x.B k1 B1 cb1 o1 e.1 e.2 ++ R) (fun _ => True) (fun _ => 0) () trivial sB (MSub.refl _) ?_
    rintro ⟨⟩ _
    repeat' (first | refine sT ?_ | refine sS ?_ | refine sN ?_ | refine sM fun _ => ?_ | (refine sC ?_ ?_ <;> intro hb <;> try omega) | fail)
    all_goals first
      | (exfalso; omega)
      | exact absurd (by assumption) h1
      | exact rr_bad eIO rfl h1 h2 h3 h4 (MSub.refl _)
  · repeat' (first | ((with_reducible apply wl_callin (f := 272)); exact rfl; exact rfl; exact FnIn.msub (ihP x k p B cb _ _ w0 hk hp hout hr1) (MSub.pick pK (MSub.pick pK (MSub.pick pK (MSub.refl _)))); rintro _ _ ⟨rfl, k1, B1, cb1, h1, h2, h3, h4, rfl⟩) | refine sT ?_ | refine sS ?_ | refine sN ?_ | refine sM fun _ => ?_ | (refine sC ?_ ?_ <;> intro hb <;> try omega) | fail)
    refine w_loopK [0] rfl (fun _ : Nat × PS × Nat × Option Nat × Nat => []) (fun y => x.B y.2.2.1 y.2.2.2.1 y.2.2.2.2 y.2.1.out 0 0 ++ R) (fun y => y.2.2.1 ≤ x.toks.length ∧ y.2.1.l = x.toks.drop y.2.2.1 ∧ k ≤ y.2.2.1 ∧ y.2.1.out.length + k ≤ p.out.length + y.2.2.1 ∧ runP x.fin y.1 .pctl y.2.1 = some r) (fun y => y.1) (f, p1, k1, B1, cb1) ⟨h1, h2, h3, h4, hr2⟩ sB (MSub.refl _) ?_
    clear hr1 hr2 h1 h2 h3 h4
    rintro ⟨f', q, k2, B2, cb2⟩ ⟨h1, h2, h3, h4, hr2⟩
    dsimp only at h1 h2 h3 h4 hr2 ⊢
    cases f' with
    | zero => cases hr2
    | succ f' =>
      rw [runP] at hr2
      try dsimp only at hr2
      obtain ⟨u, hu⟩ : ∃ u, hdT x.fin q.l = u := ⟨_, rfl⟩
      rw [hu] at hr2
      have hd1 : hdT x.fin (x.toks.drop k2) = u := h2 ▸ hu
      by_cases hk3 : u.kind = 8 ∧ u.num = 13
      · rw [if_pos hk3] at hr2
        have hlt1 := Cx.lt hd1 (by omega)
        repeat' (first | ((with_reducible apply wl_callp (f := 218)); exact rfl; exact rfl; exact fun w hm => Cx.op hd1 7 (B := B2) (cb := cb2) (out := q.out) (at_ := 0) (e := 0) (MSub.pick pK (MSub.pick pK (MSub.pick pK (MSub.nil _)))) w hm) | ((with_reducible apply wl_append1); (iterate 3 exact rfl); exact pK; exact pK; exact rfl; (simp [encN, Value.oneCell']); omega; (simp only [maxLen]; omega); intro g8 c8) | refine sT ?_ | refine sS ?_ | refine sN ?_ | refine sM fun _ => ?_ | (refine sC ?_ ?_ <;> intro hb <;> try omega) | fail)
        all_goals first
          | (exfalso; omega)
          | (exfalso; simp_all [binds7]; done)
          | (refine ⟨(f', q.skip.put (nodeOp 5 0), k2 + 1, some g8, c8), ⟨hlt1, Cx.skip h2, by dsimp only; omega, by simp only [PS.put, PS.skip, List.length_append, List.length_singleton]; omega, hr2⟩, Nat.lt_succ_self _, sB, sB, ?_⟩
             simp only [PS.put, PS.skip, Cx.B, rB, List.length_append, List.length_singleton, List.flatMap_append, List.flatMap_cons, List.flatMap_nil, List.append_nil, List.cons_append, List.nil_append]
             exact mS)
      · rw [if_neg hk3] at hr2
        cases hr2
        repeat' (first | ((with_reducible apply wl_callp (f := 218)); exact rfl; exact rfl; exact fun w hm => Cx.op hd1 7 (B := B2) (cb := cb2) (out := q.out) (at_ := 0) (e := 0) (MSub.pick pK (MSub.pick pK (MSub.pick pK (MSub.nil _)))) w hm) | refine sT ?_ | refine sS ?_ | refine sN ?_ | refine sM fun _ => ?_ | (refine sC ?_ ?_ <;> intro hb <;> try omega) | fail)
        all_goals first
          | (exfalso; omega)
          | (exfalso; simp_all [binds7]; done)
          | exact rr_ok eIO rfl h1 h2 h3 h4 (MSub.refl _)
structure Lv where
 f : Nat
 k : Nat
 B : Option Nat
 cb : Nat
 out : List Nd
 a : Int
 e : Int
def Lv.H (y : Lv) (x : Cx) (R : List Blk) : List Blk := x.B y.k y.B y.cb y.out y.a y.e ++ R
def Lv.ok (y : Lv) (x : Cx) (j : Nat → PS → Option Out) (k m : Nat) (r : Out) (f : Nat) : Prop := y.f ≤ f ∧ k ≤ y.k ∧ y.out.length + k ≤ m + y.k ∧
 ((y.a = 0 ∧ y.e = 0 ∧ y.k ≤ x.toks.length ∧ j y.f ⟨x.toks.drop y.k, y.out⟩ = some r) ∨ (y.e ≠ 0 ∧ y.k ≤ x.toks.length + 1 ∧ r = .error (y.a, y.e)))
def Lv.m (y : Lv) : Nat := if y.e = 0 then y.f + 1 else 0
theorem lv_start {x : Cx} {R H : List Blk} {v : Value} {f k m k0 m0 : Nat} {r r1 : Out} {j : Nat → PS → Option Out} (hr2 : (∃ e, r1 = .error e ∧ r = .error e) ∨ (∃ n p', r1 = .ok (n, p') ∧ j f p' = some r)) (hR : RR x k0 m0 R r1 v H) (hk : k ≤ k0) (hm : m0 + k ≤ m + k0) : ∃ f2 k2 B2 cb2 o2 a2 e2, (Lv.mk f2 k2 B2 cb2 o2 a2 e2).ok x j k m r f ∧ H = x.B k2 B2 cb2 o2 a2 e2 ++ R := by
 obtain ⟨_, hR⟩ := hR
 rcases hr2 with ⟨e, rfl, rfl⟩ | ⟨n1, p1, rfl, hr2⟩
 ·
  obtain ⟨k1, B1, cb1, o1, h1, h2, h3, h4, rfl⟩ := hR
  exact ⟨f, k1, B1, cb1, o1, e.1, e.2, ⟨Nat.le_refl _, by dsimp only; omega, by dsimp only; omega, .inr ⟨h1, h2, rfl⟩⟩, rfl⟩
 ·
  obtain ⟨k1, B1, cb1, h1, h2, h3, h4, rfl⟩ := hR
  refine ⟨f, k1, B1, cb1, p1.out, 0, 0, ⟨Nat.le_refl _, by dsimp only; omega, by dsimp only; omega, .inl ⟨rfl, rfl, h1, ?_⟩⟩, rfl⟩
  dsimp only
  rw [← h2]; exact hr2
set_option maxHeartbeats 4000000 in
theorem rLevel_ok (f : Nat) (q : Int) (h1q : 1 ≤ q) (h5q : q ≤ 5) (ihL : q ≤ 4 → ∀ f' ≤ f, RPOK f' (.level (q + 1)) 173 [.int .i64 (q + 1)]) (ihS : RPOK f .sign 217 []) : RPOK (f + 1) (.level q) 173 [.int .i64 q] := by
 intro x k p B cb r R w0 hk hp hout hrun
 refine fn_in Tryz.func173 rfl Tryz.ntmps173 rfl ?_
 have hxt := x.ht
 dsimp only at hrun
 rw [runP] at hrun
 by_cases hq5 : q = 5
 ·
  rw [if_pos hq5] at hrun
  subst hq5
  repeat' (first | ((with_reducible apply wl_callin (f := 217)); exact rfl; exact rfl; exact FnIn.msub (ihS x k p B cb _ _ w0 hk hp hout hrun) (MSub.pick pK (MSub.pick pK (MSub.pick pK (MSub.refl _)))); rintro _ _ ⟨rfl, hR⟩) | refine sT ?_ | refine sS ?_ | refine sN ?_ | refine sM fun _ => ?_ | (refine sC ?_ ?_ <;> intro hb <;> try omega) | fail)
  all_goals exact ret0 eIO rfl (MSub.refl _) ⟨rfl, hR⟩
 rw [if_neg hq5] at hrun
 have ihL := ihL (by omega)
 obtain ⟨r1, hr1, hr2⟩ := thenP_inv hrun
 repeat' (first | ((with_reducible apply wl_v (d := 11)); exact rfl; (with_reducible apply v_add); exact rfl; exact rfl; exact ⟨by omega, by omega⟩) | ((with_reducible apply wl_callin (f := 173)); exact rfl; exact rfl; exact FnIn.msub (ihL f (Nat.le_refl _) x k p B cb r1 _ w0 hk hp hout hr1) (MSub.pick pK (MSub.pick pK (MSub.pick pK (MSub.refl _)))); rintro v1 H1 hR) | refine sT ?_ | refine sS ?_ | refine sN ?_ | refine sM fun _ => ?_ | (refine sC ?_ ?_ <;> intro hb <;> try omega) | fail)
 all_goals first | (exfalso; omega) | skip
 obtain ⟨f0, k0, B0, cb0, o0, a0, e0, hy0, rfl⟩ := lv_start (j := fun f p => runP x.fin f (.loop q) p) hr2 hR (Nat.le_refl k) (Nat.le_refl _)
 clear hr1 hr2 hR hrun
 refine w_loopK [0, 1] rfl (fun _ : Lv => []) (fun y => y.H x R) (fun y => y.ok x (fun f p => runP x.fin f (.loop q) p) k p.out.length r f) Lv.m ⟨f0, k0, B0, cb0, o0, a0, e0⟩ hy0 sB (MSub.refl _) ?_
 rintro ⟨f', k1, B1, cb1, o1, a, e⟩ ⟨hf', h3, h4, hor⟩
 dsimp only at hf' h3 h4 hor
 simp only [Lv.H]
 rcases hor with ⟨rfl, rfl, h1, hr2⟩ | ⟨h1, h2, rfl⟩
 ·
  cases f' with
  | zero => cases hr2
  | succ f' =>
   rw [runP] at hr2
   try dsimp only at hr2
   obtain ⟨u, hd1⟩ : ∃ u, hdT x.fin (x.toks.drop k1) = u := ⟨_, rfl⟩
   rw [hd1] at hr2
   by_cases hk3 : u.kind = 8 ∧ bindsE u.num = q
   ·
    rw [if_pos hk3] at hr2
    have hlt1 := Cx.lt hd1 (by omega)
    obtain ⟨r2, hr3, hr4⟩ := thenP_inv hr2
    repeat' (first | ((with_reducible apply wl_callp (f := 218)); exact rfl; exact rfl; exact fun w hm => Cx.op hd1 q (B := B1) (cb := cb1) (out := o1) (at_ := 0) (e := 0) (MSub.pick pK (MSub.pick pK (MSub.pick pK (MSub.nil _)))) w hm) | ((with_reducible apply wl_callp (f := 175)); exact rfl; exact rfl; exact fun w hm => Cx.next hd1 (B := B1) (cb := cb1) (out := o1) (at_ := 0) (e := 0) (MSub.pick pK (MSub.pick pK (MSub.pick pK (MSub.nil _)))) w hm) | ((with_reducible apply wl_v); exact rfl; (with_reducible apply v_field); exact rfl; exact rfl) | ((with_reducible apply wl_v (d := 35)); exact rfl; (with_reducible apply v_add); exact rfl; exact rfl; exact ⟨by omega, by omega⟩) | ((with_reducible apply wl_callin (f := 173)); exact rfl; exact rfl; exact FnIn.msub (ihL f' (by omega) x (k1 + 1) ⟨x.toks.drop (k1 + 1), o1⟩ B1 cb1 r2 _ w0 hlt1 rfl (by dsimp only; omega) (by rw [← List.tail_drop]; exact hr3)) (MSub.pick pK (MSub.pick pK (MSub.pick pK (MSub.refl _)))); rintro v1 H1 hR; obtain ⟨f2, k2, B2, cb2, o2, a2, e2, ⟨hy1, hy2, hy3, hy4⟩, rfl⟩ := lv_start (k := k + 1) (m := p.out.length) (j := fun f p => runP x.fin f (.loop q) (p.put (nodeOp 6 u.num))) hr4 hR (by omega) (by dsimp only; omega); dsimp only at hy1 hy2 hy3 hy4; have hkb : k2 ≤ 257 := by { rcases hy4 with ⟨_, _, h, _⟩ | ⟨_, h, _⟩ <;> omega }) | ((with_reducible apply wl_append1); (iterate 3 exact rfl); exact pK; exact pK; exact rfl; (simp [encN, Value.oneCell']); omega; (simp only [maxLen]; omega); intro g8 c8) | refine sT ?_ | refine sS ?_ | refine sN ?_ | refine sM fun _ => ?_ | (refine sC ?_ ?_ <;> intro hb <;> try omega) | fail)
    all_goals first
     | (exfalso; omega)
     | (exfalso; simp_all; done)
     | skip
    refine ⟨⟨f2, k2, some g8, c8, o2 ++ [nodeOp 6 u.num], a2, e2⟩, ⟨by dsimp only; omega, by dsimp only; omega, by simp only [List.length_append, List.length_singleton]; omega, hy4⟩, (by simp only [Lv.m, if_true]; split <;> omega), sB, sB, ?_⟩
    simp only [Lv.H, Cx.B, rB, List.length_append, List.length_singleton, List.flatMap_append, List.flatMap_cons, List.flatMap_nil, List.append_nil, List.cons_append, List.nil_append]
    exact mS
   ·
    rw [if_neg hk3] at hr2
    cases hr2
    repeat' (first | ((with_reducible apply wl_callp (f := 218)); exact rfl; exact rfl; exact fun w hm => Cx.op hd1 q (B := B1) (cb := cb1) (out := o1) (at_ := 0) (e := 0) (MSub.pick pK (MSub.pick pK (MSub.pick pK (MSub.nil _)))) w hm) | refine sT ?_ | refine sS ?_ | refine sN ?_ | refine sM fun _ => ?_ | (refine sC ?_ ?_ <;> intro hb <;> try omega) | fail)
    all_goals first
     | (exfalso; omega)
     | (exfalso; simp_all; done)
     | exact rr_ok (p' := ⟨x.toks.drop k1, o1⟩) eIO rfl h1 rfl h3 h4 (MSub.refl _)
 ·
  repeat' (first | refine sT ?_ | refine sS ?_ | refine sN ?_ | refine sM fun _ => ?_ | (refine sC ?_ ?_ <;> intro hb <;> try omega) | fail)
  all_goals first
   | (exfalso; omega)
   | exact absurd (by assumption) h1
   | exact rr_bad (x' := (a, e)) eIO rfl h1 h2 h3 h4 (MSub.refl _)
set_option maxHeartbeats 2000000 in
theorem rArgument_ok (f : Nat) (fn : Int) (n : Nat) (h0 : 1 ≤ fn) (h5 : fn ≤ 50) (ih : RPOK f (.level 1) 173 [.int .i64 1]) : RPOKg (argP f fn n) 302 [.int .u8 fn, .int .i64 n] := by
  intro x k p B cb r R w0 hk hp hout hrun
  refine fn_in Tryz.func302 rfl Tryz.ntmps302 rfl ?_
  have hxt := x.ht
  unfold argP at hrun
  obtain ⟨t, ht⟩ : ∃ t, hdT x.fin p.l = t := ⟨_, rfl⟩
  rw [ht] at hrun
  have hd : hdT x.fin (x.toks.drop k) = t := hp ▸ ht
  have hN := fun w hm => Cx.next hd (B := B) (cb := cb) (out := p.out) (at_ := 0) (e := 0) (w0 := w0) (H := x.B k B cb p.out 0 0 ++ R) ⟨R, .refl _⟩ w hm
  by_cases hk2 : t.kind ≠ 6
  · rw [if_pos hk2] at hrun
    obtain ⟨r1, hr1, hr2⟩ := thenP_inv hrun
    have hrr : ∀ v H, RR x k p.out.length R r1 v H → RR x k p.out.length R r v H := by
      rintro v H ⟨hv, h⟩
      rcases hr2 with ⟨e, rfl, rfl⟩ | ⟨n1, p1, rfl, hr2⟩
      · exact ⟨hv, h⟩
      · cases hr2; exact ⟨hv, h⟩
    repeat' (first | ((with_reducible apply wl_callp (f := 175)); exact rfl; exact rfl; exact hN) | ((with_reducible apply wl_callin (f := 173)); exact rfl; exact rfl; exact FnIn.msub (ih x k p B cb r1 _ w0 hk hp hout hr1) (MSub.pick pK (MSub.pick pK (MSub.pick pK (MSub.refl _)))); rintro v1 H1 hR) | refine sT ?_ | refine sS ?_ | refine sN ?_ | refine sM fun _ => ?_ | (refine sC ?_ ?_ <;> intro hb <;> try omega) | fail)
    all_goals first | (exfalso; omega) | skip
    obtain ⟨rfl, hR⟩ := hR
    rcases hr2 with ⟨e, rfl, rfl⟩ | ⟨n1, p1, rfl, hr2⟩
    · obtain ⟨k1, B1, cb1, o1, j1, j2, j3, j4, rfl⟩ := hR
      refine rr_bad (k' := k1) (out' := o1) (B' := B1) (cb' := cb1) eIO rfl j1 j2 j3 j4 ?_
      simp only [Cx.B, rB, List.append_eq, List.cons_append, List.nil_append]
      exact mS
    · cases hr2
      obtain ⟨k1, B1, cb1, j1, j2, j3, j4, rfl⟩ := hR
      refine rr_ok (k' := k1) (p' := p1) (B' := B1) (cb' := cb1) eIO rfl j1 j2 j3 j4 ?_
      simp only [Cx.B, rB, List.append_eq, List.cons_append, List.nil_append]
      exact mS
  rw [if_neg hk2] at hrun
  have hlt := Cx.lt hd (by omega)
  have hW := fun w => refWide_at fn (n : Int) w
  have hwk := wide_known (fn := fn) (by simp [knownF, h0, h5]) (n : Int)
  have hwe : ((wideF fn n).1 = false ∨ (wideF fn n).2 ≠ 0) ↔ refWideE fn n = false := by
    rw [hwk]
    dsimp only
    constructor
    · rintro (h | h)
      · exact h
      · have h2 : (n : Int) < 0 ∨ (refArityE fn).2 ≤ (n : Int) := Classical.byContradiction fun hn => h (if_neg hn)
        unfold refWideE
        rw [if_pos h2]
    · exact .inl
  clear hwk
  by_cases hwk : (wideF fn n).1 = false ∨ (wideF fn n).2 ≠ 0
  · rw [if_pos hwk] at hrun
    cases hrun
    rw [hwe.1 hwk] at hW
    repeat' (first | ((with_reducible apply wl_callp (f := 175)); exact rfl; exact rfl; exact hN) | ((with_reducible apply wl_callp (f := 291)); exact rfl; exact rfl; (intro w' _; exact hW w')) | ((with_reducible apply wl_callin (f := 174)); exact rfl; exact rfl; exact FnIn.msub (rFault_at x.g x.sa x.A _ x.cap k B _ cb 0 0 _ _ _ _) (MSub.pick pK (.refl _)); rintro _ _ ⟨rfl, rfl⟩) | refine sT ?_ | refine sS ?_ | refine sN ?_ | refine sM fun _ => ?_ | (refine sC ?_ ?_ <;> intro hb <;> try omega) | fail)
    all_goals first
      | (exfalso; omega)
      | (refine rr_bad (x' := (t.at_, 4)) (k' := k) (out' := p.out) (B' := B) (cb' := cb) eIO rfl (by simp) (by omega) (Nat.le_refl _) (Nat.le_refl _) ?_
         simp only [Cx.B, rB, List.append_eq, List.cons_append, List.nil_append]
         exact mS)
  · rw [if_neg hwk] at hrun
    cases hrun
    have hwt : refWideE fn n = true := by
      cases h : refWideE fn n with
      | true => rfl
      | false => exact absurd (hwe.2 h) hwk
    rw [hwt] at hW
    repeat' (first | ((with_reducible apply wl_callp (f := 175)); exact rfl; exact rfl; exact hN) | ((with_reducible apply wl_callp (f := 291)); exact rfl; exact rfl; (intro w' _; exact hW w')) | refine sT ?_ | refine sS ?_ | refine sN ?_ | refine sM fun _ => ?_ | (refine sC ?_ ?_ <;> intro hb <;> try omega) | fail)
    all_goals first | (exfalso; omega) | skip
    refine w_drawA 13 rfl (by kernel_rfl) ?_
    ((with_reducible apply wa_pure (i := 0)); exact rfl; exact rfl; decide +kernel; decide +kernel; decide +kernel; exact nP; (intro _ _; exact vP))
    ((with_reducible apply wa_pure (i := 1)); exact rfl; exact rfl; decide +kernel; decide +kernel; decide +kernel; exact nP; (intro _ _; exact vP))
    ((with_reducible apply wa_pure (i := 2)); exact rfl; exact rfl; decide +kernel; decide +kernel; decide +kernel; exact nP; (intro _ _; exact vP))
    ((with_reducible apply wa_pure (i := 3)); exact rfl; exact rfl; decide +kernel; decide +kernel; decide +kernel; exact nP; (intro _ _; exact vP))
    ((with_reducible apply wa_pure (i := 5)); exact rfl; exact rfl; decide +kernel; decide +kernel; decide +kernel; exact nP; (intro _ _; exact vP))
    repeat' (first | ((with_reducible apply wa_two (i := 4) (j := 6)); exact rfl; exact rfl; decide +kernel) | ((with_reducible apply wa_two (i := 4) (j := 7)); exact rfl; exact rfl; decide +kernel) | ((with_reducible apply wa_two (i := 4) (j := 8)); exact rfl; exact rfl; decide +kernel) | ((with_reducible apply wa_one (i := 4)); exact rfl; decide +kernel) | ((with_reducible apply wa_one (i := 5)); exact rfl; decide +kernel) | ((with_reducible apply wa_one (i := 6)); exact rfl; decide +kernel) | ((with_reducible apply wa_one (i := 7)); exact rfl; decide +kernel) | ((with_reducible apply wa_one (i := 8)); exact rfl; decide +kernel) | ((with_reducible apply wa_one (i := 9)); exact rfl; decide +kernel) | ((with_reducible apply wa_one (i := 10)); exact rfl; decide +kernel) | ((with_reducible apply wa_one (i := 11)); exact rfl; decide +kernel) | ((with_reducible apply wa_one (i := 12)); exact rfl; decide +kernel) | ((with_reducible apply wa_done); decide +kernel) | ((with_reducible apply wl_append1); (iterate 3 exact rfl); exact pK; exact pK; exact rfl; (simp [encN, Value.oneCell']); omega; (simp only [maxLen]; omega); intro g8 c8) | refine sT ?_ | refine sS ?_ | refine sN ?_ | refine sM fun _ => ?_ | (refine sC ?_ ?_ <;> intro hb <;> try omega) | fail)
    all_goals first
      | (exfalso; omega)
      | (refine rr_ok (k' := k + 1) (p' := p.skip.put ⟨3, zeroV, t.rect, 0, 0, 0⟩) (B' := some g8) (cb' := c8) eIO rfl hlt (Cx.skip hp) (Nat.le_succ k) (by simp only [PS.put, PS.skip, List.length_append, List.length_singleton]; omega) ?_
         simp only [PS.put, PS.skip, Cx.B, rB, List.length_append, List.length_singleton, List.flatMap_append, List.flatMap_cons, List.flatMap_nil, List.append_nil, List.append_eq, List.cons_append, List.nil_append]
         exact mS)
def Lv.end (y : Lv) (x : Cx) (t : Tk) (fn : Int) (n k m : Nat) (r : Out) : Prop := n ≤ 1000 ∧ k ≤ y.k ∧ y.out.length + k ≤ m + y.k ∧
 ((y.a = 0 ∧ y.e = 0 ∧ y.k ≤ x.toks.length ∧ n ≤ y.out.length ∧ endCall x.fin t fn n ⟨x.toks.drop y.k, y.out⟩ = some r) ∨ (y.e ≠ 0 ∧ y.k ≤ x.toks.length + 1 ∧ r = .error (y.a, y.e)))
def Lv.arg (y : Lv) (x : Cx) (fn : Int) (n k m : Nat) (r : Out) (f : Nat) : Prop := y.f ≤ f ∧ n ≤ 1000 ∧ k ≤ y.k ∧ y.out.length + k ≤ m + y.k ∧
 ((y.a = 0 ∧ y.e = 0 ∧ y.k ≤ x.toks.length ∧ n ≤ y.out.length ∧ (if (hdT x.fin (x.toks.drop y.k)).kind = 11 then runP x.fin y.f (.args fn n) ⟨x.toks.drop (y.k + 1), y.out⟩ else some (.ok (n, ⟨x.toks.drop y.k, y.out⟩))) = some r) ∨ (y.e ≠ 0 ∧ y.k ≤ x.toks.length + 1 ∧ r = .error (y.a, y.e)))
theorem arg_start {x : Cx} {R H : List Blk} {v : Value} {f f' k m k0 m0 n : Nat} {fn : Int} {p : PS} {r r1 : Out} (hf : f ≤ f') (hr1 : argP f fn n x.fin p = some r1) (hm0 : p.out.length = m0) (hn : n ≤ m0) (hm6 : m0 ≤ 500)
  (hr2 : (∃ e, r1 = .error e ∧ r = .error e) ∨ (∃ n' p', r1 = .ok (n', p') ∧ (if (hdT x.fin p'.l).kind = 11 then runP x.fin f (.args fn (n + 1)) p'.skip else some (.ok (n + 1, p'))) = some r)) (hR : RR x k0 m0 R r1 v H) (hk : k ≤ k0) (hm : m0 + k ≤ m + k0) :
  ∃ f2 k2 B2 cb2 o2 a2 e2, (Lv.mk f2 k2 B2 cb2 o2 a2 e2).arg x fn (n + 1) k m r f' ∧ f2 ≤ f ∧ H = x.B k2 B2 cb2 o2 a2 e2 ++ R := by
 obtain ⟨_, hR⟩ := hR
 rcases hr2 with ⟨e, rfl, rfl⟩ | ⟨n1, p1, rfl, hr2⟩
 ·
  obtain ⟨k1, B1, cb1, o1, h1, h2, h3, h4, rfl⟩ := hR
  exact ⟨f, k1, B1, cb1, o1, e.1, e.2, ⟨hf, by omega, by dsimp only; omega, by dsimp only; omega, .inr ⟨h1, h2, rfl⟩⟩, Nat.le_refl _, rfl⟩
 ·
  obtain ⟨k1, B1, cb1, h1, h2, h3, h4, rfl⟩ := hR
  have hg := argP_grew hr1
  refine ⟨f, k1, B1, cb1, p1.out, 0, 0, ⟨hf, by omega, by dsimp only; omega, by dsimp only; omega, .inl ⟨rfl, rfl, h1, by dsimp only; omega, ?_⟩⟩, Nat.le_refl _, rfl⟩
  dsimp only
  rw [h2] at hr2
  have e1 : p1.skip = ⟨x.toks.drop (k1 + 1), p1.out⟩ := by simp only [PS.skip, h2, List.tail_drop]
  have e2 : p1 = ⟨x.toks.drop k1, p1.out⟩ := by obtain ⟨l, o⟩ := p1; simp only at h2; rw [h2]
  rw [e1] at hr2
  rw [← e2]
  exact hr2
set_option maxHeartbeats 4000000 in
theorem rCall_ok (f : Nat) (t : Tk) (ih : ∀ f' ≤ f, RPOK f' (.level 1) 173 [.int .i64 1]) (x : Cx) (k : Nat) (p : PS) (B : Option Nat) (cb : Nat) (r : Out) (R : List Blk) (w0 : World) (hk : k < x.toks.length) (hp : p.l = x.toks.drop k) (hout : p.out.length ≤ k) (ht : hdT x.fin p.l = t) (ht7 : t.kind = 7) (hrun : callP f t x.fin p = some r) :
    FnIn Tryz.prog 288 [.pointer (some ⟨x.g, 0, none⟩), .agg (encTk t).toArray] w0 (x.B (k + 1) B cb p.out 0 0 ++ R) (RR x (k + 1) p.out.length R r) := by
  refine fn_in Tryz.func288 rfl Tryz.ntmps288 rfl ?_
  have hxt := x.ht
  have hF := fun w => refFunction_at t.text w
  have h9 : (hdT x.fin p.skip.l).kind = 9 := by
    have hc := x.hc.drop k
    rw [← hp] at hc
    exact hc.name (by rw [ht]; exact ht7)
  have hd9 : ∃ u, hdT x.fin (x.toks.drop (k + 1)) = u ∧ u.kind = 9 := ⟨_, rfl, by rw [← Cx.skip hp]; exact h9⟩
  obtain ⟨u9, hd9, hu9⟩ := hd9
  have hlt9 := Cx.lt hd9 (by omega)
  unfold callP at hrun
  have hfn : (functionE t.text).2 = 0 → 1 ≤ (functionE t.text).1 ∧ (functionE t.text).1 ≤ 50 := by
    intro h
    have hb1 := idxFrom_bound namesL t.text 0 (by omega)
    rw [namesL_length] at hb1
    unfold functionE at h ⊢
    split at h
    · cases h
    · rename_i hne
      rw [if_neg hne]
      dsimp only
      omega
  obtain ⟨fn, fe, hfe⟩ : ∃ fn fe, functionE t.text = (fn, fe) := ⟨_, _, rfl⟩
  rw [hfe] at hrun hF hfn
  dsimp only at hF hfn
  by_cases h0 : fe ≠ 0
  · rw [if_pos h0] at hrun
    cases hrun
    repeat' (first | ((with_reducible apply wl_callp (f := 301)); exact rfl; exact rfl; (intro w' _; exact hF w')) | ((with_reducible apply wl_callin (f := 174)); exact rfl; exact rfl; exact FnIn.msub (rFault_at x.g x.sa x.A _ x.cap (k + 1) B _ cb 0 0 _ _ _ _) (MSub.pick pK (.refl _)); rintro _ _ ⟨rfl, rfl⟩) | refine sT ?_ | refine sS ?_ | refine sN ?_ | refine sM fun _ => ?_ | (refine sC ?_ ?_ <;> intro hb <;> try omega) | exact cT | fail)
    all_goals first
      | (exfalso; omega)
      | (refine rr_bad (x' := (t.at_, 10)) (k' := k + 1) (out' := p.out) (B' := B) (cb' := cb) eIO rfl (by simp) (by omega) (Nat.le_refl _) (Nat.le_refl _) ?_
         simp only [Cx.B, rB, List.append_eq, List.cons_append, List.nil_append]
         exact mS)
  rw [if_neg h0] at hrun
  have hfe0 : fe = 0 := Classical.not_not.1 h0
  subst hfe0
  obtain ⟨hf1, hf2⟩ := hfn rfl
  rw [if_neg (by rw [h9]; simp)] at hrun
  have hp2 : p.skip.skip.l = x.toks.drop (k + 1 + 1) := Cx.skip (Cx.skip hp)
  obtain ⟨u, hd⟩ : ∃ u, hdT x.fin (x.toks.drop (k + 1 + 1)) = u := ⟨_, rfl⟩
  rw [hp2, hd] at hrun
  have e2 : p.skip.skip = ⟨x.toks.drop (k + 1 + 1), p.out⟩ := by
    have : p.skip.skip = ⟨p.skip.skip.l, p.out⟩ := rfl
    rw [this, hp2]
  rw [e2] at hrun
  repeat' (first | ((with_reducible apply wl_callp (f := 301)); exact rfl; exact rfl; (intro w' _; exact hF w')) | ((with_reducible apply wl_callin (f := 287)); exact rfl; exact rfl; exact FnIn.msub (rWant_ok 9 (Nat.le_trans x.hsa (by decide)) (Nat.le_trans x.ht (by decide)) (by omega) (B := B) (cb := cb) (out := p.out) (at_ := 0) (e := 0) (g := x.g) (A := x.A) (cap := x.cap) hd9 hu9 _ w0) (MSub.pick pK (MSub.pick pK (MSub.pick pK (MSub.refl _)))); rintro _ _ ⟨rfl, rfl⟩) | (rename_i g3; refine w_cutRK (id := 6) (ι := Nat × Lv) [0, 3, 4] rfl (fun y => [(6, .int .i64 (y.1 : Int))]) (fun y => .box g3 216 (encTk t) :: y.2.H x R) (fun y => y.2.end x t fn y.1 (k + 1 + 1) p.out.length r) ?_ ?_) | refine sT ?_ | refine sS ?_ | refine sN ?_ | refine sM fun _ => ?_ | (refine sC ?_ ?_ <;> intro hb <;> try omega) | exact cT | fail)
  · by_cases h10 : u.kind = 10
    · rw [if_pos h10] at hrun
      repeat' (first | ((with_reducible apply wl_v); exact rfl; (with_reducible apply v_field); exact rfl; exact rfl) | ((with_reducible apply wl_callp (f := 175)); exact rfl; exact rfl; exact fun w hm => Cx.next hd (B := B) (cb := cb) (out := p.out) (at_ := 0) (e := 0) (MSub.pick pK (MSub.pick pK (MSub.pick pK (MSub.nil _)))) w hm) | (refine cut_n (0, ⟨0, k + 1 + 1, B, cb, p.out, 0, 0⟩) ?_ sB (by simp only [Lv.H, Cx.B, rB, List.cons_append, List.nil_append]; exact mS)) | refine sT ?_ | refine sS ?_ | refine sN ?_ | refine sM fun _ => ?_ | (refine sC ?_ ?_ <;> intro hb <;> try omega) | exact cT | fail)
      all_goals first | (exfalso; omega) | exact ⟨Nat.zero_le _, Nat.le_refl _, by dsimp only; omega, .inl ⟨rfl, rfl, by dsimp only; omega, Nat.zero_le _, hrun⟩⟩
    · rw [if_neg h10] at hrun
      obtain ⟨r0, hr0, hrend⟩ := thenP_inv hrun
      cases f with
      | zero => cases hr0
      | succ f =>
        rw [args_eq] at hr0
        obtain ⟨r1, hr1, hr2⟩ := thenP_inv hr0
        have hA0 := rArgument_ok f fn 0 hf1 hf2 (ih f (Nat.le_succ f))
        repeat' (first | ((with_reducible apply wl_v); exact rfl; (with_reducible apply v_field); exact rfl; exact rfl) | ((with_reducible apply wl_callp (f := 175)); exact rfl; exact rfl; exact fun w hm => Cx.next hd (B := B) (cb := cb) (out := p.out) (at_ := 0) (e := 0) (MSub.pick pK (MSub.pick pK (MSub.pick pK (MSub.nil _)))) w hm) | ((with_reducible apply wl_callin (f := 302)); exact rfl; exact rfl; exact FnIn.msub (hA0 x (k + 1 + 1) ⟨x.toks.drop (k + 1 + 1), p.out⟩ B cb r1 _ w0 (by omega) rfl (by dsimp only; omega) hr1) (MSub.pick pK (MSub.pick pK (MSub.pick pK (MSub.refl _)))); rintro v1 H1 hR; obtain ⟨f2, k2, B2, cb2, o2, a2, e2, hy, _, rfl⟩ := arg_start (f' := f) (k := k + 1 + 1) (m := p.out.length) (Nat.le_refl _) hr1 rfl (Nat.zero_le _) (by dsimp only; omega) hr2 hR (Nat.le_refl _) (Nat.le_refl _)) | refine sT ?_ | refine sS ?_ | refine sN ?_ | refine sM fun _ => ?_ | (refine sC ?_ ?_ <;> intro hb <;> try omega) | exact cT | fail)
        all_goals first | (exfalso; omega) | skip
        refine w_loopK [0, 3, 4] rfl (fun y : Nat × Lv => [(6, .int .i64 (y.1 : Int))]) (fun y => .box g3 216 (encTk t) :: y.2.H x R) (fun y => y.2.arg x fn y.1 (k + 1 + 1) p.out.length r0 f) (fun y => y.2.m) (1, ⟨f2, k2, B2, cb2, o2, a2, e2⟩) hy sB (by simp only [Lv.H, Cx.B, rB, List.append_eq, List.cons_append, List.nil_append]; exact mS) ?_
        clear hy hR hr1 hr2 hr0
        rintro ⟨n, f', k1, B1, cb1, o1, a, e⟩ ⟨hf', hn, h3, h4, hor⟩
        dsimp only at hf' hn h3 h4 hor
        simp only [Lv.H]
        rcases hor with ⟨rfl, rfl, h1, hno, hr2⟩ | ⟨h1, h2, rfl⟩
        · obtain ⟨u1, hd1⟩ : ∃ u, hdT x.fin (x.toks.drop k1) = u := ⟨_, rfl⟩
          rw [hd1] at hr2
          by_cases h11 : u1.kind = 11
          · rw [if_pos h11] at hr2
            have hlt1 := Cx.lt hd1 (by omega)
            cases f' with
            | zero => cases hr2
            | succ f' =>
              rw [args_eq] at hr2
              obtain ⟨r2, hr3, hr4⟩ := thenP_inv hr2
              have hA1 := rArgument_ok f' fn n hf1 hf2 (ih f' (by omega))
              repeat' (first | ((with_reducible apply wl_v); exact rfl; (with_reducible apply v_field); exact rfl; exact rfl) | ((with_reducible apply wl_callp (f := 175)); exact rfl; exact rfl; exact fun w hm => Cx.next hd1 (B := B1) (cb := cb1) (out := o1) (at_ := 0) (e := 0) (MSub.pick pK (MSub.pick pK (MSub.pick pK (MSub.nil _)))) w hm) | ((with_reducible apply wl_callin (f := 302)); exact rfl; exact rfl; exact FnIn.msub (hA1 x (k1 + 1) ⟨x.toks.drop (k1 + 1), o1⟩ B1 cb1 r2 _ w0 hlt1 rfl (by dsimp only; omega) hr3) (MSub.pick pK (MSub.pick pK (MSub.pick pK (MSub.refl _)))); rintro v1 H1 hR; obtain ⟨f2, k2, B2, cb2, o2, a2, e2, hy, hff, rfl⟩ := arg_start (f' := f) (k := k + 1 + 1) (m := p.out.length) (by omega) hr3 rfl hno (by dsimp only; omega) hr4 hR (by omega) (by dsimp only; omega)) | refine sT ?_ | refine sS ?_ | refine sN ?_ | refine sM fun _ => ?_ | (refine sC ?_ ?_ <;> intro hb <;> try omega) | exact cT | fail)
              all_goals first | (exfalso; omega) | (exfalso; simp_all; done) | skip
              refine ⟨(n + 1, ⟨f2, k2, B2, cb2, o2, a2, e2⟩), hy, (by simp only [Lv.m, if_true]; split <;> omega), sB, sB, ?_⟩
              simp only [Lv.H, Cx.B, rB, List.append_eq, List.cons_append, List.nil_append]
              exact mS
          · rw [if_neg h11] at hr2
            cases hr2
            repeat' (first | ((with_reducible apply wl_v); exact rfl; (with_reducible apply v_field); exact rfl; exact rfl) | ((with_reducible apply wl_callp (f := 175)); exact rfl; exact rfl; exact fun w hm => Cx.next hd1 (B := B1) (cb := cb1) (out := o1) (at_ := 0) (e := 0) (MSub.pick pK (MSub.pick pK (MSub.pick pK (MSub.nil _)))) w hm) | (refine cut_n (n, ⟨0, k1, B1, cb1, o1, 0, 0⟩) ?_ sB (by simp only [Lv.H, Cx.B, rB, List.append_eq, List.cons_append, List.nil_append]; exact mS)) | refine sT ?_ | refine sS ?_ | refine sN ?_ | refine sM fun _ => ?_ | (refine sC ?_ ?_ <;> intro hb <;> try omega) | exact cT | fail)
            all_goals first | (exfalso; omega) | (exfalso; simp_all; done) | skip
            rcases hrend with ⟨e, h, _⟩ | ⟨n3, p3, h, h7⟩
            · cases h
            · cases h
              exact ⟨hn, h3, h4, .inl ⟨rfl, rfl, h1, hno, h7⟩⟩
        · repeat' (first | (refine cut_n (n, ⟨0, k1, B1, cb1, o1, a, e⟩) ?_ sB (by simp only [Lv.H, Cx.B, rB, List.append_eq, List.cons_append, List.nil_append]; exact mS)) | refine sT ?_ | refine sS ?_ | refine sN ?_ | refine sM fun _ => ?_ | (refine sC ?_ ?_ <;> intro hb <;> try omega) | exact cT | fail)
          all_goals first | (exfalso; omega) | exact absurd (by assumption) h1 | skip
          rcases hrend with ⟨e', h, h8⟩ | ⟨n3, p3, h, h7⟩
          · cases h
            exact ⟨hn, h3, h4, .inr ⟨h1, h2, h8⟩⟩
          · cases h
  · rintro ⟨n, f', k1, B1, cb1, o1, a, e⟩ ⟨hn, h3, h4, hor⟩
    dsimp only at hn h3 h4 hor
    simp only [Lv.H]
    clear hrun
    rcases hor with ⟨rfl, rfl, h1, hno, hend⟩ | ⟨h1, h2, rfl⟩
    rotate_left
    · repeat' (first | refine sT ?_ | refine sS ?_ | refine sN ?_ | refine sM fun _ => ?_ | (refine sC ?_ ?_ <;> intro hb <;> try omega) | exact cT | fail)
      all_goals first
        | (exfalso; omega)
        | exact absurd (by assumption) h1
        | (refine rr_bad (x' := (a, e)) (k' := k1) (out' := o1) (B' := B1) (cb' := cb1) eIO rfl h1 h2 (by omega) (by omega) ?_
           simp only [Cx.B, rB, List.append_eq, List.cons_append, List.nil_append]
           exact mS)
    have hA := fun w => refArity_at fn w
    have hak := arity_known (fn := fn) (by simp [knownF, hf1, hf2])
    have hap := arity_pos hf1 hf2
    rw [hak] at hap
    obtain ⟨least, most, hlm⟩ : ∃ a b, refArityE fn = (a, b) := ⟨_, _, rfl⟩
    rw [hlm] at hak hA hap
    dsimp only at hak hA hap
    obtain ⟨u1, hd1⟩ : ∃ u, hdT x.fin (x.toks.drop k1) = u := ⟨_, rfl⟩
    by_cases h10 : u1.kind ≠ 10
    · have hr' : r = .error (u1.at_, 4) := by
        simp only [endCall, hd1, if_pos h10] at hend
        exact (Option.some.inj hend).symm
      subst hr'
      repeat' (first | ((with_reducible apply wl_callin (f := 287)); exact rfl; exact rfl; exact FnIn.msub (rWant_no 10 (Nat.le_trans x.hsa (by decide)) (Nat.le_trans x.ht (by decide)) (B := B1) (cb := cb1) (out := o1) (at_ := 0) (e := 0) (g := x.g) (A := x.A) (cap := x.cap) hd1 h10 _ w0) (MSub.pick pK (MSub.pick pK (MSub.pick pK (MSub.refl _)))); rintro _ _ ⟨rfl, rfl⟩) | ((with_reducible apply wl_callp (f := 275)); exact rfl; exact rfl; (intro w' _; exact hA w')) | ((with_reducible apply wl_callin (f := 174)); exact rfl; exact rfl; exact FnIn.msub (rFault_at x.g x.sa x.A _ x.cap k1 B1 _ cb1 u1.at_ 4 _ _ _ _) (MSub.pick pK (.refl _)); rintro _ _ ⟨rfl, rfl⟩) | refine sT ?_ | refine sS ?_ | refine sN ?_ | refine sM fun _ => ?_ | (refine sC ?_ ?_ <;> intro hb <;> try omega) | exact cT | fail)
      all_goals first
        | (exfalso; omega)
        | (exfalso; simp_all; done)
        | (refine rr_bad (x' := (u1.at_, 4)) (k' := k1) (out' := o1) (B' := B1) (cb' := cb1) eIO rfl (by simp) (by omega) (by omega) (by (try simp only [List.length_append, List.length_singleton]); omega) ?_
           simp only [Cx.B, rB, List.length_append, List.length_singleton, List.flatMap_append, List.flatMap_cons, List.flatMap_nil, List.append_nil, List.append_eq, List.cons_append, List.nil_append]
           exact mS)
    have h10 : u1.kind = 10 := Classical.not_not.1 h10
    have hlt1 := Cx.lt hd1 (by omega)
    by_cases hr : (n : Int) < least ∨ most < (n : Int)
    · have hr' : r = .error (t.at_, 11) := by
        simp only [endCall, hd1, h10, hak, if_pos hr] at hend
        exact (Option.some.inj hend).symm
      subst hr'
      repeat' (first | ((with_reducible apply wl_callin (f := 287)); exact rfl; exact rfl; exact FnIn.msub (rWant_ok 10 (Nat.le_trans x.hsa (by decide)) (Nat.le_trans x.ht (by decide)) (by omega) (B := B1) (cb := cb1) (out := o1) (at_ := 0) (e := 0) (g := x.g) (A := x.A) (cap := x.cap) hd1 h10 _ w0) (MSub.pick pK (MSub.pick pK (MSub.pick pK (MSub.refl _)))); rintro _ _ ⟨rfl, rfl⟩) | ((with_reducible apply wl_callp (f := 275)); exact rfl; exact rfl; (intro w' _; exact hA w')) | ((with_reducible apply wl_callin (f := 174)); exact rfl; exact rfl; exact FnIn.msub (rFault_at x.g x.sa x.A _ x.cap (k1 + 1) B1 _ cb1 0 0 _ _ _ _) (MSub.pick pK (.refl _)); rintro _ _ ⟨rfl, rfl⟩) | refine sT ?_ | refine sS ?_ | refine sN ?_ | refine sM fun _ => ?_ | (refine sC ?_ ?_ <;> intro hb <;> try omega) | exact cT | fail)
      all_goals first
        | (exfalso; omega)
        | (exfalso; simp_all; done)
        | (refine rr_bad (x' := (t.at_, 11)) (k' := k1 + 1) (out' := o1) (B' := B1) (cb' := cb1) eIO rfl (by simp) (by omega) (by omega) (by (try simp only [List.length_append, List.length_singleton]); omega) ?_
           simp only [Cx.B, rB, List.length_append, List.length_singleton, List.flatMap_append, List.flatMap_cons, List.flatMap_nil, List.append_nil, List.append_eq, List.cons_append, List.nil_append]
           exact mS)
    have hpos : 0 < o1.length := by omega
    obtain ⟨xn, hx⟩ : ∃ xn, o1[o1.length - 1]? = some xn := ⟨_, List.getElem?_eq_getElem (by omega)⟩
    rw [endCall_eq (p := ⟨x.toks.drop k1, o1⟩) hx] at hend
    dsimp only at hend
    rw [hd1, hak, if_neg (by rw [h10]; simp)] at hend
    dsimp only at hend
    rw [if_neg hr] at hend
    refine w_some (A := B1) (by simp only [Cx.B, rB, List.append_eq, List.cons_append, List.nil_append]; exact pK) hpos fun gb hB => ?_
    subst hB
    by_cases hkx : 46 ≤ fn ∧ xn.kind ≠ 2 ∧ xn.kind ≠ 3
    · rw [if_pos hkx] at hend
      cases hend
      repeat' (first | ((with_reducible apply wl_callin (f := 287)); exact rfl; exact rfl; exact FnIn.msub (rWant_ok 10 (Nat.le_trans x.hsa (by decide)) (Nat.le_trans x.ht (by decide)) (by omega) (B := some gb) (cb := cb1) (out := o1) (at_ := 0) (e := 0) (g := x.g) (A := x.A) (cap := x.cap) hd1 h10 _ w0) (MSub.pick pK (MSub.pick pK (MSub.pick pK (MSub.refl _)))); rintro _ _ ⟨rfl, rfl⟩) | ((with_reducible apply wl_callp (f := 275)); exact rfl; exact rfl; (intro w' _; exact hA w')) | ((with_reducible apply w_draw (id := 19)); kernel_rfl; kernel_rfl) | ((with_reducible apply wq_v); exact rfl; (with_reducible apply v_predN); exact rfl; exact rfl; exact hpos; (simp only [maxLen]; omega)) | ((with_reducible apply wq_v); exact rfl; (with_reducible apply v_indexAddr); exact rfl; exact rfl; omega) | ((with_reducible apply wq_v); exact rfl; (with_reducible apply v_loadc_own (k := 0)); exact encN_len; exact rfl; exact pK; decide; exact hx; exact rfl) | ((with_reducible apply wl_callin (f := 174)); exact rfl; exact rfl; exact FnIn.msub (rFault_at x.g x.sa x.A _ x.cap (k1 + 1) (some gb) _ cb1 0 0 _ _ _ _) (MSub.pick pK (.refl _)); rintro _ _ ⟨rfl, rfl⟩) | ((with_reducible apply wl_append1); (iterate 3 exact rfl); exact pK; exact pK; exact rfl; (simp [encN, Value.oneCell']); omega; (simp only [maxLen]; omega); intro g8 c8) | refine sT ?_ | refine sS ?_ | refine sQ ?_ | refine sN ?_ | refine sNQ ?_ | refine sM fun _ => ?_ | (refine sC ?_ ?_ <;> intro hb <;> try omega) | (refine sCQ ?_ ?_ <;> intro hb <;> try omega) | exact cT | fail)
      all_goals first
        | (exfalso; omega)
        | (exfalso; simp_all; done)
        | (refine rr_bad (x' := (t.at_, 4)) (k' := k1 + 1) (out' := o1 ++ [⟨7, zeroV, zeroR, 0, fn, n⟩]) (B' := some g8) (cb' := c8) eIO rfl (by simp) (by omega) (by omega) (by (try simp only [List.length_append, List.length_singleton]); omega) ?_
           simp only [Cx.B, rB, List.length_append, List.length_singleton, List.flatMap_append, List.flatMap_cons, List.flatMap_nil, List.append_nil, List.append_eq, List.cons_append, List.nil_append]
           exact mS)
    · rw [if_neg hkx] at hend
      cases hend
      repeat' (first | ((with_reducible apply wl_callin (f := 287)); exact rfl; exact rfl; exact FnIn.msub (rWant_ok 10 (Nat.le_trans x.hsa (by decide)) (Nat.le_trans x.ht (by decide)) (by omega) (B := some gb) (cb := cb1) (out := o1) (at_ := 0) (e := 0) (g := x.g) (A := x.A) (cap := x.cap) hd1 h10 _ w0) (MSub.pick pK (MSub.pick pK (MSub.pick pK (MSub.refl _)))); rintro _ _ ⟨rfl, rfl⟩) | ((with_reducible apply wl_callp (f := 275)); exact rfl; exact rfl; (intro w' _; exact hA w')) | ((with_reducible apply w_draw (id := 19)); kernel_rfl; kernel_rfl) | ((with_reducible apply wq_v); exact rfl; (with_reducible apply v_predN); exact rfl; exact rfl; exact hpos; (simp only [maxLen]; omega)) | ((with_reducible apply wq_v); exact rfl; (with_reducible apply v_indexAddr); exact rfl; exact rfl; omega) | ((with_reducible apply wq_v); exact rfl; (with_reducible apply v_loadc_own (k := 0)); exact encN_len; exact rfl; exact pK; decide; exact hx; exact rfl) | ((with_reducible apply wl_append1); (iterate 3 exact rfl); exact pK; exact pK; exact rfl; (simp [encN, Value.oneCell']); omega; (simp only [maxLen]; omega); intro g8 c8) | refine sT ?_ | refine sS ?_ | refine sQ ?_ | refine sN ?_ | refine sNQ ?_ | refine sM fun _ => ?_ | (refine sC ?_ ?_ <;> intro hb <;> try omega) | (refine sCQ ?_ ?_ <;> intro hb <;> try omega) | exact cT | fail)
      all_goals first
        | (exfalso; omega)
        | (exfalso; simp_all; done)
        | (refine rr_ok (k' := k1 + 1) (p' := PS.put (PS.skip ⟨x.toks.drop k1, o1⟩) ⟨7, zeroV, zeroR, 0, fn, n⟩) (B' := some g8) (cb' := c8) eIO rfl hlt1 (Cx.skip rfl) (by omega) (by simp only [PS.put, PS.skip, List.length_append, List.length_singleton]; omega) ?_
           simp only [PS.put, PS.skip, Cx.B, rB, List.length_append, List.length_singleton, List.flatMap_append, List.flatMap_cons, List.flatMap_nil, List.append_nil, List.append_eq, List.cons_append, List.nil_append]
           exact mS)
end Go.SL
namespace Go.SL
open Go Go.Proofs
attribute [local irreducible] W WL WQ WG WA VOp thn blk retP FnAt FnIn
set_option maxRecDepth 10000 in
theorem refValid_at (c r : Int) (w : World) : Pure Tryz.prog 76 [.agg #[.int .i64 c, .int .i64 r]] w (.bool (valid c r)) := by
 refine fn_at Tryz.func76 rfl Tryz.ntmps76 rfl ?_
 repeat' (first | refine sT ?_ | refine sM fun _ => ?_ | (refine sC ?_ ?_ <;> intro hb <;> try omega) | fail)
 all_goals ((refine rT1 ?_); ((try simp only [← Int.not_lt] at *); simp_all [valid, -Int.not_lt, -Int.not_le, ← Int.not_lt]))
set_option maxRecDepth 10000 in
theorem refFrom_at (r : Rct) (w : World) : Pure Tryz.prog 125 [.agg (encR r).toArray] w (.agg #[.int .i64 r.c1, .int .i64 r.r1]) := by
 refine fn_at Tryz.func125 rfl Tryz.ntmps125 rfl ?_
 repeat' (first | refine sT ?_ | refine sM fun _ => ?_ | (refine sC ?_ ?_ <;> intro hb <;> try omega) | fail)
 exact retc (.inl rfl) Tryz.results125 rfl pK rfl (MSub.nil _) rfl
set_option maxRecDepth 10000 in
theorem refTo_at (r : Rct) (w : World) : Pure Tryz.prog 126 [.agg (encR r).toArray] w (.agg #[.int .i64 r.c2, .int .i64 r.r2]) := by
 refine fn_at Tryz.func126 rfl Tryz.ntmps126 rfl ?_
 repeat' (first | refine sT ?_ | refine sM fun _ => ?_ | (refine sC ?_ ?_ <;> intro hb <;> try omega) | fail)
 exact retc (.inl rfl) Tryz.results126 rfl pK rfl (MSub.nil _) rfl
set_option maxRecDepth 10000 in
theorem refRect_at (r : Rct) (w : World) : Pure Tryz.prog 82 [.agg (encR r).toArray] w (.int .i64 (rectE r)) := by
 refine fn_at Tryz.func82 rfl Tryz.ntmps82 rfl ?_
 repeat' (first | ((with_reducible apply wl_callp); exact rfl; exact rfl; (intro w hm; exact refFrom_at r w)) | ((with_reducible apply wl_callp); exact rfl; exact rfl; (intro w hm; exact refTo_at r w)) | ((with_reducible apply wl_callp); exact rfl; exact rfl; (intro w hm; exact refValid_at r.c1 r.r1 w)) | ((with_reducible apply wl_callp); exact rfl; exact rfl; (intro w hm; exact refValid_at r.c2 r.r2 w)) | refine sT ?_ | refine sM fun _ => ?_ | (refine sC ?_ ?_ <;> intro hb <;> try omega) | fail)
 all_goals ((refine rT1 ?_); ((try simp only [← Int.not_lt] at *); simp_all [rectE, rectOk, -Int.not_lt, -Int.not_le, ← Int.not_lt]))
set_option maxRecDepth 10000 in
theorem one_at (r : Rct) (w : World) : Pure Tryz.prog 290 [.agg (encR r).toArray] w (.bool (oneR r)) := by
 refine fn_at Tryz.func290 rfl Tryz.ntmps290 rfl ?_
 repeat' (first | refine sT ?_ | refine sM fun _ => ?_ | (refine sC ?_ ?_ <;> intro hb <;> try omega) | fail)
 all_goals ((refine rT1 ?_); ((try simp only [← Int.not_lt] at *); simp_all [oneR, -Int.not_lt, -Int.not_le, ← Int.not_lt]))
set_option maxRecDepth 10000 in
theorem refBelow_at (n : Nd) (w : World) : Pure Tryz.prog 177 [.agg (encN n).toArray] w (.int .i64 (below n)) := by
 refine fn_at Tryz.func177 rfl Tryz.ntmps177 rfl ?_
 repeat' (first | refine sT ?_ | refine sM fun _ => ?_ | (refine sC ?_ ?_ <;> intro hb <;> try omega) | fail)
 all_goals ((refine rT1 ?_); simp_all [below])
set_option maxRecDepth 10000 in
theorem refPlain_at (b : ByteArray) (hs : b.size ≤ 256) (w : World) : Pure Tryz.prog 307 [.string b] w (.bool (plainB b)) := by
 refine fn_at Tryz.func307 rfl Tryz.ntmps307 rfl ?_
 have hsz : b.data.toList.length = b.size := by simp
 repeat' (first | refine sT ?_ | refine sT2 ?_ | refine sM fun _ => ?_ | (refine sC ?_ ?_ <;> intro hb <;> try omega) | fail)
 refine w_loop (fun i : Nat => [(0, .string b), (3, .int .i64 (i : Int))]) (fun _ => []) (fun i => i ≤ b.size ∧ plainB b = (b.data.toList.drop i).all fun c => decide (32 ≤ c.toNat) && decide (c.toNat ≤ 126)) (fun i => b.size - i) 0 ⟨by omega, rfl⟩ ?_ ?_ ?_
 ·
  exact sB
 ·
  exact mS
 ·
  rintro i ⟨hi, hrec⟩
  by_cases hlt : i < b.size
  ·
   rw [List.drop_eq_getElem_cons (by omega), List.all_cons] at hrec
   have hbi : b.data.toList[i]'(by omega) = b[i]'hlt := by simp [ByteArray.getElem_eq_getElem_data]
   rw [hbi] at hrec
   repeat' (first | ((with_reducible apply wl_v); exact rfl; (with_reducible apply v_index_str); exact rfl; exact rfl; exact hlt) | ((with_reducible apply wl_v); exact rfl; (with_reducible apply v_succN); exact rfl; exact rfl; (simp only [maxLen]; omega)) | refine sT ?_ | refine sT2 ?_ | refine sM fun _ => ?_ | (refine sC ?_ ?_ <;> intro hb <;> try omega) | fail)
   ·
    (refine rT1 ?_)
    rw [hrec, decide_eq_false (by omega)]
    rfl
   ·
    (refine rT1 ?_)
    rw [hrec, decide_eq_false (p := b[i].toNat ≤ 126) (by omega), Bool.and_false]
    rfl
   ·
    refine ⟨i + 1, ⟨by omega, ?_⟩, by omega, ?_, ?_⟩
    ·
     rw [hrec, decide_eq_true (by omega), decide_eq_true (by omega)]
     rfl
    ·
     exact sB
    ·
     exact mS
  ·
   have e : i = b.size := by omega
   subst e
   repeat' (first | refine sT ?_ | refine sT2 ?_ | refine sM fun _ => ?_ | (refine sC ?_ ?_ <;> intro hb <;> try omega) | fail)
   (refine rT1 ?_)
   rw [hrec, List.drop_of_length_le (by omega)]
   rfl
set_option maxRecDepth 10000 in
theorem refGlyph_at (b : ByteArray) (w : World) : Pure Tryz.prog 298 [.string b] w (.int .i64 (glyphE b)) := by
 refine fn_at Tryz.func298 rfl Tryz.ntmps298 rfl ?_
 repeat' (first | ((with_reducible apply wl_callp); exact rfl; exact rfl; (intro w hm; exact refPlain_at b (by omega) w)) | refine sT ?_ | refine sM fun _ => ?_ | (refine sC ?_ ?_ <;> intro hb <;> try omega) | fail)
 all_goals ((refine rT1 ?_); (first | rw [glyphE, decide_eq_true (by omega : 256 < b.size)] | rw [glyphE, decide_eq_false (by omega : ¬ 256 < b.size)]); simp_all)
set_option maxRecDepth 10000 in
theorem refVal_at (v : Vl) (hn : -9223372036854775808 ≤ v.num) (w : World) : Pure Tryz.prog 285 [.agg (encV v).toArray] w (.int .i64 (valE v)) := by
 refine fn_at Tryz.func285 rfl Tryz.ntmps285 rfl ?_
 have h1 : (v.num ≠ -9223372036854775808) ↔ -9223372036854775807 ≤ v.num := by omega
 have h2 : v.num / 2 = 0 ↔ (v.num = 0 ∨ v.num = 1) := by omega
 repeat' (first | ((with_reducible apply wl_callp); exact rfl; exact rfl; (intro w hm; exact refGlyph_at v.text w)) | refine sT ?_ | refine sM fun _ => ?_ | (refine sC ?_ ?_ <;> intro hb <;> try omega) | fail)
 all_goals ((refine rT1 ?_); simp only [valE, valOk, h1, h2, emptyB]; (try simp only [← Int.not_lt] at *); simp_all [-Int.not_lt, -Int.not_le, ← Int.not_lt])
theorem valE_error {v : Vl} (h : valE v = 0) (hk : v.kind = 4) : 1 ≤ v.num ∧ v.num ≤ 6 := by
 simp only [valE, valOk, hk] at h
 cases h1 : (decide (v.text = emptyB) && decide (1 ≤ v.num) && decide (v.num ≤ 6))
 ·
  simp [h1] at h
 ·
  simp only [Bool.and_eq_true, decide_eq_true_eq] at h1
  exact ⟨h1.1.2, h1.2⟩
set_option maxRecDepth 10000 in
theorem Literal_at (v : Vl) (hn : -9223372036854775808 ≤ v.num) (w : World) : Pure Tryz.prog 289 [.agg (encV v).toArray] w (.bool (litOk v)) := by
 refine fn_at Tryz.func289 rfl Tryz.ntmps289 rfl ?_
 have hE := valE_error (v := v)
 repeat' (first | ((with_reducible apply wl_callp); exact rfl; exact rfl; (intro w hm; exact refVal_at v hn w)) | refine sT ?_ | refine sM fun _ => ?_ | (refine sC ?_ ?_ <;> intro hb <;> try omega) | fail)
 all_goals ((refine rT1 ?_); unfold litOk; (try have hE' := hE (by assumption) (by assumption)); (repeat' split) <;> simp_all <;> first | omega | (by_cases h6 : v.num = 6 <;> simp [h6] <;> omega))
theorem eqN_comm (a b : Nd) : eqN a b = eqN b a := by
 rw [eqN_dec, eqN_dec]
 by_cases h : a = b
 ·
  subst h; rfl
 ·
  rw [decide_eq_false h, decide_eq_false fun e => h e.symm]
theorem v_eqlNs {w0 : World} {s : Slots} {H : List Blk} {ty t' : TypeId} {x y : Operand} {a b : Nd} (hx : ev s x = some (.agg (encN b).toArray)) (hy : ev s y = some (.agg (encN a).toArray)) : VOp Tryz.prog w0 s H (.binOp .eql 136 x y t') ty (.bool (eqN a b)) := by
 rw [eqN_comm]
 exact v_eqlN hx hy
def refFields (n : Nd) : Bool := kindOk n && eqN n (want n)
set_option maxHeartbeats 1000000 in
theorem refFields_at (n : Nd) (hn : -9223372036854775808 ≤ n.v.num) (w : World) : Pure Tryz.prog 273 [.agg (encN n).toArray] w (.bool (refFields n)) := by
 refine fn_at Tryz.func273 rfl Tryz.ntmps273 rfl ?_
 repeat' (first | ((with_reducible apply wl_callp); exact rfl; exact rfl; (intro w hm; exact Literal_at n.v hn w)) | ((with_reducible apply wq_callp); exact rfl; exact rfl; (intro w hm; exact refRect_at n.rect w)) | ((with_reducible apply wq_callp); exact rfl; exact rfl; (intro w hm; exact one_at n.rect w)) | ((with_reducible apply w_drawB (T := 136) (fun D => [.int .u8 n.kind, .int .u8 0, .int .i64 0, .string emptyB, .int .i64 0, .int .i64 0, .int .i64 0, .int .i64 0, .int .i64 0, .int .u8 (bif D 5 then n.fn else 0), .int .i64 (bif D 7 then n.n else 0)]) (xs' := [.int .u8 n.kind, .int .u8 0, .int .i64 0, .string emptyB, .int .i64 0, .int .i64 0, .int .i64 0, .int .i64 0, .int .i64 0, .int .u8 n.fn, .int .i64 n.n])); decide +kernel; decide +kernel; (first | exact .hd | exact .tl .hd); exact rfl; (intro D hD; simp only [hD 5 (by decide), hD 7 (by decide), cond_true])) | ((with_reducible apply wl_v); exact rfl; (first | ((with_reducible apply v_eqlNs (b := ⟨n.kind, n.v, zeroR, 0, 0, 0⟩)); exact rfl; exact rfl) | ((with_reducible apply v_eqlNs (b := ⟨n.kind, zeroV, n.rect, 0, 0, 0⟩)); exact rfl; exact rfl) | ((with_reducible apply v_eqlNs (b := ⟨n.kind, zeroV, zeroR, 0, 0, 0⟩)); exact rfl; exact rfl) | ((with_reducible apply v_eqlNs (b := ⟨n.kind, zeroV, zeroR, n.op, 0, 0⟩)); exact rfl; exact rfl) | ((with_reducible apply v_eqlNs (b := ⟨n.kind, zeroV, zeroR, 0, n.fn, n.n⟩)); exact rfl; exact rfl))) | ((with_reducible apply wq_v); exact rfl; (first | ((with_reducible apply v_eqlNs (b := ⟨n.kind, n.v, zeroR, 0, 0, 0⟩)); exact rfl; exact rfl) | ((with_reducible apply v_eqlNs (b := ⟨n.kind, zeroV, n.rect, 0, 0, 0⟩)); exact rfl; exact rfl) | ((with_reducible apply v_eqlNs (b := ⟨n.kind, zeroV, zeroR, 0, 0, 0⟩)); exact rfl; exact rfl) | ((with_reducible apply v_eqlNs (b := ⟨n.kind, zeroV, zeroR, n.op, 0, 0⟩)); exact rfl; exact rfl) | ((with_reducible apply v_eqlNs (b := ⟨n.kind, zeroV, zeroR, 0, n.fn, n.n⟩)); exact rfl; exact rfl))) | refine sT ?_ | refine sQ ?_ | refine sD ?_ | refine sG ?_ | refine sM fun _ => ?_ | (refine sC ?_ ?_ <;> intro hb <;> try omega) | (refine sCQ ?_ ?_ <;> intro hb <;> try omega) | fail)
 all_goals ((refine rT1 ?_); ((try simp only [← Int.not_lt] at *); simp_all [refFields, kindOk, want, oneR, -Int.not_lt, -Int.not_le, ← Int.not_lt]))
end Go.SL

/-
  Lemmas and walks, put together: C5 C6 C7 D1.
-/
import Derived.Test.YthefeclkaaocnaaGreatDoorKb13
set_option linter.unusedSimpArgs false
set_option linter.unusedVariables false
set_option maxRecDepth 20000
namespace Go.SL
open Go Go.Proofs
attribute [local irreducible] W WL WQ WG WA WX WLI WR WT VOp thn blk cutP scp retP retPP endB FnAt FnIn FnP
instance:FldT Tryz.prog 295 0 5 0:=⟨_,_,Tryz.underlying295,rfl,rfl,rfl⟩
theorem argP_grew {f:Nat} {fn:Int} {n:Nat} {fin:Int} {p p' :PS} {m:Nat} (h:argP f fn n fin p=some (.ok (m,p'))):p.out.length<p'.out.length:=by
 unfold argP at h
 split at h
 ·
  obtain ⟨m',q,h1,h2⟩:=thenP_ok h
  cases h2
  exact (runP_grew _ _ _ _ _ _ h1).some trivial
 ·
  split at h
  ·
   cases h
  ·
   cases h
   simp [PS.put,PS.skip]
theorem endCall_eq {fin:Int} {name:Tk} {fn:Int} {n:Nat} {p:PS} {x:Nd} (hx:p.out[p.out.length - 1]? =some x):endCall fin name fn n p=
  if (hdT fin p.l).kind≠10 then some (.error ((hdT fin p.l).at_,4))
  else if (n:Int)<(arity fn).1∨(arity fn).2.1<(n:Int) then some (.error (name.at_,11))
  else if 46≤fn∧x.kind≠2∧x.kind≠3 then some (.error (name.at_,4))
  else some (.ok (0,p.skip.put ⟨7,zeroV,zeroR,0,fn,n⟩)):=by
 have hx' :p.out.getLast? =some x:=by rw [List.getLast?_eq_getElem?];exact hx
 unfold endCall
 simp only [hx',Option.map_some,Option.some.injEq,decide_eq_true_eq,ne_eq,not_or]
theorem arity_pos {fn:Int} (h1:1≤fn) (h2:fn≤50):1≤(arity fn).1:=by
 unfold arity
 repeat' split
 all_goals first
  |decide
  |(rename_i h;simp [knownF,h1,h2] at h)
theorem At.head' {toks:List Tk} {A:Option Nat} {cap:Nat} {fin:Int} {g:Nat} {p:PS} {lv:Value} (h:At toks A cap p lv) {u:Tk} (hu:hdT fin p.l=u) {B:Option Nat} {cb:Nat} {out:List Nd} {H:List Blk} {w0:World} (hH:MSub (pB g lv A cap fin toks B cb out) H) (w:World) (hm:Mem w0 w H):
  Pure Tryz.prog 206 [.pointer (some ⟨g,0,none⟩)] w (.agg (encTk u).toArray):=hu ▸ At.head h hH w hm
open Classical in
noncomputable def calledP (f:Nat) (t:Tk) (callP:Nat→Tk→Int→PS→Option Out) (fin:Int) (p:PS):Option Out:=if hdT fin p.l=t∧t.kind=7 then callP f t fin p else none
def callP (f:Nat) (t:Tk) (fin:Int) (p:PS):Option Out:=
 if (functionE t.text).2≠0 then some (.error (t.at_,10))
 else
  let u:=hdT fin p.skip.l
  if u.kind≠9 then some (.error (u.at_,4))
  else if (hdT fin p.skip.skip.l).kind=10 then endCall fin t (functionE t.text).1 0 p.skip.skip
  else thenP (runP fin f (.args (functionE t.text).1 0) p.skip.skip) fun n p=>endCall fin t (functionE t.text).1 n p
set_option maxHeartbeats 4000000 in
theorem call_ok (f : Nat) (t : Tk) (ih : ∀ f' ≤ f, POK f' (.level 1) 205 []) : POKg (calledP f t callP) 351 [.agg (encTk t).toArray] := by
  intro toks A cap fin g p lv B cb r R w0 hc hl hat hrun
  refine fn_p Tryz.func351 rfl Tryz.ntmps351 rfl ?_
  unfold calledP at hrun
  by_cases ht : ¬ (hdT fin p.l = t ∧ t.kind = 7)
  · rw [if_neg ht] at hrun; cases hrun
  have ht := Classical.not_not.1 ht
  rw [if_pos ht] at hrun
  obtain ⟨ht, ht7⟩ := ht
  have hF := fun w => Function_at t.text w
  unfold callP at hrun
  obtain ⟨fn, fe, hfe⟩ : ∃ fn fe, functionE t.text = (fn, fe) := ⟨_, _, rfl⟩
  have hfn : fe = 0 → 1 ≤ fn ∧ fn ≤ 50 := by
    intro h
    subst h
    have hb1 := idxFrom_bound namesL t.text 0 (by omega)
    rw [namesL_length] at hb1
    unfold functionE at hfe
    split at hfe <;> cases hfe
    omega
  rw [hfe] at hrun hF
  dsimp only at hF
  by_cases h0 : fe ≠ 0
  · rw [if_pos h0] at hrun
    cases hrun
    repeat' (first | ((with_reducible apply wl_callp (f := 363)); exact rfl; exact rfl; (intro w' _; exact hF w')) | (refine wl_callP (f := 207) rfl rfl (pFail_at _ _ _ _ _ (fun _ _ => False)) ?_ ?_) | (exact fun _ _ h => h.elim) | (rintro _ _ ⟨rfl, rfl⟩) | refine sT ?_ | refine sP ?_ | refine sM fun _ => ?_ | (refine sC ?_ ?_ <;> intro hb <;> try omega) | exact cT | fail)
    all_goals first
      | (exfalso; omega)
      | (refine fin_bad rfl ?_
         simp only [List.append_eq, List.cons_append, List.nil_append, pB]
         exact mS)
  rw [if_neg h0] at hrun
  dsimp only at hrun
  obtain ⟨hfn1, hfn2⟩ := hfn (by omega)
  by_cases hw9 : (hdT fin p.skip.l).kind ≠ 9
  · rw [if_pos hw9] at hrun
    cases hrun
    repeat' (first | ((with_reducible apply wl_callp (f := 363)); exact rfl; exact rfl; (intro w' _; exact hF w')) | ((with_reducible apply wl_callin (f := 292)); exact rfl; exact rfl; exact hat.skip hc (c := 7) (by rw [ht]; exact ht7) (by decide) (MSub.pick pK (MSub.pick pK (MSub.pick pK (MSub.refl _)))); rintro _ _ ⟨rfl, lv1, h1, rfl⟩) | (refine wl_callP (f := 350) rfl rfl (FnP.msub (want_ok 9 (by decide) toks A cap fin g p.skip lv1 B cb _ _ w0 hc hl (At1.at h1) (by unfold wantP; rw [if_pos hw9])) (MSub.pick pK (MSub.pick pK (MSub.pick pK (MSub.refl _))))) ?_ ?_) | (rintro _ _ ⟨rfl, n, p', lv', B', cb', h, h2, rfl⟩; cases h) | (rintro _ _ ⟨e, h, rfl, h3⟩; cases h) | refine sT ?_ | refine sP ?_ | refine sM fun _ => ?_ | (refine sC ?_ ?_ <;> intro hb <;> try omega) | exact cT | fail)
    all_goals first
      | (exfalso; omega)
      | (refine fin_bad rfl (MSub.trans ?_ h3)
         simp only [List.append_eq, List.cons_append, List.nil_append, pB]
         exact mS)
  rw [if_neg hw9] at hrun
  repeat' (first | ((with_reducible apply wl_callp (f := 363)); exact rfl; exact rfl; (intro w' _; exact hF w')) | ((with_reducible apply wl_callin (f := 292)); exact rfl; exact rfl; exact hat.skip hc (c := 7) (by rw [ht]; exact ht7) (by decide) (MSub.pick pK (MSub.pick pK (MSub.pick pK (MSub.refl _)))); rintro _ _ ⟨rfl, lv1, h1, rfl⟩) | (refine wl_callP (f := 350) rfl rfl (FnP.msub (want_ok 9 (by decide) toks A cap fin g p.skip lv1 B cb _ _ w0 hc hl (At1.at h1) (by unfold wantP; rw [if_neg hw9])) (MSub.pick pK (MSub.pick pK (MSub.pick pK (MSub.refl _))))) ?_ ?_) | (rintro _ _ ⟨rfl, n, p', lv', B', cb', h, h2, rfl⟩; cases h) | (rintro _ _ ⟨e, h, rfl, h3⟩; cases h) | (rename_i g3; refine w_cutRK (id := 7) (ι := Nat × PS × Value × Option Nat × Nat) [0, 3, 4] rfl (fun x => [(6, .int .i64 (x.1 : Int))]) (fun x => .box g3 295 (encTk t) :: (pB g x.2.2.1 A cap fin toks x.2.2.2.1 x.2.2.2.2 x.2.1.out ++ R)) (fun x => x.1 ≤ x.2.1.out.length ∧ At toks A cap x.2.1 x.2.2.1 ∧ endCall fin t fn x.1 x.2.1 = some r) ?_ ?_) | refine sT ?_ | refine sP ?_ | refine sM fun _ => ?_ | (refine sC ?_ ?_ <;> intro hb <;> try omega) | exact cT | fail)
  · obtain ⟨u, hu⟩ : ∃ u, hdT fin p.skip.skip.l = u := ⟨_, rfl⟩
    rw [hu] at hrun
    by_cases h10 : u.kind = 10
    · rw [if_pos h10] at hrun
      repeat' (first | ((with_reducible apply wl_v); exact rfl; (with_reducible apply v_field); exact rfl; exact rfl) | ((with_reducible apply wl_callp (f := 206)); exact rfl; exact rfl; (intro w' hm'; exact At.head' (B := B') (cb := cb') (out := p.skip.skip.out) (g := g) (fin := fin) h2 hu (MSub.pick pK (MSub.pick pK (MSub.pick pK (MSub.nil _)))) w' hm')) | refine cut_n ((0, p.skip.skip, lv', B', cb')) ?_ sB mS | refine sT ?_ | refine sP ?_ | refine sM fun _ => ?_ | (refine sC ?_ ?_ <;> intro hb <;> try omega) | exact cT | fail)
      all_goals first | (exfalso; omega) | exact ⟨Nat.zero_le _, h2, hrun⟩
    · rw [if_neg h10] at hrun
      obtain ⟨r1, hr1, hr2⟩ := thenP_inv hrun
      repeat' (first | ((with_reducible apply wl_v); exact rfl; (with_reducible apply v_field); exact rfl; exact rfl) | ((with_reducible apply wl_callp (f := 206)); exact rfl; exact rfl; (intro w' hm'; exact At.head' (B := B') (cb := cb') (out := p.skip.skip.out) (g := g) (fin := fin) h2 hu (MSub.pick pK (MSub.pick pK (MSub.pick pK (MSub.nil _)))) w' hm')) | refine sT ?_ | refine sP ?_ | refine sM fun _ => ?_ | (refine sC ?_ ?_ <;> intro hb <;> try omega) | exact cT | fail)
      all_goals first
        | (exfalso; omega)
        | skip
      refine w_loopK [0, 3, 4] rfl (fun x : Nat × Nat × PS × Value × Option Nat × Nat => [(6, .int .i64 (x.2.1 : Int))]) (fun x => .box g3 295 (encTk t) :: (pB g x.2.2.2.1 A cap fin toks x.2.2.2.2.1 x.2.2.2.2.2 x.2.2.1.out ++ R)) (fun x => x.1 ≤ f ∧ x.2.1 ≤ x.2.2.1.out.length ∧ At toks A cap x.2.2.1 x.2.2.2.1 ∧ runP fin x.1 (.args fn x.2.1) x.2.2.1 = some r1) (fun x => x.1) (f, 0, p.skip.skip, lv', B', cb') ⟨Nat.le_refl _, Nat.zero_le _, h2, hr1⟩ sB ?_ ?_
      · simp only [List.append_eq, List.cons_append, List.nil_append, pB]
        exact mS
      rintro ⟨f', n', q, lq, Bq, cq⟩ ⟨hf', hn', hq1, hq2⟩
      dsimp only at hf' hn' hq1 hq2 ⊢
      cases f' with
      | zero => cases hq2
      | succ f' =>
        rw [args_eq] at hq2
        have hn6 : n' ≤ 1000000 := Nat.le_trans hn' (At.len hq1 hl)
        obtain ⟨r2, hr3, hr4⟩ := thenP_inv hq2
        repeat' (first | (refine wl_callP (f := 364) rfl rfl (FnP.msub (argument_ok f' fn n' (ih f' (by omega)) toks A cap fin g q lq Bq cq r2 _ w0 hc hl hq1 hr3) (MSub.pick pK (MSub.pick pK (MSub.pick pK (MSub.refl _))))) ?_ ?_) | (rintro _ _ ⟨rfl, n2, q2, lv2, B2, cb2, rfl, h6, rfl⟩; obtain ⟨u2, hu2⟩ : ∃ u, hdT fin q2.l = u := ⟨_, rfl⟩) | (rintro _ _ ⟨e, rfl, rfl, h3⟩) | ((with_reducible apply wl_v); exact rfl; (with_reducible apply v_field); exact rfl; exact rfl) | ((with_reducible apply wl_callp (f := 206)); exact rfl; exact rfl; (intro w' hm'; exact At.head' (B := B2) (cb := cb2) (out := q2.out) (g := g) (fin := fin) h6 hu2 (MSub.pick pK (MSub.pick pK (MSub.pick pK (MSub.nil _)))) w' hm')) | ((with_reducible apply wl_callin (f := 292)); exact rfl; exact rfl; exact h6.skip hc (c := 11) (by rw [hu2]; omega) (by decide) (MSub.pick pK (MSub.pick pK (MSub.pick pK (MSub.refl _)))); rintro _ _ ⟨rfl, lv3, h7, rfl⟩) | refine cut_n ((n' + 1, q2, lv2, B2, cb2)) ?_ sB mS | refine sT ?_ | refine sP ?_ | refine sN ?_ | refine sM fun _ => ?_ | (refine sC ?_ ?_ <;> intro hb <;> try omega) | exact cT | fail)
        · rcases hr4 with ⟨e, h, _⟩ | ⟨n3, p3, h, h7⟩
          · cases h
          · cases h
            rw [hu2, if_neg (by omega)] at h7
            rcases hr2 with ⟨e, h, _⟩ | ⟨n4, p4, h, h8⟩
            · rw [h] at h7; cases h7
            · rw [h] at h7
              cases h7
              have := argP_grew hr3
              exact ⟨by dsimp only; omega, h6, h8⟩
        · rcases hr4 with ⟨e, h, _⟩ | ⟨n3, p3, h, h7'⟩
          · cases h
          · cases h
            rw [hu2, if_pos (by omega)] at h7'
            have := argP_grew hr3
            refine ⟨(f', n' + 1, q2.skip, lv3, B2, cb2), ⟨by dsimp only; omega, by dsimp only [PS.skip]; omega, At1.at h7, h7'⟩, Nat.lt_succ_self _, sB, sB, ?_⟩
            simp only [List.append_eq, List.cons_append, List.nil_append, pB]
            exact mS
        · rcases hr4 with ⟨e', h, h7⟩ | ⟨n3, p3, h, h7⟩
          · cases h
            rcases hr2 with ⟨e4, h, h8⟩ | ⟨n4, p4, h, h8⟩
            · rw [h] at h7
              cases h7
              exact fin_bad h8 (MSub.trans (.drop .hd (.refl _)) h3)
            · rw [h] at h7; cases h7
          · cases h
  · rintro ⟨n, q, lq, Bq, cq⟩ ⟨hn', hq1, hq2⟩
    dsimp only at hn' hq1 hq2 ⊢
    obtain ⟨u, hu⟩ : ∃ u, hdT fin q.l = u := ⟨_, rfl⟩
    have hap := arity_pos hfn1 hfn2
    have hA := fun w => arity_at fn w
    obtain ⟨least, most, ae, hae⟩ : ∃ a b c, arity fn = (a, b, c) := ⟨_, _, _, rfl⟩
    rw [hae] at hA hap
    dsimp only at hA hap
    by_cases h10 : u.kind ≠ 10
    · simp only [endCall, hu, if_pos h10] at hq2
      cases hq2
      repeat' (first | ((with_reducible apply wl_v); exact rfl; (with_reducible apply v_field); exact rfl; exact rfl) | ((with_reducible apply wl_callp (f := 206)); exact rfl; exact rfl; (intro w' hm'; exact At.head' (B := Bq) (cb := cq) (out := q.out) (g := g) (fin := fin) hq1 hu (MSub.pick pK (MSub.pick pK (MSub.pick pK (MSub.nil _)))) w' hm')) | (refine wl_callP (f := 207) rfl rfl (pFail_at _ _ _ _ _ (fun _ _ => False)) ?_ ?_) | (exact fun _ _ h => h.elim) | (rintro _ _ ⟨rfl, rfl⟩) | refine sT ?_ | refine sP ?_ | refine sM fun _ => ?_ | (refine sC ?_ ?_ <;> intro hb <;> try omega) | exact cT | fail)
      all_goals first
        | (exfalso; omega)
        | (refine fin_bad rfl ?_
           simp only [List.append_eq, List.cons_append, List.nil_append, pB]
           exact mS)
    by_cases hlm : (n : Int) < least ∨ most < (n : Int)
    · simp only [endCall, hu, if_neg h10, hae, if_pos hlm] at hq2
      cases hq2
      repeat' (first | ((with_reducible apply wl_v); exact rfl; (with_reducible apply v_field); exact rfl; exact rfl) | ((with_reducible apply wl_callp (f := 206)); exact rfl; exact rfl; (intro w' hm'; exact At.head' (B := Bq) (cb := cq) (out := q.out) (g := g) (fin := fin) hq1 hu (MSub.pick pK (MSub.pick pK (MSub.pick pK (MSub.nil _)))) w' hm')) | ((with_reducible apply wl_callp (f := 327)); exact rfl; exact rfl; (intro w' _; exact hA w')) | (refine wl_callP (f := 207) rfl rfl (pFail_at _ _ _ _ _ (fun _ _ => False)) ?_ ?_) | (exact fun _ _ h => h.elim) | (rintro _ _ ⟨rfl, rfl⟩) | refine sT ?_ | refine sP ?_ | refine sM fun _ => ?_ | (refine sC ?_ ?_ <;> intro hb <;> try omega) | exact cT | fail)
      all_goals first
        | (exfalso; omega)
        | (refine fin_bad rfl ?_
           simp only [List.append_eq, List.cons_append, List.nil_append, pB]
           exact mS)
    have hpos : 0 < q.out.length := by omega
    have hol : q.out.length ≤ 1000000 := At.len hq1 hl
    obtain ⟨x, hx⟩ : ∃ x, q.out[q.out.length - 1]? = some x := ⟨_, List.getElem?_eq_getElem (by omega)⟩
    rw [endCall_eq hx, hu, hae, if_neg h10] at hq2
    dsimp only at hq2
    rw [if_neg hlm] at hq2
    refine w_some (A := Bq) (by simp only [List.append_eq, List.cons_append, List.nil_append, pB]; exact pK) hpos fun gb hB => ?_
    subst hB
    by_cases hkx : 46 ≤ fn ∧ x.kind ≠ 2 ∧ x.kind ≠ 3
    · rw [if_pos hkx] at hq2
      cases hq2
      repeat' (first | ((with_reducible apply wl_v); exact rfl; (with_reducible apply v_field); exact rfl; exact rfl) | ((with_reducible apply wl_callp (f := 206)); exact rfl; exact rfl; (intro w' hm'; exact At.head' (B := some gb) (cb := cq) (out := q.out) (g := g) (fin := fin) hq1 hu (MSub.pick pK (MSub.pick pK (MSub.pick pK (MSub.nil _)))) w' hm')) | ((with_reducible apply wl_callp (f := 327)); exact rfl; exact rfl; (intro w' _; exact hA w')) | ((with_reducible apply wq_v); exact rfl; (with_reducible apply v_predN); exact rfl; exact rfl; exact hpos; (simp only [maxLen]; omega)) | ((with_reducible apply wq_v); exact rfl; (with_reducible apply v_indexAddr); exact rfl; exact rfl; omega) | ((with_reducible apply wq_v); exact rfl; (with_reducible apply v_loadc_own (k := 0)); exact encN_len; exact rfl; exact pK; decide; exact hx; exact rfl) | (refine wl_callP (f := 207) rfl rfl (pFail_at _ _ _ _ _ (fun _ _ => False)) ?_ ?_) | (exact fun _ _ h => h.elim) | (rintro _ _ ⟨rfl, rfl⟩) | refine sT ?_ | refine sP ?_ | refine sQ ?_ | refine sN ?_ | refine sNQ ?_ | refine sD ?_ | refine sM fun _ => ?_ | (refine sC ?_ ?_ <;> intro hb <;> try omega) | (refine sCQ ?_ ?_ <;> intro hb <;> try omega) | exact cT | fail)
      all_goals first
        | (exfalso; omega)
        | (refine fin_bad rfl ?_
           simp only [List.append_eq, List.cons_append, List.nil_append, pB]
           exact mS)
    · rw [if_neg hkx] at hq2
      cases hq2
      repeat' (first | ((with_reducible apply wl_v); exact rfl; (with_reducible apply v_field); exact rfl; exact rfl) | ((with_reducible apply wl_callp (f := 206)); exact rfl; exact rfl; (intro w' hm'; exact At.head' (B := some gb) (cb := cq) (out := q.out) (g := g) (fin := fin) hq1 hu (MSub.pick pK (MSub.pick pK (MSub.pick pK (MSub.nil _)))) w' hm')) | ((with_reducible apply wl_callp (f := 327)); exact rfl; exact rfl; (intro w' _; exact hA w')) | ((with_reducible apply wq_v); exact rfl; (with_reducible apply v_predN); exact rfl; exact rfl; exact hpos; (simp only [maxLen]; omega)) | ((with_reducible apply wq_v); exact rfl; (with_reducible apply v_indexAddr); exact rfl; exact rfl; omega) | ((with_reducible apply wq_v); exact rfl; (with_reducible apply v_loadc_own (k := 0)); exact encN_len; exact rfl; exact pK; decide; exact hx; exact rfl) | ((with_reducible apply wl_callin (f := 292)); exact rfl; exact rfl; exact hq1.skip hc (c := 10) (by rw [hu]; omega) (by decide) (MSub.pick pK (MSub.pick pK (MSub.pick pK (MSub.refl _)))); rintro _ _ ⟨rfl, lv1, h1', rfl⟩) | ((with_reducible apply wl_callin (f := 293)); exact rfl; exact rfl; exact FnIn.msub (pPut_at ⟨7, zeroV, zeroR, 0, fn, n⟩ _ _ _ _ _ _ _ _ _ (At.len hq1 hl) _ _) (MSub.pick pK (MSub.pick pK (MSub.pick pK (MSub.refl _)))); rintro _ _ ⟨rfl, B3, cb3, rfl⟩) | refine sT ?_ | refine sP ?_ | refine sQ ?_ | refine sN ?_ | refine sNQ ?_ | refine sD ?_ | refine sM fun _ => ?_ | (refine sC ?_ ?_ <;> intro hb <;> try omega) | (refine sCQ ?_ ?_ <;> intro hb <;> try omega) | exact cT | fail)
      all_goals first
        | (exfalso; omega)
        | (refine fin_ok (p' := q.skip.put ⟨7, zeroV, zeroR, 0, fn, n⟩) (B' := B3) (cb' := cb3) (by first | exact .inr rfl | exact .inl rfl) rfl rfl (h1'.put _) ?_
           simp only [List.append_eq, List.cons_append, List.nil_append, pB]
           exact mS)
theorem prim_call (fin:Int) (f:Nat) (p:PS) (h:(hdT fin p.l).kind=7):runP fin (f+1) .prim p=callP f (hdT fin p.l) fin p:=by
 rw [runP]
 dsimp only
 rw [if_neg (by omega),if_neg (by omega),if_neg (by omega),if_pos h]
 rfl
set_option maxHeartbeats 4000000 in
theorem primary_ok (f : Nat) (ih : ∀ f' ≤ f, POK f' (.level 1) 205 []) : POK (f + 1) .prim 335 [] := by
  intro toks A cap fin g p lv B cb r R w0 hc hl hat hrun
  refine fn_p Tryz.func335 rfl Tryz.ntmps335 rfl ?_
  obtain ⟨t, ht⟩ : ∃ t, hdT fin p.l = t := ⟨_, rfl⟩
  have hh := fun w hm => At.head' (fin := fin) (g := g) (B := B) (cb := cb) (out := p.out) (H := pB g lv A cap fin toks B cb p.out ++ R) (w0 := w0) hat ht (MSub.pick .hd (.pick .hd (.pick .hd (.nil _)))) w hm
  by_cases h7 : t.kind = 7
  · rw [prim_call _ _ _ (by rw [ht]; exact h7), ht] at hrun
    have hcl := call_ok f t ih toks A cap fin g p lv B cb r
    unfold calledP at hcl
    rw [if_pos ⟨ht, h7⟩] at hcl
    repeat' (first | ((with_reducible apply wl_callp (f := 206)); exact rfl; exact rfl; exact hh) | (refine wl_callP (f := 351) rfl rfl (FnP.msub (hcl _ w0 hc hl hat hrun) (MSub.pick pK (MSub.pick pK (MSub.pick pK (MSub.refl _))))) ?_ ?_) | (rintro _ _ ⟨rfl, n, p', lv', B', cb', rfl, h2, rfl⟩) | (rintro _ _ ⟨e, rfl, rfl, h3⟩) | refine sT ?_ | refine sP ?_ | refine sM fun _ => ?_ | (refine sC ?_ ?_ <;> intro hb <;> try omega) | fail)
    · refine fin_ok (B' := B') (cb' := cb') (by first | exact .inr rfl | exact .inl rfl) rfl rfl h2 ?_
      simp only [List.append_eq, List.cons_append, List.nil_append, pB]
      exact mS
    · exact fin_bad rfl (MSub.trans (.drop .hd (.refl _)) h3)
  rw [runP] at hrun
  dsimp only at hrun
  rw [ht] at hrun
  by_cases h14 : 1 ≤ t.kind ∧ t.kind ≤ 4
  · rw [if_pos h14] at hrun
    cases hrun
    rcases (by omega : t.kind = 1 ∨ t.kind = 2 ∨ t.kind = 3 ∨ t.kind = 4) with hk | hk | hk | hk
    · repeat' (first | ((with_reducible apply wl_callp (f := 206)); exact rfl; exact rfl; exact hh) | (refine wl_callP (f := 349) rfl rfl (FnP.msub (value_ok ⟨1, t.num, emptyB⟩ toks A cap fin g p _ B cb (.ok (0, p.skip.put (litT t))) _ w0 hc hl hat (by dsimp only; rw [if_neg (by rw [ht]; omega)]; simp [litT, hk])) (MSub.pick pK (MSub.pick pK (MSub.pick pK (MSub.refl _))))) ?_ ?_) | (rintro _ _ ⟨rfl, n, p', lv', B', cb', h, h2, rfl⟩) | (rintro _ _ ⟨e, h, rfl, h3⟩; cases h) | refine sT ?_ | refine sP ?_ | refine sM fun _ => ?_ | (refine sC ?_ ?_ <;> intro hb <;> try omega) | fail)
      all_goals first
        | (exfalso; omega)
        | (refine fin_ok (B' := B') (cb' := cb') (by first | exact .inr rfl | exact .inl rfl) rfl h h2 ?_
           simp only [List.append_eq, List.cons_append, List.nil_append, pB]
           exact mS)
    · repeat' (first | ((with_reducible apply wl_callp (f := 206)); exact rfl; exact rfl; exact hh) | (refine wl_callP (f := 349) rfl rfl (FnP.msub (value_ok ⟨3, 0, t.text⟩ toks A cap fin g p _ B cb (.ok (0, p.skip.put (litT t))) _ w0 hc hl hat (by dsimp only; rw [if_neg (by rw [ht]; omega)]; simp [litT, hk])) (MSub.pick pK (MSub.pick pK (MSub.pick pK (MSub.refl _))))) ?_ ?_) | (rintro _ _ ⟨rfl, n, p', lv', B', cb', h, h2, rfl⟩) | (rintro _ _ ⟨e, h, rfl, h3⟩; cases h) | refine sT ?_ | refine sP ?_ | refine sM fun _ => ?_ | (refine sC ?_ ?_ <;> intro hb <;> try omega) | fail)
      all_goals first
        | (exfalso; omega)
        | (refine fin_ok (B' := B') (cb' := cb') (by first | exact .inr rfl | exact .inl rfl) rfl h h2 ?_
           simp only [List.append_eq, List.cons_append, List.nil_append, pB]
           exact mS)
    · repeat' (first | ((with_reducible apply wl_callp (f := 206)); exact rfl; exact rfl; exact hh) | (refine wl_callP (f := 349) rfl rfl (FnP.msub (value_ok ⟨2, t.num, emptyB⟩ toks A cap fin g p _ B cb (.ok (0, p.skip.put (litT t))) _ w0 hc hl hat (by dsimp only; rw [if_neg (by rw [ht]; omega)]; simp [litT, hk])) (MSub.pick pK (MSub.pick pK (MSub.pick pK (MSub.refl _))))) ?_ ?_) | (rintro _ _ ⟨rfl, n, p', lv', B', cb', h, h2, rfl⟩) | (rintro _ _ ⟨e, h, rfl, h3⟩; cases h) | refine sT ?_ | refine sP ?_ | refine sM fun _ => ?_ | (refine sC ?_ ?_ <;> intro hb <;> try omega) | fail)
      all_goals first
        | (exfalso; omega)
        | (refine fin_ok (B' := B') (cb' := cb') (by first | exact .inr rfl | exact .inl rfl) rfl h h2 ?_
           simp only [List.append_eq, List.cons_append, List.nil_append, pB]
           exact mS)
    · repeat' (first | ((with_reducible apply wl_callp (f := 206)); exact rfl; exact rfl; exact hh) | (refine wl_callP (f := 349) rfl rfl (FnP.msub (value_ok ⟨4, t.num, emptyB⟩ toks A cap fin g p _ B cb (.ok (0, p.skip.put (litT t))) _ w0 hc hl hat (by dsimp only; rw [if_neg (by rw [ht]; omega)]; simp [litT, hk])) (MSub.pick pK (MSub.pick pK (MSub.pick pK (MSub.refl _))))) ?_ ?_) | (rintro _ _ ⟨rfl, n, p', lv', B', cb', h, h2, rfl⟩) | (rintro _ _ ⟨e, h, rfl, h3⟩; cases h) | refine sT ?_ | refine sP ?_ | refine sM fun _ => ?_ | (refine sC ?_ ?_ <;> intro hb <;> try omega) | fail)
      all_goals first
        | (exfalso; omega)
        | (refine fin_ok (B' := B') (cb' := cb') (by first | exact .inr rfl | exact .inl rfl) rfl h h2 ?_
           simp only [List.append_eq, List.cons_append, List.nil_append, pB]
           exact mS)
  rw [if_neg h14] at hrun
  by_cases h5 : t.kind = 5
  · rw [if_pos h5] at hrun
    cases hrun
    repeat' (first | ((with_reducible apply wl_callp (f := 206)); exact rfl; exact rfl; exact hh) | ((with_reducible apply wl_callin (f := 292)); exact rfl; exact rfl; exact hat.skip hc (c := 5) (by rw [ht]; exact h5) (by decide) (MSub.pick pK (MSub.pick pK (MSub.pick pK (MSub.refl _)))); rintro _ _ ⟨rfl, lv1, h1, rfl⟩) | ((with_reducible apply wl_callin (f := 293)); exact rfl; exact rfl; exact FnIn.msub (pPut_at ⟨2, zeroV, t.rect, 0, 0, 0⟩ _ _ _ _ _ _ _ _ _ (At.len hat hl) _ _) (MSub.pick pK (MSub.pick pK (MSub.pick pK (MSub.refl _)))); rintro _ _ ⟨rfl, B3, cb3, rfl⟩) | refine sT ?_ | refine sP ?_ | refine sM fun _ => ?_ | (refine sC ?_ ?_ <;> intro hb <;> try omega) | fail)
    all_goals first
      | (exfalso; omega)
      | (refine fin_ok (p' := p.skip.put ⟨2, zeroV, t.rect, 0, 0, 0⟩) (B' := B3) (cb' := cb3) (by first | exact .inr rfl | exact .inl rfl) rfl rfl (h1.put _) ?_
         simp only [List.append_eq, List.cons_append, List.nil_append, pB]
         exact mS)
  rw [if_neg h5] at hrun
  by_cases h9 : t.kind = 9
  · rw [if_pos h9] at hrun
    obtain ⟨r1, hr1, hr2⟩ := thenP_inv hrun
    repeat' (first | ((with_reducible apply wl_callp (f := 206)); exact rfl; exact rfl; exact hh) | ((with_reducible apply wl_callin (f := 292)); exact rfl; exact rfl; exact hat.skip hc (c := 9) (by rw [ht]; exact h9) (by decide) (MSub.pick pK (MSub.pick pK (MSub.pick pK (MSub.refl _)))); rintro _ _ ⟨rfl, lv1, h1, rfl⟩) | (refine wl_callP (f := 205) rfl rfl (FnP.msub (ih f (Nat.le_refl _) toks A cap fin g p.skip _ B cb r1 _ w0 hc hl (At1.at h1) hr1) (MSub.pick pK (MSub.pick pK (MSub.pick pK (MSub.refl _))))) ?_ ?_) | (rintro _ _ ⟨rfl, n, p', lv', B', cb', rfl, h2, rfl⟩) | (rintro _ _ ⟨e, rfl, rfl, h3⟩) | (rcases hr2 with ⟨e, h, _⟩ | ⟨n1, p1, h, hw⟩; cases h; cases h; refine wl_callP (f := 350) rfl rfl (FnP.msub (want_ok 10 (by decide) toks A cap fin g p' _ B' cb' r _ w0 hc hl h2 hw) (MSub.pick pK (MSub.pick pK (MSub.pick pK (MSub.refl _))))) ?_ ?_) | refine sT ?_ | refine sP ?_ | refine sM fun _ => ?_ | (refine sC ?_ ?_ <;> intro hb <;> try omega) | fail)
    · refine fin_ok (B' := B') (cb' := cb') (by first | exact .inr rfl | exact .inl rfl) rfl rfl h2 ?_
      simp only [List.append_eq, List.cons_append, List.nil_append, pB]
      exact mS
    · exact fin_bad rfl (MSub.trans (.drop .hd (.refl _)) h3)
    · rcases hr2 with ⟨e', h, h5⟩ | ⟨n1, p1, h, h5⟩
      · cases h
        exact fin_bad h5 (MSub.trans (.drop .hd (.refl _)) h3)
      · cases h
  rw [if_neg h9, if_neg h7] at hrun
  cases hrun
  repeat' (first | ((with_reducible apply wl_callp (f := 206)); exact rfl; exact rfl; exact hh) | (refine wl_callP (f := 207) rfl rfl (pFail_at _ _ _ _ _ (fun _ _ => False)) ?_ ?_) | (exact fun _ _ h => h.elim) | (rintro _ _ ⟨rfl, rfl⟩) | refine sT ?_ | refine sP ?_ | refine sM fun _ => ?_ | (refine sC ?_ ?_ <;> intro hb <;> try omega) | fail)
  all_goals first
    | (exfalso; omega)
    | (refine fin_bad rfl ?_
       simp only [List.append_eq, List.cons_append, List.nil_append, pB]
       exact mS)
theorem parse_all (f:Nat):(∀ k:Int,1≤k→k≤4→POK f (.level k) 248 [.int .i64 k])∧POK f .sign 289 []∧POK f .pct 316 []∧POK f .prim 335 []∧POK f (.level 1) 205 []:=by
 induction f using Nat.strongRecOn with
 |_ f ih=>
  cases f with
  |zero=>
   refine ⟨fun k _ _=> ?_,?_,?_,?_,?_⟩
   all_goals exact fun toks A cap fin g p lv B cb r R w0 hc hl hat h=>by cases h
  |succ f=>
   have hL: ∀ k:Int,1≤k→k≤4→POK (f+1) (.level k) 248 [.int .i64 k]:=fun k h1 h4=>
    level_ok f k h1 h4 (fun h3 f' hf' =>(ih f' (by omega)).1 (k+1) (by omega) (by omega)) (fun f' hf' =>(ih f' (by omega)).2.1)
   refine ⟨hL,sign_ok f (ih f (by omega)).2.1 (ih f (by omega)).2.2.1,percent_ok f (ih f (by omega)).2.2.2.1,primary_ok f (fun f' hf' =>(ih f' (by omega)).2.2.2.2),formula_ok (f+1) (hL 1 (by omega) (by omega))⟩
end Go.SL
namespace Go.SL
open Go Go.Proofs
attribute [local irreducible] W WL WQ WG WA WX WLI WR WT VOp RW thn blk cutP scp retP retPP endB FnAt FnIn FnP
theorem rec_ret (p2 p3 p4:Value) (w0:World) (H:List Blk):FnD Tryz.prog 204 [p2,p3,p4] .returning w0 H H:=by
 refine fn_d Tryz.func204 rfl rfl Tryz.ntmps204 rfl rfl (.inl ⟨rfl,rfl⟩) ?_
 repeat' (first|((with_reducible apply wl_v);exact rfl;(with_reducible apply v_eqlin);exact rfl)|refine sT ?_|refine sM fun _=> ?_|(refine sC ?_ ?_<;>intro hb<;>try omega)|fail)
 all_goals exact ⟨by first|exact .inl rfl|exact .inr rfl,.refl _⟩
theorem rec_pan (g2 g3 g4:Nat) (x2 x3 x4:Value) (e:Int × Int) (w0:World) (R:List Blk):
  FnD Tryz.prog 204 [.pointer (some ⟨g2,0,none⟩),.pointer (some ⟨g3,0,none⟩),.pointer (some ⟨g4,0,none⟩)] (.panicking (chain1 (faultV e))) w0
   (.box g2 86 [x2]:: .box g3 3 [x3]:: .box g4 30 [x4]::R)
   (.box g2 86 [.slice none 0 0]:: .box g3 3 [.int .i64 e.1]:: .box g4 30 [.int .i64 e.2]::R):=by
 refine fn_d Tryz.func204 rfl rfl Tryz.ntmps204 rfl rfl (.inr rfl) ?_
 repeat' (first|((with_reducible apply wl_v);exact rfl;(with_reducible apply v_eqliv);exact rfl)|((with_reducible apply wl_v);exact rfl;(with_reducible apply v_typeAssert);exact rfl;exact rfl)|(rename_i g;refine w_drawBs (id:=7) [⟨4,g2,86,x2,.slice none 0 0⟩,⟨5,g3,3,x3,.int .i64 e.1⟩,⟨6,g4,30,x4,.int .i64 e.2⟩] (.box g 290 [.int .i64 e.1,.int .i64 e.2]::R) (by kernel_rfl) (by kernel_rfl) rfl mS ?_)|((with_reducible apply wg_valB);exact rfl;exact rfl;(exact vC))|(refine wg_putB [] [⟨5,g3,3,x3,.int .i64 e.1⟩,⟨6,g4,30,x4,.int .i64 e.2⟩] ⟨4,g2,86,x2,.slice none 0 0⟩ rfl rfl rfl rfl rfl rfl ?_)|(refine wg_putB [⟨4,g2,86,x2,.slice none 0 0⟩] [⟨6,g4,30,x4,.int .i64 e.2⟩] ⟨5,g3,3,x3,.int .i64 e.1⟩ rfl rfl rfl rfl rfl rfl ?_)|(refine wg_putB [⟨4,g2,86,x2,.slice none 0 0⟩,⟨5,g3,3,x3,.int .i64 e.1⟩] [] ⟨6,g4,30,x4,.int .i64 e.2⟩ rfl rfl rfl rfl rfl rfl ?_)|(with_reducible apply wg_nil)|refine sT ?_|refine sG ?_|refine sM fun _=> ?_|(refine sC ?_ ?_<;>intro hb<;>try omega)|fail)
 refine ⟨.inr rfl,?_⟩
 simp only [List.map_cons,List.map_nil,BoxT.post,List.cons_append,List.nil_append]
 exact mS
def formulaV (x:List Tk × Int × Int) (fin:Int):List Nd × Int × Int:=
 if x.2.2≠0 then ([],x.2.1,x.2.2)
 else match runP fin (20*x.1.length+40) (.level 1) ⟨x.1,[]⟩ with
  |none=>([],0,0)
  |some (.error (a,e))=>([],a,e)
  |some (.ok (_,p))=>
   if (hdT fin p.l).kind≠0 then ([],(hdT fin p.l).at_,4)
   else if checkE p.out≠0 then ([],0,checkE p.out)
   else (p.out,0,0)
theorem tokensG_len {tk:List Int→Option (Tk × Nat)} {l:List Int} (f:Nat): ∀ (i:Nat) (r:List Tk),tokensG tk l f i= .ok r→r.length≤f:=by
 induction f with
 |zero=>intro i r h;simp only [tokensG,Except.ok.injEq] at h;subst h;exact Nat.le_refl _
 |succ f ih=>
  intro i r h
  simp only [tokensG] at h
  split at h
  ·
   cases h;exact Nat.zero_le _
  ·
   split at h
   ·
    exact Nat.le_succ_of_le (ih _ _ h)
   ·
    split at h
    ·
     cases h
    ·
     rename_i t n _
     cases hr:tokensG tk l f (i+n) with
     |error e=>rw [hr] at h;cases h
     |ok r' =>
      rw [hr] at h
      cases h
      exact Nat.succ_le_succ (ih _ _ hr)
theorem tokensV_len (tk:List Int→Option (Tk × Nat)) (l:List Int):(tokensV tk l).1.length≤256:=by
 unfold tokensV
 split
 ·
  exact Nat.zero_le _
 ·
  split
  ·
   exact Nat.zero_le _
  ·
   split
   ·
    rename_i h
    have:=tokensG_len _ _ _ h
    dsimp only
    omega
   ·
    exact Nat.zero_le _
theorem At.start (toks:List Tk) (A:Option Nat) (cap:Nat):At toks A cap ⟨toks,[]⟩ (sl A toks.length cap):=
 ⟨0,Nat.zero_le _,rfl,Nat.le_refl _,A.map fun g=>⟨g,0,none⟩,by simp [sl],fun _=>by simp⟩
def treeV (A:Option Nat) (cap:Nat) (r:List Nd × Int × Int):Value:= .tuple #[sl A r.1.length cap,.int .i64 r.2.1,.int .i64 r.2.2]
set_option maxHeartbeats 4000000 in
theorem Formula_at (a:ByteArray) (w:World) (hW:Words w) (r:List Nd × Int × Int) (hr:r=formulaV (tokensV tokenP (ints a)) (a.size:Int)):
  FnAt Tryz.prog 153 [.string a] w fun v H=> ∃ A cap,v=treeV A cap r∧H= [.own A 174 11 r.1.length cap (r.1.flatMap encN)]:=by
 refine fn_at_d Tryz.func153 rfl Tryz.ntmps153 rfl ?_
 have htl:=tokensV_len tokenP (ints a)
 have hT:=fun w' (hm:Σ' H,Mem w w' H)=>Tokens_at a w' (hW.next hm.2)
 obtain ⟨⟨toks,at0,e0⟩,hx⟩: ∃ x,tokensV tokenP (ints a)=x:=⟨_,rfl⟩
 rw [hx] at hr htl
 simp only [hx,tokV3] at hT
 dsimp only at htl
 refine rw_nilrow 174 11 ?_
 refine rw_nilrow 174 11 ?_
 refine rw_seq (fun e a w _ h=>d_end0 h) ?_
 obtain ⟨r1,hr1,_⟩:=runP_ends (a.size:Int) (20*toks.length+40) (.level 1) ⟨toks,[]⟩ ⟨by omega,by omega⟩ (by simp [Job.c])
 have hP: ∀ (A:Option Nat) (cap g:Nat) (R:List Blk),toks.length≤cap→FnP Tryz.prog 205 [.pointer (some ⟨g,0,none⟩)] w (pB g (sl A toks.length cap) A cap (a.size:Int) toks none 0 []++R) (PR toks A cap (a.size:Int) g R r1) (PD R r1):=fun A cap g R hc=>
  (parse_all (20*toks.length+40)).2.2.2.2 toks A cap (a.size:Int) g ⟨toks,[]⟩ (sl A toks.length cap) none 0 r1 R w hc (by omega) (At.start toks A cap) hr1
 obtain ⟨ff,hff⟩: ∃ ff,20*toks.length+40=ff:=⟨_,rfl⟩
 rw [hff] at hr1
 repeat' (first|((with_reducible apply wl_call (f:=203));exact rfl;exact rfl;exact fun w' hm=>hT w' ⟨_,hm⟩;rintro _ _ ⟨A,cap,rfl,rfl⟩)|(rename_i g2 g3 g4;refine rw_defer (cs:= [_,_,_]) rfl rfl ?_)|(refine rw_seq (fun e a w _ h=>d_end0 h) ?_)|(refine rw_end (fun e a w h=>d_end1 h) ?_)|(rename_i g2 g3 g4;refine w_drawBs (id:=3) [⟨2,g2,86,.slice none 0 0,.slice none 0 0⟩,⟨3,g3,3,.int .i64 at0,.int .i64 at0⟩,⟨4,g4,30,.int .i64 e0,.int .i64 e0⟩] [.own none 174 11 0 0 []] (by kernel_rfl) (by kernel_rfl) rfl mS ?_)|(refine wg_putB [] [⟨3,g3,3,.int .i64 at0,.int .i64 at0⟩,⟨4,g4,30,.int .i64 e0,.int .i64 e0⟩] ⟨2,g2,86,.slice none 0 0,.slice none 0 0⟩ rfl rfl rfl rfl rfl rfl ?_)|(refine wg_putB [⟨2,g2,86,.slice none 0 0,.slice none 0 0⟩] [⟨4,g4,30,.int .i64 e0,.int .i64 e0⟩] ⟨3,g3,3,.int .i64 at0,.int .i64 at0⟩ rfl rfl rfl rfl rfl rfl ?_)|(refine wg_putB [⟨2,g2,86,.slice none 0 0,.slice none 0 0⟩,⟨3,g3,3,.int .i64 at0,.int .i64 at0⟩] [] ⟨4,g4,30,.int .i64 e0,.int .i64 e0⟩ rfl rfl rfl rfl rfl rfl ?_)|(refine wg_getB ⟨3,g3,3,.int .i64 at0,.int .i64 at0⟩ (.tail _ (.head _)) (f:=60) (j:=3) rfl (by decide+kernel) rfl rfl rfl ?_)|(refine wg_getB ⟨4,g4,30,.int .i64 e0,.int .i64 e0⟩ (.tail _ (.tail _ (.head _))) (f:=60) (j:=4) rfl (by decide+kernel) rfl rfl rfl ?_)|(with_reducible apply wg_nil)|((with_reducible apply wl_v);exact rfl;(with_reducible apply v_makeMeth);exact rfl)|((with_reducible apply wl_v);exact rfl;(with_reducible apply v_nilCheck);exact rfl)|((with_reducible apply wl_callmP (f:=205));exact rfl;exact rfl;infer_instance;exact rfl;rename_i gp;exact FnP.own (A:=A) pK (fun hcap=>FnP.msub (hP A cap _ _ hcap) (MSub.pick pK (MSub.pick pK (MSub.pick pK (MSub.refl _))))))|(rintro _ _ ⟨rfl,n,p',lv',B',cb',rfl,h2,rfl⟩;obtain ⟨u,hu⟩: ∃ u,hdT (a.size:Int) p'.l=u:=⟨_,rfl⟩)|(rintro _ _ ⟨e,rfl,rfl,h3⟩)|((with_reducible apply wl_callp (f:=206));exact rfl;exact rfl;(intro w' hm';exact At.head' (B:=B') (cb:=cb') (out:=p'.out) (fin:=(a.size:Int)) h2 hu (MSub.pick pK (MSub.pick pK (MSub.pick pK (MSub.nil _)))) w' hm'))|((with_reducible apply wl_callp (f:=180));exact rfl;exact rfl;(intro w' hm';exact Check_at p'.out _ w' (Reads.of_own (A:=B') hm' pK)))|(refine wl_callP (f:=207) rfl rfl (pFail_at _ _ _ _ _ (fun _ _=>False)) ?_ ?_)|(exact fun _ _ h=>h.elim)|(rintro _ _ ⟨rfl,rfl⟩)|refine sT ?_|refine sP ?_|refine sG ?_|refine sM fun _=> ?_|(refine sC ?_ ?_<;>intro hb<;>try omega)|fail)
 ·
  have hr' :r=([],at0,e0):=by rw [hr];simp [formulaV,hb]
  subst hr'
  simp only [List.map_cons,List.map_nil,BoxT.post,List.cons_append,List.nil_append]
  exact retc111 (.inl rfl) rfl rfl pK rfl pK rfl pK (H' := [.own none 174 11 0 0 []]) mS ⟨none,0,rfl,rfl⟩
 ·
  rename_i he0 gp _ u0 hu0 g1
  have hr' :r=([],u0.at_,4):=by rw [hr];simp [formulaV,hff,hr1,hu0,hb,Classical.not_not.1 he0]
  subst hr'
  refine ⟨_,.box g2 86 [.slice none 0 0]:: .box g3 3 [.int .i64 at0]:: .box g4 30 [.int .i64 e0]:: [.own none 174 11 0 0 []],_,rfl,?_,rec_pan g2 g3 g4 _ _ _ (u0.at_,4) w _,retc111 (.inl rfl) rfl rfl pK rfl pK rfl pK (H' := [.own none 174 11 0 0 []]) mS ⟨none,0,rfl,rfl⟩⟩
  simp only [List.append_eq,List.cons_append,List.nil_append,pB]
  exact mS
 ·
  rename_i he0 gp _ g1 hb1
  have hr' :r=([],0,checkE p'.out):=by rw [hr];simp [formulaV,hff,hr1,hu,Classical.not_not.1 hb1,hb,Classical.not_not.1 he0]
  subst hr'
  exact ⟨.returning,_,_,rfl,.refl _,rec_ret _ _ _ _ _,retc111 (.inl rfl) rfl rfl pK rfl pK rfl pK (H' := [.own none 174 11 0 0 []]) mS ⟨none,0,rfl,rfl⟩⟩
 ·
  rename_i he0 gp _ g1 hb1
  have hr' :r=(p'.out,0,0):=by rw [hr];simp [formulaV,hff,hr1,hu,Classical.not_not.1 hb1,Classical.not_not.1 hb,Classical.not_not.1 he0]
  subst hr'
  exact ⟨.returning,_,_,rfl,.refl _,rec_ret _ _ _ _ _,retc111 (.inl rfl) rfl rfl pK rfl pK rfl pK (H' := [.own B' 174 11 p'.out.length cb' (p'.out.flatMap encN)]) mS ⟨B',cb',rfl,rfl⟩⟩
 ·
  have hr' :r=([],e.1,e.2):=by rw [hr];simp [formulaV,hff,hr1,Classical.not_not.1 hb]
  subst hr'
  refine ⟨_,.box g2 86 [.slice none 0 0]:: .box g3 3 [.int .i64 at0]:: .box g4 30 [.int .i64 e0]:: [.own none 174 11 0 0 []],_,rfl,MSub.trans ?_ h3,rec_pan g2 g3 g4 _ _ _ e w _,retc111 (.inl rfl) rfl rfl pK rfl pK rfl pK (H' := [.own none 174 11 0 0 []]) mS ⟨none,0,rfl,rfl⟩⟩
  exact mS
def cutB (a b:ByteArray):ByteArray × Bool:=if (ints a).take b.size=ints b then (sub a b.size a.size,true) else (a,false)
theorem cut2_at (a b:ByteArray) (ha:a.size≤1000000) (w:World):Pure Tryz.prog 192 [.string a,.string b] w (.tuple #[.string (cutB a b).1,.bool (cutB a b).2]):=by
 refine fn_at Tryz.func192 rfl Tryz.ntmps192 rfl ?_
 have hp:=hasPrefix2_at a b
 unfold cutB
 by_cases h:(ints a).take b.size=ints b
 ·
  rw [if_pos h]
  rw [decide_eq_true h] at hp
  have hb:b.size≤a.size:=by
   have:=congrArg List.length h
   rw [List.length_take,ints_length,ints_length] at this
   omega
  repeat' (first|((with_reducible apply wl_callp);exact rfl;exact rfl;(intro w hm;exact hp w))|refine sT ?_|refine sT2 ?_|refine sM fun _=> ?_|(refine sC ?_ ?_<;>intro hb<;>try omega)|fail)
  all_goals exact ret2 eIO rfl rfl rfl (.refl _) rfl
 ·
  rw [if_neg h]
  rw [decide_eq_false h] at hp
  repeat' (first|((with_reducible apply wl_callp);exact rfl;exact rfl;(intro w hm;exact hp w))|refine sT ?_|refine sT2 ?_|refine sM fun _=> ?_|(refine sC ?_ ?_<;>intro hb<;>try omega)|fail)
  all_goals exact ret2 eIO rfl rfl rfl (.refl _) rfl
theorem cut_at (a b:ByteArray) (ha:a.size≤1000000) (w:World):Pure Tryz.prog 151 [.string a,.string b] w (.tuple #[.string (cutB a b).1,.bool (cutB a b).2]):=by
 refine fn_at Tryz.func151 rfl Tryz.ntmps151 rfl ?_
 repeat' (first|((with_reducible apply wl_callp);exact rfl;exact rfl;(intro w hm;exact cut2_at a b ha w))|refine sT ?_|refine sM fun _=> ?_|(refine sC ?_ ?_<;>intro hb<;>try omega)|fail)
 all_goals exact ret2 eIO rfl rfl rfl (.refl _) rfl
def try1 (b:ByteArray):Vl × Bool:=(zeroV,decide (b=emptyB))
def quoteB:ByteArray:=⟨#[39]⟩
def try2 (b:ByteArray):Vl × Bool:=(⟨3,0,(cutB b quoteB).1⟩,(cutB b quoteB).2)
def try3 (b:ByteArray):Vl × Bool:=(boolTextV ⟨3,0,b⟩,decide ((boolTextV ⟨3,0,b⟩).kind=2))
def try4 (b:ByteArray):Vl × Bool:=(failV (codeE b).1,decide ((codeE b).2=0) && decide ((codeE b).1≤5))
def try5 (b:ByteArray):Vl × Bool:=if (decL (ints b)).2=3 then (failV 3,true) else (makeV (decL (ints b)).1,decide ((decL (ints b)).2=0))
def tryV (x:Vl × Bool):Value:= .tuple #[.agg (encV x.1).toArray,.bool x.2]
theorem try1_at (b:ByteArray) (g:Nat) (w:World) (hr:Ro w g 0 [.string b]):Pure Tryz.prog 193 [.pointer (some ⟨g,0,none⟩)] w (tryV (try1 b)):=by
 refine fn_at Tryz.func193 rfl Tryz.ntmps193 rfl ?_
 have hm:Mem w w []:=Mem.refl w
 repeat' (first|(rename_i g1;refine w_drawL (id:=1) 3 [.box g1 172 (encV zeroV)] (by kernel_rfl) (by kernel_rfl) rfl ?_)|((with_reducible apply wg_v);exact rfl;(intro D ht;(with_reducible apply v_load_ro (o:=0) (off:=0));exact hr;exact rfl;exact rfl);exact fun _=>rfl)|((with_reducible apply wg_lput_box);exact rfl;exact rfl;exact pK;(iterate 3 exact rfl);decide;exact .refl _)|refine sT ?_|refine sG ?_|refine sM fun _=> ?_|(refine sC ?_ ?_<;>intro hb<;>try omega)|fail)
 all_goals ((refine eRCT ?_);rfl)
theorem try2_at (b:ByteArray) (hb:b.size≤1000000) (g:Nat) (w:World) (hr:Ro w g 0 [.string b]):Pure Tryz.prog 194 [.pointer (some ⟨g,0,none⟩)] w (tryV (try2 b)):=by
 refine fn_at Tryz.func194 rfl Tryz.ntmps194 rfl ?_
 repeat' (first|((with_reducible apply wl_v);exact rfl;(with_reducible apply v_load_ro (o:=0) (off:=0));exact hr;exact rfl;exact rfl)|((with_reducible apply wl_callp);exact rfl;exact rfl;(intro w hm;exact cut_at b quoteB hb w))|refine sT ?_|refine sM fun _=> ?_|(refine sC ?_ ?_<;>intro hb<;>try omega)|fail)
 all_goals ((refine eRCT ?_);rfl)
theorem try3_at (b:ByteArray) (hb:b.size≤1000000) (g:Nat) (w:World) (hr:Ro w g 0 [.string b]):Pure Tryz.prog 195 [.pointer (some ⟨g,0,none⟩)] w (tryV (try3 b)):=by
 refine fn_at Tryz.func195 rfl Tryz.ntmps195 rfl ?_
 have hT:=fun w' =>ToBool_at ⟨3,0,b⟩ rfl hb w'
 unfold try3
 generalize boolTextV ⟨3,0,b⟩=v at hT
 repeat' (first|((with_reducible apply wl_v);exact rfl;(with_reducible apply v_load_ro (o:=0) (off:=0));exact hr;exact rfl;exact rfl)|((with_reducible apply wl_callp);exact rfl;exact rfl;(intro w hm;exact hT w))|(rename_i g1 g2;refine w_drawB (id:=2) (g:=g1) (T:=172) (xs' :=encV v) (R:= [.box g2 172 (encV v)]) (fun D=> [if D 4 then .int .u8 v.kind else .int .u8 0,if D 4 then .int .i64 v.num else .int .i64 0,if D 4 then .string v.text else .string emptyB]) (by kernel_rfl) (by kernel_rfl) pK rfl (by intro D hD;simp [hD 4 (by decide),encV]) ?_)|refine sT ?_|refine sG ?_|refine sM fun _=> ?_|(refine sC ?_ ?_<;>intro hb<;>try omega)|fail)
 all_goals ((refine eRCT ?_);rfl)
theorem try4_at (b:ByteArray) (hb:b.size≤1000000) (g:Nat) (w:World) (hr:Ro w g 0 [.string b]) (hW:Words w):Pure Tryz.prog 197 [.pointer (some ⟨g,0,none⟩)] w (tryV (try4 b)):=by
 refine fn_at Tryz.func197 rfl Tryz.ntmps197 rfl ?_
 unfold try4
 have hC:=fun (w' :World) (h:Words w')=>Code_at b hb w' h
 generalize codeE b=x at hC
 obtain ⟨c,e⟩:=x
 repeat' (first|((with_reducible apply wl_v);exact rfl;(with_reducible apply v_load_ro (o:=0) (off:=0));exact hr;exact rfl;exact rfl)|((with_reducible apply wl_callp (f:=198));exact rfl;exact rfl;(intro w' hm';exact hC w' (hW.next hm')))|((with_reducible apply wl_callp (f:=199));exact rfl;exact rfl;(intro w' hm';exact Fail_at c w'))|refine sT ?_|refine sM fun _=> ?_|(refine sC ?_ ?_<;>intro hb<;>try omega)|fail)
 all_goals ((refine eRCT ?_);simp_all [tryV,encV])
theorem try5_at (b:ByteArray) (hb:b.size≤1000000) (g:Nat) (w:World) (hr:Ro w g 0 [.string b]):Pure Tryz.prog 200 [.pointer (some ⟨g,0,none⟩)] w (tryV (try5 b)):=by
 refine fn_at Tryz.func200 rfl Tryz.ntmps200 rfl ?_
 unfold try5
 have hC:=fun (w' :World)=>decParse_at b hb w'
 generalize decL (ints b)=x at hC
 obtain ⟨n,e⟩:=x
 repeat' (first|((with_reducible apply wl_v);exact rfl;(with_reducible apply v_load_ro (o:=0) (off:=0));exact hr;exact rfl;exact rfl)|((with_reducible apply wl_callp);exact rfl;exact rfl;(intro w hm;exact hC w))|((with_reducible apply wl_callp (f:=199));exact rfl;exact rfl;(intro w' hm';exact Fail_at 3 w'))|((with_reducible apply wl_callp (f:=202));exact rfl;exact rfl;(intro w' hm';exact Make_at n w'))|refine sT ?_|refine sM fun _=> ?_|(refine sC ?_ ?_<;>intro hb<;>try omega)|fail)
 all_goals ((refine eRCT ?_);simp_all [tryV,encV])
def constFs:List Nat:= [193,194,195,197,200]
def triesP:List (ByteArray→Vl × Bool):= [try1,try2,try3,try4,try5]
def constFrom (b:ByteArray):List (ByteArray→Vl × Bool)→Vl
 | []=>⟨3,0,b⟩
 |t::r=>if (t b).2 then (t b).1 else constFrom b r
def constP (b:ByteArray):Vl:=constFrom b triesP
theorem tries_at (b:ByteArray) (hb:b.size≤1000000) (g k:Nat) (hk:k<5): ∃ f t,triesP.drop k=t::triesP.drop (k+1)∧(constFs.map fun f=>Value.func (.func f) #[] #[.pointer (some ⟨g,0,none⟩)])[k]? =some (.func (.func f) #[] #[.pointer (some ⟨g,0,none⟩)])∧Callable Tryz.prog f∧
  ∀ w,Ro w g 0 [.string b]→Words w→Pure Tryz.prog f [.pointer (some ⟨g,0,none⟩)] w (tryV (t b)):=by
 rcases (by omega:k=0∨k=1∨k=2∨k=3∨k=4) with rfl|rfl|rfl|rfl|rfl
 ·
  exact ⟨_,_,rfl,rfl,inferInstance,fun w hr _=>try1_at b g w hr⟩
 ·
  exact ⟨_,_,rfl,rfl,inferInstance,fun w hr _=>try2_at b hb g w hr⟩
 ·
  exact ⟨_,_,rfl,rfl,inferInstance,fun w hr _=>try3_at b hb g w hr⟩
 ·
  exact ⟨_,_,rfl,rfl,inferInstance,fun w hr hW=>try4_at b hb g w hr hW⟩
 ·
  exact ⟨_,_,rfl,rfl,inferInstance,fun w hr _=>try5_at b hb g w hr⟩
set_option maxHeartbeats 1000000 in
theorem constant_at (b:ByteArray) (hb:b.size≤1000000) (w:World) (hW:Words w):Pure Tryz.prog 152 [.string b] w (.agg (encV (constP b)).toArray):=by
 refine fn_at Tryz.func152 rfl Tryz.ntmps152 rfl ?_
 repeat' (first|refine sT ?_|refine sS ?_|refine sM fun _=> ?_|(refine sC ?_ ?_<;>intro hb<;>try omega)|fail)
 rename_i g1 g2 g3
 refine w_loopK [1,2,13,14] rfl (fun x:Nat × Vl=> [(4,.bool false),(15,.int .i64 (x.1:Int))]) (fun x=> [.own (some g3) 279 1 5 5 (constFs.map fun f=>Value.func (.func f) #[] #[.pointer (some ⟨g1,0,none⟩)]),.box g2 172 (encV x.2),.box g1 9 [.string b]]) (fun x=>x.1≤5∧constP b=constFrom b (triesP.drop x.1)) (fun x=>5 - x.1) (0,zeroV) ⟨by omega,rfl⟩ sB mS ?_
 rintro ⟨k,v⟩ ⟨hk,hkt⟩
 dsimp only at hk hkt ⊢
 by_cases hk5:k<5
 ·
  obtain ⟨f,t,r1,r2,r3,r4⟩:=tries_at b hb g1 k hk5
  rw [r1,constFrom] at hkt
  obtain ⟨⟨v',is⟩,ht⟩: ∃ x,t b=x:=⟨_,rfl⟩
  rw [ht] at hkt r4
  cases is with
  |true=>
   rw [if_pos rfl] at hkt
   repeat' (first|((with_reducible apply wl_v);exact rfl;(with_reducible apply v_indexAddr (j:=k));exact rfl;exact rfl;exact hk5)|((with_reducible apply wl_v);exact rfl;(with_reducible apply v_load_own (off:=0+k*1));exact rfl;exact pK;(rw [Nat.zero_add,Nat.mul_one];exact r2))|((with_reducible apply wl_callvp);exact rfl;exact rfl;exact r3;exact rfl;(intro w' hm;exact r4 w' (Ro.of_box hm pK) (hW.next hm)))|refine sT ?_|refine sS ?_|refine sN ?_|refine sM fun _=> ?_|(refine sC ?_ ?_<;>intro hb<;>try omega)|fail)
   all_goals (rw [hkt];(refine eRC ?_);rfl)
  |false=>
   rw [if_neg (by simp)] at hkt
   repeat' (first|((with_reducible apply wl_v);exact rfl;(with_reducible apply v_indexAddr (j:=k));exact rfl;exact rfl;exact hk5)|((with_reducible apply wl_v);exact rfl;(with_reducible apply v_load_own (off:=0+k*1));exact rfl;exact pK;(rw [Nat.zero_add,Nat.mul_one];exact r2))|((with_reducible apply wl_callvp);exact rfl;exact rfl;exact r3;exact rfl;(intro w' hm;exact r4 w' (Ro.of_box hm pK) (hW.next hm)))|refine sT ?_|refine sS ?_|refine sN ?_|refine sM fun _=> ?_|(refine sC ?_ ?_<;>intro hb<;>try omega)|fail)
   refine ⟨(k+1,v'),?_,(by first|omega|(dsimp only;omega)),sB,sB,mS⟩
   exact ⟨hk5,hkt⟩
 ·
  have e:k=5:=by omega
  subst e
  have hkt:constP b=⟨3,0,b⟩:=hkt
  rw [hkt]
  repeat' (first|refine sT ?_|refine sS ?_|refine sN ?_|refine sM fun _=> ?_|(refine sC ?_ ?_<;>intro hb<;>try omega)|fail)
  all_goals first|(exfalso;omega)|((refine eRC ?_);rfl)
end Go.SL

/-
  Lemmas and walks, put together: Q5 W15 W16 W17.
-/
import Derived.Test.YtpohljcebgacjaaGreatDoorKr18
set_option linter.unusedSimpArgs false
set_option linter.unusedVariables false
set_option maxRecDepth 20000
namespace Go.SL
open Go Go.Proofs
attribute [local irreducible] W WL WQ WG WA WX WLI WR WT WC VOp RW thn blk cutP scp retP retPP endB FnAt FnIn FnP ceP
def Lv.end (y:Lv) (x:Cx) (t:Tk) (fn:Int) (n k m:Nat) (r:Out):Prop:=n≤1000∧k≤y.k∧y.out.length+k≤m+y.k∧
 ((y.a=0∧y.e=0∧y.k≤x.toks.length∧n≤y.out.length∧endCall x.fin t fn n ⟨x.toks.drop y.k,y.out⟩=some r)∨(y.e≠0∧y.k≤x.toks.length+1∧r= .error (y.a,y.e)))
def Lv.arg (y:Lv) (x:Cx) (fn:Int) (n k m:Nat) (r:Out) (f:Nat):Prop:=y.f≤f∧n≤1000∧k≤y.k∧y.out.length+k≤m+y.k∧
 ((y.a=0∧y.e=0∧y.k≤x.toks.length∧n≤y.out.length∧(if (hdT x.fin (x.toks.drop y.k)).kind=11 then runP x.fin y.f (.args fn n) ⟨x.toks.drop (y.k+1),y.out⟩ else some (.ok (n,⟨x.toks.drop y.k,y.out⟩)))=some r)∨(y.e≠0∧y.k≤x.toks.length+1∧r= .error (y.a,y.e)))
theorem arg_start {x:Cx} {R H:List Blk} {v:Value} {f f' k m k0 m0 n:Nat} {fn:Int} {p:PS} {r r1:Out} (hf:f≤f') (hr1:argP f fn n x.fin p=some r1) (hm0:p.out.length=m0) (hn:n≤m0) (hm6:m0≤500)
  (hr2:(∃ e,r1= .error e∧r= .error e)∨(∃ n' p',r1= .ok (n',p')∧(if (hdT x.fin p'.l).kind=11 then runP x.fin f (.args fn (n+1)) p'.skip else some (.ok (n+1,p')))=some r)) (hR:RR x k0 m0 R r1 v H) (hk:k≤k0) (hm:m0+k≤m+k0):
  ∃ f2 k2 B2 cb2 o2 a2 e2,(Lv.mk f2 k2 B2 cb2 o2 a2 e2).arg x fn (n+1) k m r f' ∧f2≤f∧H=x.B k2 B2 cb2 o2 a2 e2++R:=by
 obtain ⟨_,hR⟩:=hR
 rcases hr2 with ⟨e,rfl,rfl⟩|⟨n1,p1,rfl,hr2⟩
 ·
  obtain ⟨k1,B1,cb1,o1,h1,h2,h3,h4,rfl⟩:=hR
  exact ⟨f,k1,B1,cb1,o1,e.1,e.2,⟨hf,by omega,by dsimp only;omega,by dsimp only;omega,.inr ⟨h1,h2,rfl⟩⟩,Nat.le_refl _,rfl⟩
 ·
  obtain ⟨k1,B1,cb1,h1,h2,h3,h4,rfl⟩:=hR
  have hg:=argP_grew hr1
  refine ⟨f,k1,B1,cb1,p1.out,0,0,⟨hf,by omega,by dsimp only;omega,by dsimp only;omega,.inl ⟨rfl,rfl,h1,by dsimp only;omega,?_⟩⟩,Nat.le_refl _,rfl⟩
  dsimp only
  rw [h2] at hr2
  have e1:p1.skip=⟨x.toks.drop (k1+1),p1.out⟩:=by simp only [PS.skip,h2,List.tail_drop]
  have e2:p1=⟨x.toks.drop k1,p1.out⟩:=by obtain ⟨l,o⟩:=p1;simp only at h2;rw [h2]
  rw [e1] at hr2
  rw [← e2]
  exact hr2
set_option maxHeartbeats 4000000 in
theorem rCall_ok (f : Nat) (t : Tk) (ih : ∀ f' ≤ f, RPOK f' (.level 1) 173 [.int .i64 1]) (x : Cx) (k : Nat) (p : PS) (B : Option Nat) (cb : Nat) (r : Out) (R : List Blk) (w0 : World) (hk : k < x.toks.length) (hp : p.l = x.toks.drop k) (hout : p.out.length ≤ k) (ht : hdT x.fin p.l = t) (ht7 : t.kind = 7) (hrun : callP f t x.fin p = some r) :
    FnIn Tryz.prog 288 [.pointer (some ⟨x.g, 0, none⟩), .agg (encTk t).toArray] w0 (x.B (k + 1) B cb p.out 0 0 ++ R) (RR x (k + 1) p.out.length R r) := by
  refine fn_in Tryz.func288 rfl Tryz.ntmps288 rfl ?_
  have hxt := x.ht
  have hF := fun w => refFunction_at t.text w
  have h9 : (hdT x.fin p.skip.l).kind = 9 := by
    have hc := x.hc.drop k
    rw [← hp] at hc
    exact hc.name (by rw [ht]; exact ht7)
  have hd9 : ∃ u, hdT x.fin (x.toks.drop (k + 1)) = u ∧ u.kind = 9 := ⟨_, rfl, by rw [← Cx.skip hp]; exact h9⟩
  obtain ⟨u9, hd9, hu9⟩ := hd9
  have hlt9 := Cx.lt hd9 (by omega)
  unfold callP at hrun
  have hfn : (functionE t.text).2 = 0 → 1 ≤ (functionE t.text).1 ∧ (functionE t.text).1 ≤ 50 := by
    intro h
    have hb1 := idxFrom_bound namesL t.text 0 (by omega)
    rw [namesL_length] at hb1
    unfold functionE at h ⊢
    split at h
    · cases h
    · rename_i hne
      rw [if_neg hne]
      dsimp only
      omega
  obtain ⟨fn, fe, hfe⟩ : ∃ fn fe, functionE t.text = (fn, fe) := ⟨_, _, rfl⟩
  rw [hfe] at hrun hF hfn
  dsimp only at hF hfn
  by_cases h0 : fe ≠ 0
  · rw [if_pos h0] at hrun
    cases hrun
    repeat' (first | ((with_reducible apply wl_callp (f := 301)); exact rfl; exact rfl; (intro w' _; exact hF w')) | ((with_reducible apply wl_callin (f := 174)); exact rfl; exact rfl; exact FnIn.msub (rFault_at x.g x.sa x.A _ x.cap (k + 1) B _ cb 0 0 _ _ _ _) (MSub.pick pK (.refl _)); rintro _ _ ⟨rfl, rfl⟩) | refine sT ?_ | refine sS ?_ | refine sN ?_ | refine sM fun _ => ?_ | (refine sC ?_ ?_ <;> intro hb <;> try omega) | exact cT | fail)
    all_goals first
      | (exfalso; omega)
      | (refine rr_bad (x' := (t.at_, 10)) (k' := k + 1) (out' := p.out) (B' := B) (cb' := cb) eIO rfl (by simp) (by omega) (Nat.le_refl _) (Nat.le_refl _) ?_
         simp only [Cx.B, rB, List.append_eq, List.cons_append, List.nil_append]
         exact mS)
  rw [if_neg h0] at hrun
  have hfe0 : fe = 0 := Classical.not_not.1 h0
  subst hfe0
  obtain ⟨hf1, hf2⟩ := hfn rfl
  rw [if_neg (by rw [h9]; simp)] at hrun
  have hp2 : p.skip.skip.l = x.toks.drop (k + 1 + 1) := Cx.skip (Cx.skip hp)
  obtain ⟨u, hd⟩ : ∃ u, hdT x.fin (x.toks.drop (k + 1 + 1)) = u := ⟨_, rfl⟩
  rw [hp2, hd] at hrun
  have e2 : p.skip.skip = ⟨x.toks.drop (k + 1 + 1), p.out⟩ := by
    have : p.skip.skip = ⟨p.skip.skip.l, p.out⟩ := rfl
    rw [this, hp2]
  rw [e2] at hrun
  repeat' (first | ((with_reducible apply wl_callp (f := 301)); exact rfl; exact rfl; (intro w' _; exact hF w')) | ((with_reducible apply wl_callin (f := 287)); exact rfl; exact rfl; exact FnIn.msub (rWant_ok 9 (Nat.le_trans x.hsa (by decide)) (Nat.le_trans x.ht (by decide)) (by omega) (B := B) (cb := cb) (out := p.out) (at_ := 0) (e := 0) (g := x.g) (A := x.A) (cap := x.cap) hd9 hu9 _ w0) (MSub.pick pK (MSub.pick pK (MSub.pick pK (MSub.refl _)))); rintro _ _ ⟨rfl, rfl⟩) | (rename_i g3; refine w_cutRK (id := 6) (ι := Nat × Lv) [0, 3, 4] rfl (fun y => [(6, .int .i64 (y.1 : Int))]) (fun y => .box g3 216 (encTk t) :: y.2.H x R) (fun y => y.2.end x t fn y.1 (k + 1 + 1) p.out.length r) ?_ ?_) | refine sT ?_ | refine sS ?_ | refine sN ?_ | refine sM fun _ => ?_ | (refine sC ?_ ?_ <;> intro hb <;> try omega) | exact cT | fail)
  · by_cases h10 : u.kind = 10
    · rw [if_pos h10] at hrun
      repeat' (first | ((with_reducible apply wl_v); exact rfl; (with_reducible apply v_field); exact rfl; exact rfl) | ((with_reducible apply wl_callp (f := 175)); exact rfl; exact rfl; exact fun w hm => Cx.next hd (B := B) (cb := cb) (out := p.out) (at_ := 0) (e := 0) (MSub.pick pK (MSub.pick pK (MSub.pick pK (MSub.nil _)))) w hm) | (refine cut_n (0, ⟨0, k + 1 + 1, B, cb, p.out, 0, 0⟩) ?_ sB (by simp only [Lv.H, Cx.B, rB, List.cons_append, List.nil_append]; exact mS)) | refine sT ?_ | refine sS ?_ | refine sN ?_ | refine sM fun _ => ?_ | (refine sC ?_ ?_ <;> intro hb <;> try omega) | exact cT | fail)
      all_goals first | (exfalso; omega) | exact ⟨Nat.zero_le _, Nat.le_refl _, by dsimp only; omega, .inl ⟨rfl, rfl, by dsimp only; omega, Nat.zero_le _, hrun⟩⟩
    · rw [if_neg h10] at hrun
      obtain ⟨r0, hr0, hrend⟩ := thenP_inv hrun
      cases f with
      | zero => cases hr0
      | succ f =>
        rw [args_eq] at hr0
        obtain ⟨r1, hr1, hr2⟩ := thenP_inv hr0
        have hA0 := rArgument_ok f fn 0 hf1 hf2 (ih f (Nat.le_succ f))
        repeat' (first | ((with_reducible apply wl_v); exact rfl; (with_reducible apply v_field); exact rfl; exact rfl) | ((with_reducible apply wl_callp (f := 175)); exact rfl; exact rfl; exact fun w hm => Cx.next hd (B := B) (cb := cb) (out := p.out) (at_ := 0) (e := 0) (MSub.pick pK (MSub.pick pK (MSub.pick pK (MSub.nil _)))) w hm) | ((with_reducible apply wl_callin (f := 302)); exact rfl; exact rfl; exact FnIn.msub (hA0 x (k + 1 + 1) ⟨x.toks.drop (k + 1 + 1), p.out⟩ B cb r1 _ w0 (by omega) rfl (by dsimp only; omega) hr1) (MSub.pick pK (MSub.pick pK (MSub.pick pK (MSub.refl _)))); rintro v1 H1 hR; obtain ⟨f2, k2, B2, cb2, o2, a2, e2, hy, _, rfl⟩ := arg_start (f' := f) (k := k + 1 + 1) (m := p.out.length) (Nat.le_refl _) hr1 rfl (Nat.zero_le _) (by dsimp only; omega) hr2 hR (Nat.le_refl _) (Nat.le_refl _)) | refine sT ?_ | refine sS ?_ | refine sN ?_ | refine sM fun _ => ?_ | (refine sC ?_ ?_ <;> intro hb <;> try omega) | exact cT | fail)
        all_goals first | (exfalso; omega) | skip
        refine w_loopK [0, 3, 4] rfl (fun y : Nat × Lv => [(6, .int .i64 (y.1 : Int))]) (fun y => .box g3 216 (encTk t) :: y.2.H x R) (fun y => y.2.arg x fn y.1 (k + 1 + 1) p.out.length r0 f) (fun y => y.2.m) (1, ⟨f2, k2, B2, cb2, o2, a2, e2⟩) hy sB (by simp only [Lv.H, Cx.B, rB, List.append_eq, List.cons_append, List.nil_append]; exact mS) ?_
        clear hy hR hr1 hr2 hr0
        rintro ⟨n, f', k1, B1, cb1, o1, a, e⟩ ⟨hf', hn, h3, h4, hor⟩
        dsimp only at hf' hn h3 h4 hor
        simp only [Lv.H]
        rcases hor with ⟨rfl, rfl, h1, hno, hr2⟩ | ⟨h1, h2, rfl⟩
        · obtain ⟨u1, hd1⟩ : ∃ u, hdT x.fin (x.toks.drop k1) = u := ⟨_, rfl⟩
          rw [hd1] at hr2
          by_cases h11 : u1.kind = 11
          · rw [if_pos h11] at hr2
            have hlt1 := Cx.lt hd1 (by omega)
            cases f' with
            | zero => cases hr2
            | succ f' =>
              rw [args_eq] at hr2
              obtain ⟨r2, hr3, hr4⟩ := thenP_inv hr2
              have hA1 := rArgument_ok f' fn n hf1 hf2 (ih f' (by omega))
              repeat' (first | ((with_reducible apply wl_v); exact rfl; (with_reducible apply v_field); exact rfl; exact rfl) | ((with_reducible apply wl_callp (f := 175)); exact rfl; exact rfl; exact fun w hm => Cx.next hd1 (B := B1) (cb := cb1) (out := o1) (at_ := 0) (e := 0) (MSub.pick pK (MSub.pick pK (MSub.pick pK (MSub.nil _)))) w hm) | ((with_reducible apply wl_callin (f := 302)); exact rfl; exact rfl; exact FnIn.msub (hA1 x (k1 + 1) ⟨x.toks.drop (k1 + 1), o1⟩ B1 cb1 r2 _ w0 hlt1 rfl (by dsimp only; omega) hr3) (MSub.pick pK (MSub.pick pK (MSub.pick pK (MSub.refl _)))); rintro v1 H1 hR; obtain ⟨f2, k2, B2, cb2, o2, a2, e2, hy, hff, rfl⟩ := arg_start (f' := f) (k := k + 1 + 1) (m := p.out.length) (by omega) hr3 rfl hno (by dsimp only; omega) hr4 hR (by omega) (by dsimp only; omega)) | refine sT ?_ | refine sS ?_ | refine sN ?_ | refine sM fun _ => ?_ | (refine sC ?_ ?_ <;> intro hb <;> try omega) | exact cT | fail)
              all_goals first | (exfalso; omega) | (exfalso; simp_all; done) | skip
              refine ⟨(n + 1, ⟨f2, k2, B2, cb2, o2, a2, e2⟩), hy, (by simp only [Lv.m, if_true]; split <;> omega), sB, sB, ?_⟩
              simp only [Lv.H, Cx.B, rB, List.append_eq, List.cons_append, List.nil_append]
              exact mS
          · rw [if_neg h11] at hr2
            cases hr2
            repeat' (first | ((with_reducible apply wl_v); exact rfl; (with_reducible apply v_field); exact rfl; exact rfl) | ((with_reducible apply wl_callp (f := 175)); exact rfl; exact rfl; exact fun w hm => Cx.next hd1 (B := B1) (cb := cb1) (out := o1) (at_ := 0) (e := 0) (MSub.pick pK (MSub.pick pK (MSub.pick pK (MSub.nil _)))) w hm) | (refine cut_n (n, ⟨0, k1, B1, cb1, o1, 0, 0⟩) ?_ sB (by simp only [Lv.H, Cx.B, rB, List.append_eq, List.cons_append, List.nil_append]; exact mS)) | refine sT ?_ | refine sS ?_ | refine sN ?_ | refine sM fun _ => ?_ | (refine sC ?_ ?_ <;> intro hb <;> try omega) | exact cT | fail)
            all_goals first | (exfalso; omega) | (exfalso; simp_all; done) | skip
            rcases hrend with ⟨e, h, _⟩ | ⟨n3, p3, h, h7⟩
            · cases h
            · cases h
              exact ⟨hn, h3, h4, .inl ⟨rfl, rfl, h1, hno, h7⟩⟩
        · repeat' (first | (refine cut_n (n, ⟨0, k1, B1, cb1, o1, a, e⟩) ?_ sB (by simp only [Lv.H, Cx.B, rB, List.append_eq, List.cons_append, List.nil_append]; exact mS)) | refine sT ?_ | refine sS ?_ | refine sN ?_ | refine sM fun _ => ?_ | (refine sC ?_ ?_ <;> intro hb <;> try omega) | exact cT | fail)
          all_goals first | (exfalso; omega) | exact absurd (by assumption) h1 | skip
          rcases hrend with ⟨e', h, h8⟩ | ⟨n3, p3, h, h7⟩
          · cases h
            exact ⟨hn, h3, h4, .inr ⟨h1, h2, h8⟩⟩
          · cases h
  · rintro ⟨n, f', k1, B1, cb1, o1, a, e⟩ ⟨hn, h3, h4, hor⟩
    dsimp only at hn h3 h4 hor
    simp only [Lv.H]
    clear hrun
    rcases hor with ⟨rfl, rfl, h1, hno, hend⟩ | ⟨h1, h2, rfl⟩
    rotate_left
    · repeat' (first | refine sT ?_ | refine sS ?_ | refine sN ?_ | refine sM fun _ => ?_ | (refine sC ?_ ?_ <;> intro hb <;> try omega) | exact cT | fail)
      all_goals first
        | (exfalso; omega)
        | exact absurd (by assumption) h1
        | (refine rr_bad (x' := (a, e)) (k' := k1) (out' := o1) (B' := B1) (cb' := cb1) eIO rfl h1 h2 (by omega) (by omega) ?_
           simp only [Cx.B, rB, List.append_eq, List.cons_append, List.nil_append]
           exact mS)
    have hA := fun w => refArity_at fn w
    have hak := arity_known (fn := fn) (by simp [knownF, hf1, hf2])
    have hap := arity_pos hf1 hf2
    rw [hak] at hap
    obtain ⟨least, most, hlm⟩ : ∃ a b, refArityE fn = (a, b) := ⟨_, _, rfl⟩
    rw [hlm] at hak hA hap
    dsimp only at hak hA hap
    obtain ⟨u1, hd1⟩ : ∃ u, hdT x.fin (x.toks.drop k1) = u := ⟨_, rfl⟩
    by_cases h10 : u1.kind ≠ 10
    · have hr' : r = .error (u1.at_, 4) := by
        simp only [endCall, hd1, if_pos h10] at hend
        exact (Option.some.inj hend).symm
      subst hr'
      repeat' (first | ((with_reducible apply wl_callin (f := 287)); exact rfl; exact rfl; exact FnIn.msub (rWant_no 10 (Nat.le_trans x.hsa (by decide)) (Nat.le_trans x.ht (by decide)) (B := B1) (cb := cb1) (out := o1) (at_ := 0) (e := 0) (g := x.g) (A := x.A) (cap := x.cap) hd1 h10 _ w0) (MSub.pick pK (MSub.pick pK (MSub.pick pK (MSub.refl _)))); rintro _ _ ⟨rfl, rfl⟩) | ((with_reducible apply wl_callp (f := 275)); exact rfl; exact rfl; (intro w' _; exact hA w')) | ((with_reducible apply wl_callin (f := 174)); exact rfl; exact rfl; exact FnIn.msub (rFault_at x.g x.sa x.A _ x.cap k1 B1 _ cb1 u1.at_ 4 _ _ _ _) (MSub.pick pK (.refl _)); rintro _ _ ⟨rfl, rfl⟩) | refine sT ?_ | refine sS ?_ | refine sN ?_ | refine sM fun _ => ?_ | (refine sC ?_ ?_ <;> intro hb <;> try omega) | exact cT | fail)
      all_goals first
        | (exfalso; omega)
        | (exfalso; simp_all; done)
        | (refine rr_bad (x' := (u1.at_, 4)) (k' := k1) (out' := o1) (B' := B1) (cb' := cb1) eIO rfl (by simp) (by omega) (by omega) (by (try simp only [List.length_append, List.length_singleton]); omega) ?_
           simp only [Cx.B, rB, List.length_append, List.length_singleton, List.flatMap_append, List.flatMap_cons, List.flatMap_nil, List.append_nil, List.append_eq, List.cons_append, List.nil_append]
           exact mS)
    have h10 : u1.kind = 10 := Classical.not_not.1 h10
    have hlt1 := Cx.lt hd1 (by omega)
    by_cases hr : (n : Int) < least ∨ most < (n : Int)
    · have hr' : r = .error (t.at_, 11) := by
        simp only [endCall, hd1, h10, hak, if_pos hr] at hend
        exact (Option.some.inj hend).symm
      subst hr'
      repeat' (first | ((with_reducible apply wl_callin (f := 287)); exact rfl; exact rfl; exact FnIn.msub (rWant_ok 10 (Nat.le_trans x.hsa (by decide)) (Nat.le_trans x.ht (by decide)) (by omega) (B := B1) (cb := cb1) (out := o1) (at_ := 0) (e := 0) (g := x.g) (A := x.A) (cap := x.cap) hd1 h10 _ w0) (MSub.pick pK (MSub.pick pK (MSub.pick pK (MSub.refl _)))); rintro _ _ ⟨rfl, rfl⟩) | ((with_reducible apply wl_callp (f := 275)); exact rfl; exact rfl; (intro w' _; exact hA w')) | ((with_reducible apply wl_callin (f := 174)); exact rfl; exact rfl; exact FnIn.msub (rFault_at x.g x.sa x.A _ x.cap (k1 + 1) B1 _ cb1 0 0 _ _ _ _) (MSub.pick pK (.refl _)); rintro _ _ ⟨rfl, rfl⟩) | refine sT ?_ | refine sS ?_ | refine sN ?_ | refine sM fun _ => ?_ | (refine sC ?_ ?_ <;> intro hb <;> try omega) | exact cT | fail)
      all_goals first
        | (exfalso; omega)
        | (exfalso; simp_all; done)
        | (refine rr_bad (x' := (t.at_, 11)) (k' := k1 + 1) (out' := o1) (B' := B1) (cb' := cb1) eIO rfl (by simp) (by omega) (by omega) (by (try simp only [List.length_append, List.length_singleton]); omega) ?_
           simp only [Cx.B, rB, List.length_append, List.length_singleton, List.flatMap_append, List.flatMap_cons, List.flatMap_nil, List.append_nil, List.append_eq, List.cons_append, List.nil_append]
           exact mS)
    have hpos : 0 < o1.length := by omega
    obtain ⟨xn, hx⟩ : ∃ xn, o1[o1.length - 1]? = some xn := ⟨_, List.getElem?_eq_getElem (by omega)⟩
    rw [endCall_eq (p := ⟨x.toks.drop k1, o1⟩) hx] at hend
    dsimp only at hend
    rw [hd1, hak, if_neg (by rw [h10]; simp)] at hend
    dsimp only at hend
    rw [if_neg hr] at hend
    refine w_some (A := B1) (by simp only [Cx.B, rB, List.append_eq, List.cons_append, List.nil_append]; exact pK) hpos fun gb hB => ?_
    subst hB
    by_cases hkx : 46 ≤ fn ∧ xn.kind ≠ 2 ∧ xn.kind ≠ 3
    · rw [if_pos hkx] at hend
      cases hend
      repeat' (first | ((with_reducible apply wl_callin (f := 287)); exact rfl; exact rfl; exact FnIn.msub (rWant_ok 10 (Nat.le_trans x.hsa (by decide)) (Nat.le_trans x.ht (by decide)) (by omega) (B := some gb) (cb := cb1) (out := o1) (at_ := 0) (e := 0) (g := x.g) (A := x.A) (cap := x.cap) hd1 h10 _ w0) (MSub.pick pK (MSub.pick pK (MSub.pick pK (MSub.refl _)))); rintro _ _ ⟨rfl, rfl⟩) | ((with_reducible apply wl_callp (f := 275)); exact rfl; exact rfl; (intro w' _; exact hA w')) | ((with_reducible apply w_draw (id := 19)); kernel_rfl; kernel_rfl) | ((with_reducible apply wq_v); exact rfl; (with_reducible apply v_predN); exact rfl; exact rfl; exact hpos; (simp only [maxLen]; omega)) | ((with_reducible apply wq_v); exact rfl; (with_reducible apply v_indexAddr); exact rfl; exact rfl; omega) | ((with_reducible apply wq_v); exact rfl; (with_reducible apply v_loadc_own (k := 0)); exact encN_len; exact rfl; exact pK; decide; exact hx; exact rfl) | ((with_reducible apply wl_callin (f := 174)); exact rfl; exact rfl; exact FnIn.msub (rFault_at x.g x.sa x.A _ x.cap (k1 + 1) (some gb) _ cb1 0 0 _ _ _ _) (MSub.pick pK (.refl _)); rintro _ _ ⟨rfl, rfl⟩) | ((with_reducible apply wl_append1); (iterate 3 exact rfl); exact pK; exact pK; exact rfl; (simp [encN, Value.oneCell']); omega; (simp only [maxLen]; omega); intro g8 c8) | refine sT ?_ | refine sS ?_ | refine sQ ?_ | refine sN ?_ | refine sNQ ?_ | refine sM fun _ => ?_ | (refine sC ?_ ?_ <;> intro hb <;> try omega) | (refine sCQ ?_ ?_ <;> intro hb <;> try omega) | exact cT | fail)
      all_goals first
        | (exfalso; omega)
        | (exfalso; simp_all; done)
        | (refine rr_bad (x' := (t.at_, 4)) (k' := k1 + 1) (out' := o1 ++ [⟨7, zeroV, zeroR, 0, fn, n⟩]) (B' := some g8) (cb' := c8) eIO rfl (by simp) (by omega) (by omega) (by (try simp only [List.length_append, List.length_singleton]); omega) ?_
           simp only [Cx.B, rB, List.length_append, List.length_singleton, List.flatMap_append, List.flatMap_cons, List.flatMap_nil, List.append_nil, List.append_eq, List.cons_append, List.nil_append]
           exact mS)
    · rw [if_neg hkx] at hend
      cases hend
      repeat' (first | ((with_reducible apply wl_callin (f := 287)); exact rfl; exact rfl; exact FnIn.msub (rWant_ok 10 (Nat.le_trans x.hsa (by decide)) (Nat.le_trans x.ht (by decide)) (by omega) (B := some gb) (cb := cb1) (out := o1) (at_ := 0) (e := 0) (g := x.g) (A := x.A) (cap := x.cap) hd1 h10 _ w0) (MSub.pick pK (MSub.pick pK (MSub.pick pK (MSub.refl _)))); rintro _ _ ⟨rfl, rfl⟩) | ((with_reducible apply wl_callp (f := 275)); exact rfl; exact rfl; (intro w' _; exact hA w')) | ((with_reducible apply w_draw (id := 19)); kernel_rfl; kernel_rfl) | ((with_reducible apply wq_v); exact rfl; (with_reducible apply v_predN); exact rfl; exact rfl; exact hpos; (simp only [maxLen]; omega)) | ((with_reducible apply wq_v); exact rfl; (with_reducible apply v_indexAddr); exact rfl; exact rfl; omega) | ((with_reducible apply wq_v); exact rfl; (with_reducible apply v_loadc_own (k := 0)); exact encN_len; exact rfl; exact pK; decide; exact hx; exact rfl) | ((with_reducible apply wl_append1); (iterate 3 exact rfl); exact pK; exact pK; exact rfl; (simp [encN, Value.oneCell']); omega; (simp only [maxLen]; omega); intro g8 c8) | refine sT ?_ | refine sS ?_ | refine sQ ?_ | refine sN ?_ | refine sNQ ?_ | refine sM fun _ => ?_ | (refine sC ?_ ?_ <;> intro hb <;> try omega) | (refine sCQ ?_ ?_ <;> intro hb <;> try omega) | exact cT | fail)
      all_goals first
        | (exfalso; omega)
        | (exfalso; simp_all; done)
        | (refine rr_ok (k' := k1 + 1) (p' := PS.put (PS.skip ⟨x.toks.drop k1, o1⟩) ⟨7, zeroV, zeroR, 0, fn, n⟩) (B' := some g8) (cb' := c8) eIO rfl hlt1 (Cx.skip rfl) (by omega) (by simp only [PS.put, PS.skip, List.length_append, List.length_singleton]; omega) ?_
           simp only [PS.put, PS.skip, Cx.B, rB, List.length_append, List.length_singleton, List.flatMap_append, List.flatMap_cons, List.flatMap_nil, List.append_nil, List.append_eq, List.cons_append, List.nil_append]
           exact mS)
end Go.SL
namespace Go.SL
open Go Go.Proofs
attribute [local irreducible] W WL WQ WG WA VOp thn blk retP FnAt FnIn
set_option maxRecDepth 10000 in
theorem refValid_at (c r:Int) (w:World):Pure Tryz.prog 76 [.agg #[.int .i64 c,.int .i64 r]] w (.bool (valid c r)):=by
 refine fn_at Tryz.func76 rfl Tryz.ntmps76 rfl ?_
 repeat' (first|refine sT ?_|refine sM fun _=> ?_|(refine sC ?_ ?_<;>intro hb<;>try omega)|fail)
 all_goals ((refine rT1 ?_);((try simp only [← Int.not_lt] at*);simp_all [valid, -Int.not_lt, -Int.not_le,← Int.not_lt]))
set_option maxRecDepth 10000 in
theorem refFrom_at (r:Rct) (w:World):Pure Tryz.prog 125 [.agg (encR r).toArray] w (.agg #[.int .i64 r.c1,.int .i64 r.r1]):=by
 refine fn_at Tryz.func125 rfl Tryz.ntmps125 rfl ?_
 repeat' (first|refine sT ?_|refine sM fun _=> ?_|(refine sC ?_ ?_<;>intro hb<;>try omega)|fail)
 exact retc (.inl rfl) Tryz.results125 rfl pK rfl (MSub.nil _) rfl
set_option maxRecDepth 10000 in
theorem refTo_at (r:Rct) (w:World):Pure Tryz.prog 126 [.agg (encR r).toArray] w (.agg #[.int .i64 r.c2,.int .i64 r.r2]):=by
 refine fn_at Tryz.func126 rfl Tryz.ntmps126 rfl ?_
 repeat' (first|refine sT ?_|refine sM fun _=> ?_|(refine sC ?_ ?_<;>intro hb<;>try omega)|fail)
 exact retc (.inl rfl) Tryz.results126 rfl pK rfl (MSub.nil _) rfl
set_option maxRecDepth 10000 in
theorem refRect_at (r:Rct) (w:World):Pure Tryz.prog 82 [.agg (encR r).toArray] w (.int .i64 (rectE r)):=by
 refine fn_at Tryz.func82 rfl Tryz.ntmps82 rfl ?_
 repeat' (first|((with_reducible apply wl_callp);exact rfl;exact rfl;(intro w hm;exact refFrom_at r w))|((with_reducible apply wl_callp);exact rfl;exact rfl;(intro w hm;exact refTo_at r w))|((with_reducible apply wl_callp);exact rfl;exact rfl;(intro w hm;exact refValid_at r.c1 r.r1 w))|((with_reducible apply wl_callp);exact rfl;exact rfl;(intro w hm;exact refValid_at r.c2 r.r2 w))|refine sT ?_|refine sM fun _=> ?_|(refine sC ?_ ?_<;>intro hb<;>try omega)|fail)
 all_goals ((refine rT1 ?_);((try simp only [← Int.not_lt] at*);simp_all [rectE,rectOk, -Int.not_lt, -Int.not_le,← Int.not_lt]))
set_option maxRecDepth 10000 in
theorem one_at (r:Rct) (w:World):Pure Tryz.prog 290 [.agg (encR r).toArray] w (.bool (oneR r)):=by
 refine fn_at Tryz.func290 rfl Tryz.ntmps290 rfl ?_
 repeat' (first|refine sT ?_|refine sM fun _=> ?_|(refine sC ?_ ?_<;>intro hb<;>try omega)|fail)
 all_goals ((refine rT1 ?_);((try simp only [← Int.not_lt] at*);simp_all [oneR, -Int.not_lt, -Int.not_le,← Int.not_lt]))
set_option maxRecDepth 10000 in
theorem refBelow_at (n:Nd) (w:World):Pure Tryz.prog 177 [.agg (encN n).toArray] w (.int .i64 (below n)):=by
 refine fn_at Tryz.func177 rfl Tryz.ntmps177 rfl ?_
 repeat' (first|refine sT ?_|refine sM fun _=> ?_|(refine sC ?_ ?_<;>intro hb<;>try omega)|fail)
 all_goals ((refine rT1 ?_);simp_all [below])
set_option maxRecDepth 10000 in
theorem refPlain_at (b:ByteArray) (hs:b.size≤256) (w:World):Pure Tryz.prog 307 [.string b] w (.bool (plainB b)):=by
 refine fn_at Tryz.func307 rfl Tryz.ntmps307 rfl ?_
 have hsz:b.data.toList.length=b.size:=by simp
 repeat' (first|refine sT ?_|refine sT2 ?_|refine sM fun _=> ?_|(refine sC ?_ ?_<;>intro hb<;>try omega)|fail)
 refine w_loop (fun i:Nat=> [(0,.string b),(3,.int .i64 (i:Int))]) (fun _=> []) (fun i=>i≤b.size∧plainB b=(b.data.toList.drop i).all fun c=>decide (32≤c.toNat) && decide (c.toNat≤126)) (fun i=>b.size - i) 0 ⟨by omega,rfl⟩ ?_ ?_ ?_
 ·
  exact sB
 ·
  exact mS
 ·
  rintro i ⟨hi,hrec⟩
  by_cases hlt:i<b.size
  ·
   rw [List.drop_eq_getElem_cons (by omega),List.all_cons] at hrec
   have hbi:b.data.toList[i]'(by omega)=b[i]'hlt:=by simp [ByteArray.getElem_eq_getElem_data]
   rw [hbi] at hrec
   repeat' (first|((with_reducible apply wl_v);exact rfl;(with_reducible apply v_index_str);exact rfl;exact rfl;exact hlt)|((with_reducible apply wl_v);exact rfl;(with_reducible apply v_succN);exact rfl;exact rfl;(simp only [maxLen];omega))|refine sT ?_|refine sT2 ?_|refine sM fun _=> ?_|(refine sC ?_ ?_<;>intro hb<;>try omega)|fail)
   ·
    (refine rT1 ?_)
    rw [hrec,decide_eq_false (by omega)]
    rfl
   ·
    (refine rT1 ?_)
    rw [hrec,decide_eq_false (p:=b[i].toNat≤126) (by omega),Bool.and_false]
    rfl
   ·
    refine ⟨i+1,⟨by omega,?_⟩,by omega,?_,?_⟩
    ·
     rw [hrec,decide_eq_true (by omega),decide_eq_true (by omega)]
     rfl
    ·
     exact sB
    ·
     exact mS
  ·
   have e:i=b.size:=by omega
   subst e
   repeat' (first|refine sT ?_|refine sT2 ?_|refine sM fun _=> ?_|(refine sC ?_ ?_<;>intro hb<;>try omega)|fail)
   (refine rT1 ?_)
   rw [hrec,List.drop_of_length_le (by omega)]
   rfl
set_option maxRecDepth 10000 in
theorem refGlyph_at (b:ByteArray) (w:World):Pure Tryz.prog 298 [.string b] w (.int .i64 (glyphE b)):=by
 refine fn_at Tryz.func298 rfl Tryz.ntmps298 rfl ?_
 repeat' (first|((with_reducible apply wl_callp);exact rfl;exact rfl;(intro w hm;exact refPlain_at b (by omega) w))|refine sT ?_|refine sM fun _=> ?_|(refine sC ?_ ?_<;>intro hb<;>try omega)|fail)
 all_goals ((refine rT1 ?_);(first|rw [glyphE,decide_eq_true (by omega:256<b.size)]|rw [glyphE,decide_eq_false (by omega: ¬ 256<b.size)]);simp_all)
set_option maxRecDepth 10000 in
theorem refVal_at (v:Vl) (hn: -9223372036854775808≤v.num) (w:World):Pure Tryz.prog 285 [.agg (encV v).toArray] w (.int .i64 (valE v)):=by
 refine fn_at Tryz.func285 rfl Tryz.ntmps285 rfl ?_
 have h1:(v.num≠ -9223372036854775808)↔ -9223372036854775807≤v.num:=by omega
 have h2:v.num / 2=0↔(v.num=0∨v.num=1):=by omega
 repeat' (first|((with_reducible apply wl_callp);exact rfl;exact rfl;(intro w hm;exact refGlyph_at v.text w))|refine sT ?_|refine sM fun _=> ?_|(refine sC ?_ ?_<;>intro hb<;>try omega)|fail)
 all_goals ((refine rT1 ?_);simp only [valE,valOk,h1,h2,emptyB];(try simp only [← Int.not_lt] at*);simp_all [-Int.not_lt, -Int.not_le,← Int.not_lt])
theorem valE_error {v:Vl} (h:valE v=0) (hk:v.kind=4):1≤v.num∧v.num≤6:=by
 simp only [valE,valOk,hk] at h
 cases h1:(decide (v.text=emptyB) && decide (1≤v.num) && decide (v.num≤6))
 ·
  simp [h1] at h
 ·
  simp only [Bool.and_eq_true,decide_eq_true_eq] at h1
  exact ⟨h1.1.2,h1.2⟩
set_option maxRecDepth 10000 in
theorem Literal_at (v:Vl) (hn: -9223372036854775808≤v.num) (w:World):Pure Tryz.prog 289 [.agg (encV v).toArray] w (.bool (litOk v)):=by
 refine fn_at Tryz.func289 rfl Tryz.ntmps289 rfl ?_
 have hE:=valE_error (v:=v)
 repeat' (first|((with_reducible apply wl_callp);exact rfl;exact rfl;(intro w hm;exact refVal_at v hn w))|refine sT ?_|refine sM fun _=> ?_|(refine sC ?_ ?_<;>intro hb<;>try omega)|fail)
 all_goals ((refine rT1 ?_);unfold litOk;(try have hE' :=hE (by assumption) (by assumption));(repeat' split)<;>simp_all<;>first|omega|(by_cases h6:v.num=6<;>simp [h6]<;>omega))
theorem eqN_comm (a b:Nd):eqN a b=eqN b a:=by
 rw [eqN_dec,eqN_dec]
 by_cases h:a=b
 ·
  subst h;rfl
 ·
  rw [decide_eq_false h,decide_eq_false fun e=>h e.symm]
theorem v_eqlNs {w0:World} {s:Slots} {H:List Blk} {ty t' :TypeId} {x y:Operand} {a b:Nd} (hx:ev s x=some (.agg (encN b).toArray)) (hy:ev s y=some (.agg (encN a).toArray)):VOp Tryz.prog w0 s H (.binOp .eql 136 x y t') ty (.bool (eqN a b)):=by
 rw [eqN_comm]
 exact v_eqlN hx hy
def refFields (n:Nd):Bool:=kindOk n && eqN n (want n)
set_option maxHeartbeats 1000000 in
theorem refFields_at (n:Nd) (hn: -9223372036854775808≤n.v.num) (w:World):Pure Tryz.prog 273 [.agg (encN n).toArray] w (.bool (refFields n)):=by
 refine fn_at Tryz.func273 rfl Tryz.ntmps273 rfl ?_
 repeat' (first|((with_reducible apply wl_callp);exact rfl;exact rfl;(intro w hm;exact Literal_at n.v hn w))|((with_reducible apply wq_callp);exact rfl;exact rfl;(intro w hm;exact refRect_at n.rect w))|((with_reducible apply wq_callp);exact rfl;exact rfl;(intro w hm;exact one_at n.rect w))|((with_reducible apply w_drawB (T:=136) (fun D=> [.int .u8 n.kind,.int .u8 0,.int .i64 0,.string emptyB,.int .i64 0,.int .i64 0,.int .i64 0,.int .i64 0,.int .i64 0,.int .u8 (bif D 5 then n.fn else 0),.int .i64 (bif D 7 then n.n else 0)]) (xs' := [.int .u8 n.kind,.int .u8 0,.int .i64 0,.string emptyB,.int .i64 0,.int .i64 0,.int .i64 0,.int .i64 0,.int .i64 0,.int .u8 n.fn,.int .i64 n.n]));decide+kernel;decide+kernel;(first|exact .hd|exact .tl .hd);exact rfl;(intro D hD;simp only [hD 5 (by decide),hD 7 (by decide),cond_true]))|((with_reducible apply wl_v);exact rfl;(first|((with_reducible apply v_eqlNs (b:=⟨n.kind,n.v,zeroR,0,0,0⟩));exact rfl;exact rfl)|((with_reducible apply v_eqlNs (b:=⟨n.kind,zeroV,n.rect,0,0,0⟩));exact rfl;exact rfl)|((with_reducible apply v_eqlNs (b:=⟨n.kind,zeroV,zeroR,0,0,0⟩));exact rfl;exact rfl)|((with_reducible apply v_eqlNs (b:=⟨n.kind,zeroV,zeroR,n.op,0,0⟩));exact rfl;exact rfl)|((with_reducible apply v_eqlNs (b:=⟨n.kind,zeroV,zeroR,0,n.fn,n.n⟩));exact rfl;exact rfl)))|((with_reducible apply wq_v);exact rfl;(first|((with_reducible apply v_eqlNs (b:=⟨n.kind,n.v,zeroR,0,0,0⟩));exact rfl;exact rfl)|((with_reducible apply v_eqlNs (b:=⟨n.kind,zeroV,n.rect,0,0,0⟩));exact rfl;exact rfl)|((with_reducible apply v_eqlNs (b:=⟨n.kind,zeroV,zeroR,0,0,0⟩));exact rfl;exact rfl)|((with_reducible apply v_eqlNs (b:=⟨n.kind,zeroV,zeroR,n.op,0,0⟩));exact rfl;exact rfl)|((with_reducible apply v_eqlNs (b:=⟨n.kind,zeroV,zeroR,0,n.fn,n.n⟩));exact rfl;exact rfl)))|refine sT ?_|refine sQ ?_|refine sD ?_|refine sG ?_|refine sM fun _=> ?_|(refine sC ?_ ?_<;>intro hb<;>try omega)|(refine sCQ ?_ ?_<;>intro hb<;>try omega)|fail)
 all_goals ((refine rT1 ?_);((try simp only [← Int.not_lt] at*);simp_all [refFields,kindOk,want,oneR, -Int.not_lt, -Int.not_le,← Int.not_lt]))
def refFitsE (n:Nd) (i:Int) (m:Nd):Bool:=
 if n.kind≠7 then decide (m.kind≠3) else if 46≤n.fn then decide (m.kind=3)||decide (m.kind=2) else decide (m.kind≠3)||refWideE n.fn i
set_option maxRecDepth 10000 in
theorem refFits_at (n:Nd) (i:Int) (m:Nd) (w:World):Pure Tryz.prog 276 [.agg (encN n).toArray,.int .i64 i,.agg (encN m).toArray] w (.bool (refFitsE n i m)):=by
 refine fn_at Tryz.func276 rfl Tryz.ntmps276 rfl ?_
 repeat' (first|((with_reducible apply wl_callp);exact rfl;exact rfl;(intro w hm;exact refWide_at n.fn i w))|refine sT ?_|refine sM fun _=> ?_|(refine sC ?_ ?_<;>intro hb<;>try omega)|exact cT|fail)
 all_goals ((refine rT1 ?_);((try simp only [← Int.not_lt] at*);simp_all [refFitsE, -Int.not_lt, -Int.not_le,← Int.not_lt]))
theorem fieldsE_ok {n:Nd} (h:fieldsE n=0):refFields n=true∧(n.kind=7→knownF n.fn=true∧(refArityE n.fn).1≤n.n∧n.n≤(refArityE n.fn).2):=by
 unfold fieldsE at h
 split at h
 ·
  cases h
 ·
  rename_i h1
  have hf:refFields n=true:=by
   unfold refFields
   cases ha:kindOk n<;>cases hb:eqN n (want n)<;>simp_all
  refine ⟨hf,fun h7=> ?_⟩
  rw [if_neg (by simp [h7])] at h
  cases hk:knownF n.fn
  ·
   rw [arity_unknown hk] at h
   simp at h
  ·
   rw [arity_known hk] at h
   refine ⟨rfl,?_⟩
   dsimp only at h
   rw [if_neg (by simp)] at h
   split at h
   ·
    cases h
   ·
    omega
theorem released_known {fn:Int} (h:knownF fn=true):releasedF fn=decide (46≤fn):=by
 simp only [knownF,Bool.and_eq_true,decide_eq_true_eq] at h
 unfold releasedF
 rw [decide_eq_true (by omega:fn≤50),Bool.and_true]
theorem wide_released {fn i:Int} (h:46≤fn) (hk:knownF fn=true) (h0:0≤i) (h1:i<(refArityE fn).2):refWideE fn i=true:=by
 simp only [knownF,Bool.and_eq_true,decide_eq_true_eq] at hk
 unfold refWideE
 rw [if_neg (by omega),if_neg (by omega),if_neg (by omega),if_neg (by omega),decide_eq_true h,decide_eq_true hk.2]
 rfl
theorem fitOne_ref {L:List Nd} {n:Nd} {p:Pt} (h:fieldsE n=0) (hr:p.root<L.length) (hp:p.wide=decide (L[p.root].kind=3)) {i:Int} (h0:0≤i) (h1:i<below n):fitOne L n i p=refFitsE n i L[p.root]:=by
 obtain ⟨_,h7⟩:=fieldsE_ok h
 unfold fitOne refFitsE mayAt
 rw [kindAt_get hr,hp]
 generalize L[p.root].kind=k
 by_cases hk7:n.kind=7
 ·
  obtain ⟨hk,ha,hb⟩:=h7 hk7
  have hb7:below n=n.n:=by simp [below,hk7]
  rw [if_pos hk7,if_neg (by simp [hk7]),released_known hk,wide_known hk]
  by_cases h46:46≤n.fn
  ·
   rw [if_pos h46,wide_released h46 hk h0 (by omega)]
   by_cases e3:k=3
   ·
    simp [e3,hk7,h46]
   ·
    by_cases e2:k=2<;>simp [e3,e2,hk7,h46]
  ·
   rw [if_neg h46]
   by_cases e3:k=3<;>simp [e3,h46]
 ·
  rw [if_neg hk7,if_pos hk7]
  by_cases e3:k=3<;>simp [e3,hk7]
theorem refName_known {fn:Int} (hk:knownF fn=true):refNameE fn≠emptyB:=by
 simp only [knownF,Bool.and_eq_true,decide_eq_true_eq] at hk
 obtain ⟨j,hj⟩:=Int.eq_ofNat_of_zero_le (by omega:0≤fn - 1)
 have e2:refNameE fn=namesL.getD j emptyB:=by
  rw [refNameE,if_neg (by omega),show fn.toNat=j+1 by omega]
  rfl
 rw [e2]
 exact (names_ok j (by omega)).1
theorem refName_unknown {fn:Int} (hk:knownF fn=false) (h0:0≤fn):refNameE fn=emptyB:=by
 simp only [knownF,Bool.and_eq_false_iff,decide_eq_false_iff_not] at hk
 rw [refNameE]
 split
 ·
  rfl
 ·
  rw [show fn.toNat=0 by omega]
  rfl
theorem fieldsE_bad {n:Nd} (h:fieldsE n≠0):(refFields n=false∧fieldsE n=2)∨(refFields n=true∧n.kind=7∧knownF n.fn=false∧fieldsE n=10)∨
  (refFields n=true∧n.kind=7∧knownF n.fn=true∧(n.n<(refArityE n.fn).1∨(refArityE n.fn).2<n.n)∧fieldsE n=11):=by
 unfold fieldsE at h ⊢
 by_cases h1:kindOk n=false∨eqN n (want n)=false
 ·
  left
  refine ⟨?_,if_pos h1⟩
  unfold refFields
  rcases h1 with h1|h1<;>simp [h1]
 ·
  right
  rw [if_neg h1] at h ⊢
  have hf:refFields n=true:=by
   unfold refFields
   cases ha:kindOk n<;>cases hb:eqN n (want n)<;>simp_all
  by_cases h7:n.kind=7
  ·
   rw [if_neg (by simp [h7])] at h ⊢
   cases hk:knownF n.fn
   ·
    left
    rw [arity_unknown hk] at h ⊢
    exact ⟨hf,h7,rfl,by simp⟩
   ·
    right
    rw [arity_known hk] at h ⊢
    dsimp only at h ⊢
    rw [if_neg (by simp)] at h ⊢
    by_cases hc:n.n<(refArityE n.fn).1∨(refArityE n.fn).2<n.n
    ·
     exact ⟨hf,h7,rfl,hc,if_pos hc⟩
    ·
     rw [if_neg hc] at h
     exact absurd rfl h
  ·
   rw [if_pos (by simpa using h7)] at h
   exact absurd rfl h
def encT (p:Pt):List Value:= [.int .i64 (p.root:Int),.int .i64 (p.depth:Int)]
theorem encT_len (p:Pt):(encT p).length=2:=rfl
def wfN (n:Nd):Prop:= -9223372036854775808≤n.v.num∧0≤n.fn∧n.fn≤255
def nodeR (L:List Nd) (n:Nd) (i:Nat) (st:List Pt):List Pt × Int:=
 match stepT L n i st with
 | .inl e=>([],e)
 | .inr r=>(r.1,0)
theorem v_1addN {P:Program} {w0:World} {s:Slots} {H:List Blk} {ty:TypeId} {x y:Operand} {b:Nat} {t t' :TypeId} (hx:ev s x=some (.int .i64 1)) (hy:ev s y=some (.int .i64 (b:Nat))) (hb:b+1≤maxLen):VOp P w0 s H (.binOp .add t x y t') ty (.int .i64 ((b+1:Nat):Int)):=by
 have h:=v_addN (P:=P) (w0:=w0) (H:=H) (ty:=ty) (t:=t) (t' :=t') (a:=1) hx hy (by omega)
 rwa [Nat.add_comm 1 b] at h
theorem encTs_one (L:List Pt): ∀ u∈L.flatMap encT,u.oneCell' =true:=by
 intro u hu
 obtain ⟨n,_,h⟩:=List.mem_flatMap.1 hu
 simp only [encT,List.mem_cons,List.not_mem_nil,or_false] at h
 rcases h with rfl|rfl<;>rfl
structure TopsOk (L:List Nd) (i:Nat) (st:List Pt):Prop where
 ok: ∀ p∈st,p.root<i∧p.depth≤32∧p.wide=decide (kindAt L p.root=3)
 small:st.length≤i
set_option maxHeartbeats 2000000 in
theorem refNode_at (L:List Nd) (i:Nat) (hi:i<L.length) (hlen:L.length≤256) (hwf:wfN L[i]) (st:List Pt) (hst:TopsOk L i st) (tv lv:Value) (w:World) (ht:Reads w tv L.length (L.flatMap encN)) (hp:Reads w lv st.length (st.flatMap encT)):
  FnAt Tryz.prog 255 [tv,.int .i64 (i:Int),lv] w fun v H=> ∃ A cap,v= .tuple #[sl A (nodeR L L[i] i st).1.length cap,.int .i64 (nodeR L L[i] i st).2]∧H= [.own A 276 2 (nodeR L L[i] i st).1.length cap ((nodeR L L[i] i st).1.flatMap encT)]:=by
 have hp' :=hp
 obtain ⟨At,ct,rfl,ht1,ht2,ht3⟩:=ht
 obtain ⟨Al,cl,rfl,hl1,hl2,hl3⟩:=hp
 obtain ⟨gt,ot,rfl,hrt⟩:=ht3 (by omega)
 have hrn:=hrt.elem encN_len i hi
 obtain ⟨hok,hsmall⟩:=hst
 refine fn_at Tryz.func255 rfl Tryz.ntmps255 rfl ?_
 refine w_nilrow 276 2 ?_
 generalize hn:L[i]=n at hrn hwf
 generalize hR:nodeR L n i st=R
 unfold nodeR stepT at hR
 by_cases hfe:fieldsE n=0
 ·
  obtain ⟨hb0,hb16⟩:=fields_ok hfe
  obtain ⟨k,hk⟩:=Int.eq_ofNat_of_zero_le hb0
  obtain ⟨hf1,hf7⟩:=fieldsE_ok hfe
  have c1:=fun w=>hf1 ▸ refFields_at n hwf.1 w
  have c2:=fun w=>refName_at n.fn hwf.2.1 hwf.2.2 w
  have c3:=fun w=>refArity_at n.fn w
  have hne:=fun h7=>refName_known (hf7 h7).1
  have har:=fun h7=>(hf7 h7).2
  have c4: ∀ w,Pure Tryz.prog 177 [.agg (encN n).toArray] w (.int .i64 (k:Int)):=fun w=>hk ▸ refBelow_at n w
  rw [if_neg (by simp [hfe]),hk,Int.toNat_natCast] at hR
  generalize refArityE n.fn=ar at har c3
  repeat' (first|((with_reducible apply wl_callp);exact rfl;exact rfl;(intro w hm;exact c1 w))|((with_reducible apply wl_callp);exact rfl;exact rfl;(intro w hm;exact c2 w))|((with_reducible apply wl_callp);exact rfl;exact rfl;(intro w hm;exact c3 w))|((with_reducible apply wl_callp);exact rfl;exact rfl;(intro w hm;exact c4 w))|((with_reducible apply wl_v);exact rfl;(with_reducible apply v_eqls_f);exact rfl;exact rfl;exact hne (by assumption))|((with_reducible apply w_keep (c:= .tmp 24) [0,1,2,8]);exact rfl)|((with_reducible apply wl_v);exact rfl;(with_reducible apply v_subN);exact rfl;exact rfl;omega;(simp only [maxLen];omega))|refine sT ?_|refine sO ?_|refine sM fun _=> ?_|(refine sC ?_ ?_<;>intro hb<;>try omega)|exact cT|fail)
  ·
   rw [if_pos (Or.inl (by omega))] at hR
   subst hR
   exact ret2 (.inl rfl) Tryz.results255 rfl rfl (H' := [.own none 276 2 0 0 []]) mS ⟨none,0,rfl,rfl⟩
  ·
   rename_i g
   have htl:=topOf_length st k (by omega)
   have hlt: ¬ ((st.length:Int)<(k:Int)):=by omega
   refine w_loopK [0,1,2,8,11,12] rfl (fun j:Nat=> [(13,.int .i64 (depthOf ((topOf st k).take j):Int)),(14,.int .i64 (j:Int))]) (fun _=> [.box g 136 (encN n),.own none 276 2 0 0 []]) (fun j=>j≤k∧fitsFrom L n 0 (topOf st k)=fitsFrom L n (j:Int) ((topOf st k).drop j)) (fun j=>k - j) 0 ⟨by omega,rfl⟩ sB mS ?_
   rintro j ⟨hj,hfit⟩
   by_cases hjk:j<k
   ·
    obtain ⟨gl,ol,rfl,hrl⟩:=hl3 (by omega)
    have hjt:j<(topOf st k).length:=by omega
    have hpe:(topOf st k)[j]=st[st.length - k+j]'(by omega):=by simp [topOf]
    have hrp:=hrl.elem encT_len (st.length - k+j) (by omega)
    have hds:=depthOf_succ (topOf st k) j hjt
    rw [List.drop_eq_getElem_cons hjt,fitsFrom] at hfit
    rw [← hpe] at hrp
    have hpm:=topOf_mem (List.getElem_mem hjt)
    generalize (topOf st k)[j]=p at hpm hrp hds hfit
    obtain ⟨hp1,hp2,hp3⟩:=hok p hpm
    have hrr:=hrt.elem encN_len p.root (by omega)
    have hf:=fitOne_ref hfe (L:=L) (p:=p) (by omega) (by rw [hp3,kindAt_get]) (i:=(j:Int)) (by omega) (by omega)
    have hcall:=fun w=>refFits_at n (j:Int) (L[p.root]'(by omega)) w
    rw [← hf] at hcall
    generalize L[p.root]'(by omega)=m at hrr hcall
    generalize hfo:fitOne L n (j:Int) p=fo at hcall hfit
    have hd33:=depthOf_bound ((topOf st k).take j) fun q hq=>(hok q (topOf_mem (List.mem_of_mem_take hq))).2.1
    repeat' (first|((with_reducible apply wq_callp);exact rfl;exact rfl;(intro w hm;exact hcall w))|((with_reducible apply wl_v);exact rfl;(with_reducible apply v_addN);exact rfl;exact rfl;(simp only [maxLen];omega))|((with_reducible apply wq_v);exact rfl;(with_reducible apply v_addN);exact rfl;exact rfl;(simp only [maxLen];omega))|((with_reducible apply wl_v);exact rfl;(with_reducible apply v_1addN);exact rfl;exact rfl;(simp only [maxLen];omega))|((with_reducible apply wl_v);exact rfl;(with_reducible apply v_succN);exact rfl;exact rfl;(simp only [maxLen];omega))|((with_reducible apply wl_v);exact rfl;(with_reducible apply v_maxN);exact rfl;exact rfl)|refine sT ?_|refine sQ ?_|refine sO ?_|refine sOQ ?_|refine sD ?_|refine sM fun _=> ?_|(refine sC ?_ ?_<;>intro hb<;>try omega)|(refine sCQ ?_ ?_<;>intro hb<;>try omega)|exact cT|fail)
    ·
     rw [if_pos (Or.inr (by rw [hfit];simp_all))] at hR
     subst hR
     exact ret2 (.inl rfl) Tryz.results255 rfl rfl (H' := [.own none 276 2 0 0 []]) mS ⟨none,0,rfl,rfl⟩
    ·
     rw [Nat.add_comm 1,← hds]
     refine ⟨j+1,?_,(by first|omega|(dsimp only;omega)),sB,sB,mS⟩
     refine ⟨by omega,?_⟩
     rw [hfit,hb,Bool.true_and]
     rfl
   ·
    have e:j=k:=by omega
    subst e
    have htk:(topOf st j).take j=topOf st j:=List.take_of_length_le (by omega)
    rw [htk]
    have hd33:=depthOf_bound (topOf st j) fun q hq=>(hok q (topOf_mem hq)).2.1
    rw [List.drop_of_length_le (by omega),fitsFrom] at hfit
    rw [if_neg (by rw [hfit];simp;omega)] at hR
    have hcut:=hp'.cut (lo:=0) (hi:=st.length - j) (sz:=2) (by omega) (by omega)
    have hcl:(((st.flatMap encT).drop (0*2)).take ((st.length - j - 0)*2))=(st.take (st.length - j)).flatMap encT:=by
     rw [Nat.zero_mul,List.drop_zero,Nat.sub_zero,flat_take encT_len]
    rw [hcl] at hcut
    have hll:((st.take (st.length - j)).flatMap encT).length=(st.length - j - 0)*2:=by rw [flat_length' encT_len,List.length_take];omega
    repeat' (first|((with_reducible apply wl_buildSlice0);exact rfl;intro gb)|((with_reducible apply wl_v);exact rfl;(with_reducible apply v_slice (lo:=0) (hi:=st.length - j));exact rfl;exact rfl;exact ⟨_,rfl⟩;omega;omega)|((with_reducible apply wl_appendR (n' :=0) (c:=0) (A:=some _) (m:=st.length - j - 0));(iterate 3 exact rfl);exact pK;(intro w hm;exact hcut.of_w0 hm);exact hll;exact encTs_one _;omega;(simp only [maxLen];omega);intro A' cap' hA)|((with_reducible apply wl_append);(iterate 3 exact rfl);(repeat first|exact .hd|apply Sel.tl|apply In.tl);(intro w hm;exact hm.cells_own (by (repeat first|exact .hd|apply Sel.tl|apply In.tl)));exact rfl;(simp [Value.oneCell',sl]);omega;(simp only [maxLen];omega);(intro A' cap' hA'))|refine sT ?_|refine sM fun _=> ?_|(refine sC ?_ ?_<;>intro hb<;>try omega)|exact cT|fail)
    ·
     rw [if_pos (by omega)] at hR
     subst hR
     exact ret2 (.inl rfl) Tryz.results255 rfl rfl (H' := [.own none 276 2 0 0 []]) mS ⟨none,0,rfl,rfl⟩
    ·
     rw [if_neg (by omega)] at hR
     subst hR
     have e1:(st.take (st.length - j)++ [(⟨i,depthOf (topOf st j),decide (n.kind=3)⟩:Pt)]).length=0+(st.length - j - 0)+1:=by simp
     have e2:(st.take (st.length - j)++ [(⟨i,depthOf (topOf st j),decide (n.kind=3)⟩:Pt)]).flatMap encT= []++(st.take (st.length - j)).flatMap encT++ [.int .i64 (i:Int),.int .i64 (depthOf (topOf st j):Int)]:=by
      rw [List.flatMap_append];rfl
     refine ret2 (.inl rfl) Tryz.results255 rfl rfl (H' := [.own A' 276 2 (0+(st.length - j - 0)+1) cap' ([]++(st.take (st.length - j)).flatMap encT++ [.int .i64 (i:Int),.int .i64 (depthOf (topOf st j):Int)])]) mS ⟨A',cap',?_⟩
     dsimp only
     rw [e1,e2]
     exact ⟨rfl,rfl⟩
 ·
  rw [if_pos hfe] at hR
  rcases fieldsE_bad hfe with ⟨h1,h2⟩|⟨h1,h7,h2,h3⟩|⟨h1,h7,h2,h3,h4⟩
  ·
   have c1:=fun w=>h1 ▸ refFields_at n hwf.1 w
   rw [h2] at hR
   subst hR
   repeat' (first|((with_reducible apply wl_v);exact rfl;(with_reducible apply v_indexAddr);exact rfl;exact rfl;exact hi)|((with_reducible apply wl_v);exact rfl;(with_reducible apply v_loadw_ro);exact rfl;exact hrn;exact rfl)|((with_reducible apply wl_callp);exact rfl;exact rfl;(intro w hm;exact c1 w))|refine sT ?_|refine sM fun _=> ?_|(refine sC ?_ ?_<;>intro hb<;>try omega)|exact cT|fail)
   exact ret2 (.inl rfl) Tryz.results255 rfl rfl (H' := [.own none 276 2 0 0 []]) mS ⟨none,0,rfl,rfl⟩
  ·
   have c1:=fun w=>h1 ▸ refFields_at n hwf.1 w
   have c2:=fun w=>refName_unknown h2 hwf.2.1 ▸ refName_at n.fn hwf.2.1 hwf.2.2 w
   rw [h3] at hR
   subst hR
   repeat' (first|((with_reducible apply wl_v);exact rfl;(with_reducible apply v_indexAddr);exact rfl;exact rfl;exact hi)|((with_reducible apply wl_v);exact rfl;(with_reducible apply v_loadw_ro);exact rfl;exact hrn;exact rfl)|((with_reducible apply wl_callp);exact rfl;exact rfl;(intro w hm;exact c1 w))|((with_reducible apply wl_callp);exact rfl;exact rfl;(intro w hm;exact c2 w))|((with_reducible apply wl_v);exact rfl;(with_reducible apply v_eqls_t);(iterate 3 exact rfl))|refine sT ?_|refine sM fun _=> ?_|(refine sC ?_ ?_<;>intro hb<;>try omega)|exact cT|fail)
   exact ret2 (.inl rfl) Tryz.results255 rfl rfl (H' := [.own none 276 2 0 0 []]) mS ⟨none,0,rfl,rfl⟩
  ·
   have c1:=fun w=>h1 ▸ refFields_at n hwf.1 w
   have c2:=fun w=>refName_at n.fn hwf.2.1 hwf.2.2 w
   have c3:=fun w=>refArity_at n.fn w
   have hne:=refName_known h2
   rw [h4] at hR
   subst hR
   generalize refArityE n.fn=ar at h3 c3
   repeat' (first|((with_reducible apply wl_v);exact rfl;(with_reducible apply v_indexAddr);exact rfl;exact rfl;exact hi)|((with_reducible apply wl_v);exact rfl;(with_reducible apply v_loadw_ro);exact rfl;exact hrn;exact rfl)|((with_reducible apply wl_callp);exact rfl;exact rfl;(intro w hm;exact c1 w))|((with_reducible apply wl_callp);exact rfl;exact rfl;(intro w hm;exact c2 w))|((with_reducible apply wl_callp);exact rfl;exact rfl;(intro w hm;exact c3 w))|((with_reducible apply wl_v);exact rfl;(with_reducible apply v_eqls_f);exact rfl;exact rfl;exact hne)|refine sT ?_|refine sM fun _=> ?_|(refine sC ?_ ?_<;>intro hb<;>try omega)|exact cT|fail)
   all_goals exact ret2 (.inl rfl) Tryz.results255 rfl rfl (H' := [.own none 276 2 0 0 []]) mS ⟨none,0,rfl,rfl⟩
end Go.SL

/-
  Lemmas and walks, put together: Q6.
-/
import Derived.Test.YtoanpdoacdpgeaaGreatDoorKo21
set_option linter.unusedSimpArgs false
set_option linter.unusedVariables false
set_option maxRecDepth 20000
namespace Go.SL
open Go Go.Proofs
attribute [local irreducible] W WL WQ WG WA WX WLI WR WT WC VOp RW thn blk bp scp aR ba bE aF FnIn FnP ceP
set_option maxHeartbeats 4000000 in
theorem CL (f:Nat) (ih: ∀ f' ≤f,py f' (.level 1) 195 [.int .i64 1]):py (f+1) .prim 324 []:=by
  intro x k p B cb r R w0 hk hp hout hrun
  refine eQ Tryz.func324 rfl Tryz.ntmps324 rfl ?_
  have hxt:=x.ht
  dsimp only at hrun
  obtain ⟨t,ht⟩: ∃ t,hdT x.fin p.l=t:=⟨_,rfl⟩
  have hd:hdT x.fin (x.toks.drop k)=t:=hp ▸ ht
  have hN:=fun w hm=>Cx.next hd (B:=B) (cb:=cb) (out:=p.out) (at_:=0) (e:=0) (w0:=w0) (H:=x.B k B cb p.out 0 0++R) ⟨R,.refl _⟩ w hm
  by_cases h7:t.kind=7
  · rw [yT _ _ _ (by rw [ht];exact h7),ht] at hrun
    have hlt:=Cx.lt hd (by omega)
    have hC:=Le f t ih x k p B cb r
    repeat' (first|(apply aa (f:=197);exact rfl;exact rfl;exact hN)|(apply ax (f:=348);exact rfl;exact rfl;exact FnIn.msub (hC _ w0 hlt hp hout ht h7 hrun) (MSub.pick pK (MSub.pick pK (MSub.pick pK (MSub.refl _))));rintro v1 H1 ⟨rfl,hR⟩)|refine sT ?_|refine sS ?_|refine sN ?_|refine sM fun _=> ?_|(refine sC ?_ ?_<;>intro hb<;>try omega)|fail)
    all_goals try (exfalso;omega)
    cases r with
    |error e=>
      obtain ⟨k1,B1,cb1,o1,j1,j2,j3,j4,rfl⟩:=hR
      refine fH (k' :=k1) (out' :=o1) (B' :=B1) (cb' :=cb1) eIO rfl j1 j2 (by omega) (by omega) ?_
      simp only [Cx.B,rB,Rj,QU,QW]
      exact mS
    |ok y=>
      obtain ⟨n1,p1⟩:=y
      obtain ⟨k1,B1,cb1,j1,j2,j3,j4,rfl⟩:=hR
      refine kf (k' :=k1) (p' :=p1) (B' :=B1) (cb' :=cb1) eIO rfl j1 j2 (by omega) (by omega) ?_
      simp only [Cx.B,rB,Rj,QU,QW]
      exact mS
  rw [bz] at hrun
  dsimp only at hrun
  rw [ht] at hrun
  by_cases h14:1≤t.kind∧t.kind≤4
  · rw [if_pos h14] at hrun
    have hlt:=Cx.lt hd (by omega)
    cases hrun
    rcases (by omega:t.kind=1∨t.kind=2∨t.kind=3∨t.kind=4) with hc|hc|hc|hc
    · have hl:mK t=⟨1,⟨1,t.num,av⟩,aN,0,0,0⟩:=by simp [mK,hc]
      rw [hl]
      repeat' (first|(apply aa (f:=197);exact rfl;exact rfl;exact hN)|refine sT ?_|refine sS ?_|refine sN ?_|refine sM fun _=> ?_|(refine sC ?_ ?_<;>intro hb<;>try omega)|fail)
      all_goals try (exfalso;omega)
      refine jH 14 rfl (by kernel_rfl) ?_
      ((with_reducible apply aP (i:=0));exact rfl;exact rfl;decide+kernel;decide+kernel;decide+kernel;exact nP;(intro _ _;exact vP))
      ((with_reducible apply aP (i:=1));exact rfl;exact rfl;decide+kernel;decide+kernel;decide+kernel;exact nP;(intro _ _;exact vP))
      ((with_reducible apply aP (i:=2));exact rfl;exact rfl;decide+kernel;decide+kernel;decide+kernel;exact nP;(intro _ _;exact vP))
      ((with_reducible apply aP (i:=3));exact rfl;exact rfl;decide+kernel;decide+kernel;decide+kernel;exact nP;(intro _ _;exact vP))
      ((with_reducible apply aP (i:=5));exact rfl;exact rfl;decide+kernel;decide+kernel;decide+kernel;exact nP;(intro _ _;exact vP))
      repeat' (first|(apply da (i:=4) (j:=6);exact rfl;exact rfl;decide+kernel)|(apply da (i:=4) (j:=7);exact rfl;exact rfl;decide+kernel)|(apply da (i:=4) (j:=8);exact rfl;exact rfl;decide+kernel)|(apply da (i:=4) (j:=9);exact rfl;exact rfl;decide+kernel)|(apply aH (i:=4);exact rfl;decide+kernel)|(apply aH (i:=5);exact rfl;decide+kernel)|(apply aH (i:=6);exact rfl;decide+kernel)|(apply aH (i:=7);exact rfl;decide+kernel)|(apply aH (i:=8);exact rfl;decide+kernel)|(apply aH (i:=9);exact rfl;decide+kernel)|(apply aH (i:=10);exact rfl;decide+kernel)|(apply aH (i:=11);exact rfl;decide+kernel)|(apply aH (i:=12);exact rfl;decide+kernel)|(apply aH (i:=13);exact rfl;decide+kernel)|(apply jG;decide+kernel)|(apply aU;(iterate 3 exact rfl);exact pK;exact pK;exact rfl;(simp [bN,Value.oneCell']);omega;(simp only [maxLen];omega);intro g8 c8)|refine sT ?_|refine sS ?_|refine sN ?_|refine sM fun _=> ?_|(refine sC ?_ ?_<;>intro hb<;>try omega)|fail)
      all_goals first
        |(exfalso;omega)
        | (refine kf (k' := k + 1) (p' := p.skip.put ⟨1, ⟨1, t.num, av⟩, aN, 0, 0, 0⟩) (B' := some g8) (cb' := c8) eIO rfl hlt (Cx.skip hp) (Tz k) (by simp only [PS.put, PS.skip, QT, QX]; omega) ?_
           simp only [PS.put,PS.skip,Cx.B,rB,QT,QX,Rn,Rm,Ry,QZ,Rj,QU,QW]
           exact mS)
    · have hl:mK t=⟨1,⟨3,0,t.text⟩,aN,0,0,0⟩:=by simp [mK,hc]
      rw [hl]
      repeat' (first|(apply aa (f:=197);exact rfl;exact rfl;exact hN)|refine sT ?_|refine sS ?_|refine sN ?_|refine sM fun _=> ?_|(refine sC ?_ ?_<;>intro hb<;>try omega)|fail)
      all_goals try (exfalso;omega)
      refine jH 14 rfl (by kernel_rfl) ?_
      ((with_reducible apply aP (i:=0));exact rfl;exact rfl;decide+kernel;decide+kernel;decide+kernel;exact nP;(intro _ _;exact vP))
      ((with_reducible apply aP (i:=1));exact rfl;exact rfl;decide+kernel;decide+kernel;decide+kernel;exact nP;(intro _ _;exact vP))
      ((with_reducible apply aP (i:=2));exact rfl;exact rfl;decide+kernel;decide+kernel;decide+kernel;exact nP;(intro _ _;exact vP))
      ((with_reducible apply aP (i:=3));exact rfl;exact rfl;decide+kernel;decide+kernel;decide+kernel;exact nP;(intro _ _;exact vP))
      ((with_reducible apply aP (i:=5));exact rfl;exact rfl;decide+kernel;decide+kernel;decide+kernel;exact nP;(intro _ _;exact vP))
      repeat' (first|(apply da (i:=4) (j:=6);exact rfl;exact rfl;decide+kernel)|(apply da (i:=4) (j:=7);exact rfl;exact rfl;decide+kernel)|(apply da (i:=4) (j:=8);exact rfl;exact rfl;decide+kernel)|(apply da (i:=4) (j:=9);exact rfl;exact rfl;decide+kernel)|(apply aH (i:=4);exact rfl;decide+kernel)|(apply aH (i:=5);exact rfl;decide+kernel)|(apply aH (i:=6);exact rfl;decide+kernel)|(apply aH (i:=7);exact rfl;decide+kernel)|(apply aH (i:=8);exact rfl;decide+kernel)|(apply aH (i:=9);exact rfl;decide+kernel)|(apply aH (i:=10);exact rfl;decide+kernel)|(apply aH (i:=11);exact rfl;decide+kernel)|(apply aH (i:=12);exact rfl;decide+kernel)|(apply aH (i:=13);exact rfl;decide+kernel)|(apply jG;decide+kernel)|(apply aU;(iterate 3 exact rfl);exact pK;exact pK;exact rfl;(simp [bN,Value.oneCell']);omega;(simp only [maxLen];omega);intro g8 c8)|refine sT ?_|refine sS ?_|refine sN ?_|refine sM fun _=> ?_|(refine sC ?_ ?_<;>intro hb<;>try omega)|fail)
      all_goals first
        |(exfalso;omega)
        | (refine kf (k' := k + 1) (p' := p.skip.put ⟨1, ⟨3, 0, t.text⟩, aN, 0, 0, 0⟩) (B' := some g8) (cb' := c8) eIO rfl hlt (Cx.skip hp) (Tz k) (by simp only [PS.put, PS.skip, QT, QX]; omega) ?_
           simp only [PS.put,PS.skip,Cx.B,rB,QT,QX,Rn,Rm,Ry,QZ,Rj,QU,QW]
           exact mS)
    · have hl:mK t=⟨1,⟨2,t.num,av⟩,aN,0,0,0⟩:=by simp [mK,hc]
      rw [hl]
      repeat' (first|(apply aa (f:=197);exact rfl;exact rfl;exact hN)|refine sT ?_|refine sS ?_|refine sN ?_|refine sM fun _=> ?_|(refine sC ?_ ?_<;>intro hb<;>try omega)|fail)
      all_goals try (exfalso;omega)
      refine jH 14 rfl (by kernel_rfl) ?_
      ((with_reducible apply aP (i:=0));exact rfl;exact rfl;decide+kernel;decide+kernel;decide+kernel;exact nP;(intro _ _;exact vP))
      ((with_reducible apply aP (i:=1));exact rfl;exact rfl;decide+kernel;decide+kernel;decide+kernel;exact nP;(intro _ _;exact vP))
      ((with_reducible apply aP (i:=2));exact rfl;exact rfl;decide+kernel;decide+kernel;decide+kernel;exact nP;(intro _ _;exact vP))
      ((with_reducible apply aP (i:=3));exact rfl;exact rfl;decide+kernel;decide+kernel;decide+kernel;exact nP;(intro _ _;exact vP))
      ((with_reducible apply aP (i:=5));exact rfl;exact rfl;decide+kernel;decide+kernel;decide+kernel;exact nP;(intro _ _;exact vP))
      repeat' (first|(apply da (i:=4) (j:=6);exact rfl;exact rfl;decide+kernel)|(apply da (i:=4) (j:=7);exact rfl;exact rfl;decide+kernel)|(apply da (i:=4) (j:=8);exact rfl;exact rfl;decide+kernel)|(apply da (i:=4) (j:=9);exact rfl;exact rfl;decide+kernel)|(apply aH (i:=4);exact rfl;decide+kernel)|(apply aH (i:=5);exact rfl;decide+kernel)|(apply aH (i:=6);exact rfl;decide+kernel)|(apply aH (i:=7);exact rfl;decide+kernel)|(apply aH (i:=8);exact rfl;decide+kernel)|(apply aH (i:=9);exact rfl;decide+kernel)|(apply aH (i:=10);exact rfl;decide+kernel)|(apply aH (i:=11);exact rfl;decide+kernel)|(apply aH (i:=12);exact rfl;decide+kernel)|(apply aH (i:=13);exact rfl;decide+kernel)|(apply jG;decide+kernel)|(apply aU;(iterate 3 exact rfl);exact pK;exact pK;exact rfl;(simp [bN,Value.oneCell']);omega;(simp only [maxLen];omega);intro g8 c8)|refine sT ?_|refine sS ?_|refine sN ?_|refine sM fun _=> ?_|(refine sC ?_ ?_<;>intro hb<;>try omega)|fail)
      all_goals first
        |(exfalso;omega)
        | (refine kf (k' := k + 1) (p' := p.skip.put ⟨1, ⟨2, t.num, av⟩, aN, 0, 0, 0⟩) (B' := some g8) (cb' := c8) eIO rfl hlt (Cx.skip hp) (Tz k) (by simp only [PS.put, PS.skip, QT, QX]; omega) ?_
           simp only [PS.put,PS.skip,Cx.B,rB,QT,QX,Rn,Rm,Ry,QZ,Rj,QU,QW]
           exact mS)
    · have hl:mK t=⟨1,⟨4,t.num,av⟩,aN,0,0,0⟩:=by simp [mK,hc]
      rw [hl]
      repeat' (first|(apply aa (f:=197);exact rfl;exact rfl;exact hN)|refine sT ?_|refine sS ?_|refine sN ?_|refine sM fun _=> ?_|(refine sC ?_ ?_<;>intro hb<;>try omega)|fail)
      all_goals try (exfalso;omega)
      refine jH 14 rfl (by kernel_rfl) ?_
      ((with_reducible apply aP (i:=0));exact rfl;exact rfl;decide+kernel;decide+kernel;decide+kernel;exact nP;(intro _ _;exact vP))
      ((with_reducible apply aP (i:=1));exact rfl;exact rfl;decide+kernel;decide+kernel;decide+kernel;exact nP;(intro _ _;exact vP))
      ((with_reducible apply aP (i:=2));exact rfl;exact rfl;decide+kernel;decide+kernel;decide+kernel;exact nP;(intro _ _;exact vP))
      ((with_reducible apply aP (i:=3));exact rfl;exact rfl;decide+kernel;decide+kernel;decide+kernel;exact nP;(intro _ _;exact vP))
      ((with_reducible apply aP (i:=5));exact rfl;exact rfl;decide+kernel;decide+kernel;decide+kernel;exact nP;(intro _ _;exact vP))
      repeat' (first|(apply da (i:=4) (j:=6);exact rfl;exact rfl;decide+kernel)|(apply da (i:=4) (j:=7);exact rfl;exact rfl;decide+kernel)|(apply da (i:=4) (j:=8);exact rfl;exact rfl;decide+kernel)|(apply da (i:=4) (j:=9);exact rfl;exact rfl;decide+kernel)|(apply aH (i:=4);exact rfl;decide+kernel)|(apply aH (i:=5);exact rfl;decide+kernel)|(apply aH (i:=6);exact rfl;decide+kernel)|(apply aH (i:=7);exact rfl;decide+kernel)|(apply aH (i:=8);exact rfl;decide+kernel)|(apply aH (i:=9);exact rfl;decide+kernel)|(apply aH (i:=10);exact rfl;decide+kernel)|(apply aH (i:=11);exact rfl;decide+kernel)|(apply aH (i:=12);exact rfl;decide+kernel)|(apply aH (i:=13);exact rfl;decide+kernel)|(apply jG;decide+kernel)|(apply aU;(iterate 3 exact rfl);exact pK;exact pK;exact rfl;(simp [bN,Value.oneCell']);omega;(simp only [maxLen];omega);intro g8 c8)|refine sT ?_|refine sS ?_|refine sN ?_|refine sM fun _=> ?_|(refine sC ?_ ?_<;>intro hb<;>try omega)|fail)
      all_goals first
        |(exfalso;omega)
        | (refine kf (k' := k + 1) (p' := p.skip.put ⟨1, ⟨4, t.num, av⟩, aN, 0, 0, 0⟩) (B' := some g8) (cb' := c8) eIO rfl hlt (Cx.skip hp) (Tz k) (by simp only [PS.put, PS.skip, QT, QX]; omega) ?_
           simp only [PS.put,PS.skip,Cx.B,rB,QT,QX,Rn,Rm,Ry,QZ,Rj,QU,QW]
           exact mS)
  rw [if_neg h14] at hrun
  by_cases h5:t.kind=5
  · rw [if_pos h5] at hrun
    have hlt:=Cx.lt hd (by omega)
    cases hrun
    repeat' (first|(apply aa (f:=197);exact rfl;exact rfl;exact hN)|refine sT ?_|refine sS ?_|refine sN ?_|refine sM fun _=> ?_|(refine sC ?_ ?_<;>intro hb<;>try omega)|fail)
    all_goals try (exfalso;omega)
    refine jH 13 rfl (by kernel_rfl) ?_
    ((with_reducible apply aP (i:=0));exact rfl;exact rfl;decide+kernel;decide+kernel;decide+kernel;exact nP;(intro _ _;exact vP))
    ((with_reducible apply aP (i:=1));exact rfl;exact rfl;decide+kernel;decide+kernel;decide+kernel;exact nP;(intro _ _;exact vP))
    ((with_reducible apply aP (i:=2));exact rfl;exact rfl;decide+kernel;decide+kernel;decide+kernel;exact nP;(intro _ _;exact vP))
    ((with_reducible apply aP (i:=3));exact rfl;exact rfl;decide+kernel;decide+kernel;decide+kernel;exact nP;(intro _ _;exact vP))
    ((with_reducible apply aP (i:=5));exact rfl;exact rfl;decide+kernel;decide+kernel;decide+kernel;exact nP;(intro _ _;exact vP))
    repeat' (first|(apply da (i:=4) (j:=6);exact rfl;exact rfl;decide+kernel)|(apply da (i:=4) (j:=7);exact rfl;exact rfl;decide+kernel)|(apply da (i:=4) (j:=8);exact rfl;exact rfl;decide+kernel)|(apply aH (i:=4);exact rfl;decide+kernel)|(apply aH (i:=5);exact rfl;decide+kernel)|(apply aH (i:=6);exact rfl;decide+kernel)|(apply aH (i:=7);exact rfl;decide+kernel)|(apply aH (i:=8);exact rfl;decide+kernel)|(apply aH (i:=9);exact rfl;decide+kernel)|(apply aH (i:=10);exact rfl;decide+kernel)|(apply aH (i:=11);exact rfl;decide+kernel)|(apply aH (i:=12);exact rfl;decide+kernel)|(apply jG;decide+kernel)|(apply aU;(iterate 3 exact rfl);exact pK;exact pK;exact rfl;(simp [bN,Value.oneCell']);omega;(simp only [maxLen];omega);intro g8 c8)|refine sT ?_|refine sS ?_|refine sN ?_|refine sM fun _=> ?_|(refine sC ?_ ?_<;>intro hb<;>try omega)|fail)
    all_goals first
      |(exfalso;omega)
      | (refine kf (k' := k + 1) (p' := p.skip.put ⟨2, bI, t.rect, 0, 0, 0⟩) (B' := some g8) (cb' := c8) eIO rfl hlt (Cx.skip hp) (Tz k) (by simp only [PS.put, PS.skip, QT, QX]; omega) ?_
         simp only [PS.put,PS.skip,Cx.B,rB,QT,QX,Rn,Rm,Ry,QZ,Rj,QU,QW]
         exact mS)
  rw [if_neg h5] at hrun
  by_cases h9:t.kind=9
  · rw [if_pos h9] at hrun
    have hlt:=Cx.lt hd (by omega)
    obtain ⟨r1,hr1,⟨e,rfl,rfl⟩|⟨n1,p1,rfl,hr2⟩⟩:=bG hrun
    · repeat' (first|(apply aa (f:=197);exact rfl;exact rfl;exact hN)|(apply ax (f:=195);exact rfl;exact rfl;exact FnIn.msub (ih f (Re _) x (k+1) p.skip B cb _ _ w0 hlt (Cx.skip hp) (TR hout) hr1) (MSub.pick pK (MSub.pick pK (MSub.pick pK (MSub.refl _))));rintro _ _ ⟨rfl,k1,B1,cb1,o1,j1,j2,j3,j4,rfl⟩;replace j4:o1.length+(k+1)≤p.out.length+k1:=j4;obtain ⟨u,hd1⟩: ∃ u,hdT x.fin (x.toks.drop k1)=u:=⟨_,rfl⟩;by_cases h10:u.kind=10)|(apply ax (f:=347);exact rfl;exact rfl;exact FnIn.msub (lQ 10 (RB x.hsa (by decide)) (RB x.ht (by decide)) (by omega) (B:=B1) (cb:=cb1) (out:=o1) (at_:=e.1) (e:=e.2) (g:=x.g) (A:=x.A) (cap:=x.cap) hd1 h10 _ w0) (MSub.pick pK (MSub.pick pK (MSub.pick pK (MSub.refl _))));have hlt1:=Cx.lt hd1 (by omega);rintro _ _ ⟨rfl,rfl⟩)|(apply ax (f:=347);exact rfl;exact rfl;exact FnIn.msub (wo 10 (RB x.hsa (by decide)) (RB x.ht (by decide)) (B:=B1) (cb:=cb1) (out:=o1) (at_:=e.1) (e:=e.2) (g:=x.g) (A:=x.A) (cap:=x.cap) hd1 h10 _ w0) (MSub.pick pK (MSub.pick pK (MSub.pick pK (MSub.refl _))));rw [if_neg j1,if_neg j1];rintro _ _ ⟨rfl,rfl⟩)|refine sT ?_|refine sS ?_|refine sN ?_|refine sM fun _=> ?_|(refine sC ?_ ?_<;>intro hb<;>try omega)|fail)
      all_goals first
        |(exfalso;omega)
        | (refine fH (k' := k1 + 1) (out' := o1) (B' := B1) (cb' := cb1) eIO rfl j1 (by omega) (by omega) (by omega) ?_
           simp only [Cx.B,rB,Rj,QU,QW]
           exact mS
           done)
        | (refine fH (k' := k1) (out' := o1) (B' := B1) (cb' := cb1) eIO rfl j1 (by omega) (by omega) (by omega) ?_
           simp only [Cx.B,rB,Rj,QU,QW]
           exact mS)
    · repeat' (first|(apply aa (f:=197);exact rfl;exact rfl;exact hN)|(apply ax (f:=195);exact rfl;exact rfl;exact FnIn.msub (ih f (Re _) x (k+1) p.skip B cb _ _ w0 hlt (Cx.skip hp) (TR hout) hr1) (MSub.pick pK (MSub.pick pK (MSub.pick pK (MSub.refl _))));rintro _ _ ⟨rfl,k1,B1,cb1,j1,j2,j3,j4,rfl⟩;replace j4:p1.out.length+(k+1)≤p.out.length+k1:=j4;obtain ⟨u,hd1⟩: ∃ u,hdT x.fin (x.toks.drop k1)=u:=⟨_,rfl⟩;by_cases h10:u.kind=10)|(apply ax (f:=347);exact rfl;exact rfl;exact FnIn.msub (lQ 10 (RB x.hsa (by decide)) (RB x.ht (by decide)) (by omega) (B:=B1) (cb:=cb1) (out:=p1.out) (at_:=0) (e:=0) (g:=x.g) (A:=x.A) (cap:=x.cap) hd1 h10 _ w0) (MSub.pick pK (MSub.pick pK (MSub.pick pK (MSub.refl _))));have hlt1:=Cx.lt hd1 (by omega);rintro _ _ ⟨rfl,rfl⟩)|(apply ax (f:=347);exact rfl;exact rfl;exact FnIn.msub (wo 10 (RB x.hsa (by decide)) (RB x.ht (by decide)) (B:=B1) (cb:=cb1) (out:=p1.out) (at_:=0) (e:=0) (g:=x.g) (A:=x.A) (cap:=x.cap) hd1 h10 _ w0) (MSub.pick pK (MSub.pick pK (MSub.pick pK (MSub.refl _))));rintro _ _ ⟨rfl,rfl⟩)|refine sT ?_|refine sS ?_|refine sN ?_|refine sM fun _=> ?_|(refine sC ?_ ?_<;>intro hb<;>try omega)|fail)
      all_goals try (exfalso;omega)
      · rw [j2,hd1,if_neg (by rw [h10];simp)] at hr2
        cases hr2
        refine kf (k' :=k1+1) (p' :=p1.skip) (B' :=B1) (cb' :=cb1) eIO rfl hlt1 (Cx.skip j2) (by omega) (by simp only [PS.skip];omega) ?_
        simp only [PS.skip,Cx.B,rB,Rj,QU,QW]
        exact mS
      · rw [j2,hd1,if_pos h10] at hr2
        cases hr2
        refine fH (x' :=(u.at_,4)) (k' :=k1) (out' :=p1.out) (B' :=B1) (cb' :=cb1) eIO rfl (by simp) (by omega) (by omega) (by omega) ?_
        simp only [Cx.B,rB,Rj,QU,QW]
        exact mS
  rw [if_neg h9,if_neg h7] at hrun
  cases hrun
  repeat' (first|(apply aa (f:=197);exact rfl;exact rfl;exact hN)|(apply ax (f:=196);exact rfl;exact rfl;exact FnIn.msub (fQ x.g x.sa x.A _ x.cap (k+1) B _ cb 0 0 _ _ _ _) (MSub.pick pK (.refl _));rintro _ _ ⟨rfl,rfl⟩)|refine sT ?_|refine sS ?_|refine sN ?_|refine sM fun _=> ?_|(refine sC ?_ ?_<;>intro hb<;>try omega)|fail)
  all_goals first
    |(exfalso;omega)
    | (refine fH (x' := (t.at_, 4)) (k' := k + 1) (out' := p.out) (B' := B) (cb' := cb) eIO rfl (by simp) (by omega) (by omega) (by omega) ?_
       simp only [Cx.B,rB,Rj,QU,QW]
       exact mS)
theorem Fb (f:Nat):(∀ q:Int,1≤q→q≤5→py f (.level q) 195 [.int .i64 q])∧py f .sign 240 []∧py f .pct 287 []∧py f .prim 324 []:=by
 induction f using Nat.strongRecOn with
 |_ f ih=>
  cases f with
  |zero=>
   refine ⟨fun k _ _=> ?_,?_,?_,?_⟩
   all_goals exact fun x k p B cb r R w0 _ _ _ h=>by cases h
  |succ f=>
   refine ⟨fun q h1 h5=>I3 f q h1 h5 (fun h4 f' hf' =>(ih f' (by omega)).1 (q+1) (by omega) (by omega)) (ih f (by omega)).2.1,Lb f (ih f (by omega)).2.1 (ih f (by omega)).2.2.1,CM f (ih f (by omega)).2.2.2,CL f fun f' hf' =>(ih f' (by omega)).1 1 (by omega) (by omega)⟩
end Go.SL

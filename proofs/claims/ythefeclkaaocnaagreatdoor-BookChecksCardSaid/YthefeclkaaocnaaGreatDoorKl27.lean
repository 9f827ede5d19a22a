/-
  Lemmas and walks, put together: R12 Q6 Q7 Q8.
-/
import Derived.Test.YthefeclkaaocnaaGreatDoorKl24
import Derived.Test.YthefeclkaaocnaaGreatDoorKl26
set_option linter.unusedSimpArgs false
set_option linter.unusedVariables false
set_option maxRecDepth 20000
namespace Go.SL
open Go Go.Proofs
attribute [local irreducible] W WL WQ WG WA WX WLI WR WT WC VOp RW thn blk bS scp bq bF cj aS FnIn FnP ceP
theorem TokR.form {i:Nat} {o:Option (Tk × Nat)} {v:Value} (h:TokR i o v): ∃ (t:Tk) (n:Int) (b:Bool),v= .tuple #[.agg (aZ t).toArray,.int .i64 n,.bool b]:=by
 cases o with
 |none=>
  obtain ⟨t,e,rfl⟩:=h
  exact ⟨t,e,false,rfl⟩
 |some x=>
  obtain ⟨t,n⟩:=x
  exact ⟨_,_,_,h⟩
set_option maxHeartbeats 2000000 in
theorem xN (a:ByteArray) (ha:a.size≤256) (i:Nat) (hi:i<a.size) (w:World):aS Tryz.prog 299 [.string a,.int .i64 (i:Int)] w fun v H=>H= []∧TokR i (bz ((ap a).drop i)) v:=by
 refine aq Tryz.func299 rfl Tryz.ntmps299 rfl ?_
 have hl:=au a
 have hD:=fun w=>kY a (by omega) i w
 have hL:=fun w=>kr a (by omega) i w
 have hN:=fun h w=>vU a ha i hi h w
 have hT:=fun w=>AA a ha i hi w
 have hWd:=fun h w=>Ay a ha i hi h w
 have hS:=fun w=>AB a ha i hi w
 unfold bz
 rw [lp,show ((ap a).drop i).tail=(ap a).drop (i+1) by rw [ND]]
 by_cases h1:aC (bat a i)=true
 ·
  rw [if_pos h1]
  rw [h1] at hD
  replace hN:=hN h1
  repeat' (first|(apply aa (f:=317);exact rfl;exact rfl;(intro w' hm;exact hD w'))|(apply aG (f:=318);exact rfl;exact rfl;(intro w' hm;exact hN w');(rintro _ _ ⟨rfl,h⟩;obtain ⟨t,n,b,rfl⟩:=h.form))|refine sT ?_|refine sS ?_|refine sT2 ?_|refine sN ?_|refine sM fun _=> ?_|(refine sC ?_ ?_<;>intro hb<;>try omega)|fail)
  all_goals ((refine ck ?_);exact ⟨rfl,by assumption⟩)
 rw [if_neg h1]
 replace h1:aC (bat a i)=false:=by simpa using h1
 rw [h1] at hD
 by_cases h2:bat a i=34
 ·
  rw [if_pos h2]
  repeat' (first|(apply aa (f:=317);exact rfl;exact rfl;(intro w' hm;exact hD w'))|(apply aG (f:=319);exact rfl;exact rfl;(intro w' hm;exact hT w');(rintro _ _ ⟨rfl,h⟩;obtain ⟨t,n,b,rfl⟩:=h.form))|(apply ak (d:=20);exact rfl;apply aU (j:=i);exact rfl;exact rfl;omega)|refine sT ?_|refine sS ?_|refine sT2 ?_|refine sN ?_|refine sM fun _=> ?_|(refine sC ?_ ?_<;>intro hb<;>try omega)|fail)
  all_goals
   first
   |(exact absurd h2 (by assumption))
   |((refine ck ?_);exact ⟨rfl,by assumption⟩)
 rw [if_neg h2]
 by_cases h3:bH (bat a i)=true
 ·
  rw [if_pos h3]
  rw [h3] at hL
  replace hWd:=hWd h3
  repeat' (first|(apply aa (f:=317);exact rfl;exact rfl;(intro w' hm;exact hD w'))|(apply aa (f:=320);exact rfl;exact rfl;(intro w' hm;exact hL w'))|(apply aG (f:=321);exact rfl;exact rfl;(intro w' hm;exact hWd w');(rintro _ _ ⟨rfl,h⟩;obtain ⟨t,n,b,rfl⟩:=h.form))|(apply ak (d:=20);exact rfl;apply aU (j:=i);exact rfl;exact rfl;omega)|refine sT ?_|refine sS ?_|refine sT2 ?_|refine sN ?_|refine sM fun _=> ?_|(refine sC ?_ ?_<;>intro hb<;>try omega)|fail)
  all_goals
   first
   |(exact absurd (by assumption) h2)
   |((refine ck ?_);exact ⟨rfl,by assumption⟩)
 rw [if_neg h3]
 replace h3:bH (bat a i)=false:=by simpa using h3
 rw [h3] at hL
 repeat' (first|(apply aa (f:=317);exact rfl;exact rfl;(intro w' hm;exact hD w'))|(apply aa (f:=320);exact rfl;exact rfl;(intro w' hm;exact hL w'))|(apply aG (f:=322);exact rfl;exact rfl;(intro w' hm;exact hS w');(rintro _ _ ⟨rfl,h⟩;obtain ⟨t,n,b,rfl⟩:=h.form))|(apply ak (d:=20);exact rfl;apply aU (j:=i);exact rfl;exact rfl;omega)|refine sT ?_|refine sS ?_|refine sT2 ?_|refine sN ?_|refine sM fun _=> ?_|(refine sC ?_ ?_<;>intro hb<;>try omega)|fail)
 all_goals
  first
  |(exact absurd (by assumption) h2)
  |((refine ck ?_);exact ⟨rfl,by assumption⟩)
set_option maxHeartbeats 4000000 in
theorem vT (a:ByteArray) (w:World):
    aS Tryz.prog 255 [.string a] w fun v H=> ∃ A cap,v=Cv A cap (bG bz (ap a))∧H= [.own A 295 8 (bG bz (ap a)).1.length cap ((bG bz (ap a)).1.flatMap aZ)]:=by
  refine aq Tryz.func255 rfl Tryz.ntmps255 rfl ?_
  have hl:=au a
  unfold bG
  refine aJ 295 8 ?_
  by_cases hlen:256<(ap a).length
  · rw [if_pos hlen]
    repeat' (first|refine sT ?_|refine sS ?_|refine sT2 ?_|refine sM fun _=> ?_|(refine sC ?_ ?_<;>intro hb<;>try omega)|fail)
    all_goals try (exfalso;omega)
    exact lX (.inl rfl) rfl rfl rfl rfl (.refl _) ⟨none,0,rfl,rfl⟩
  rw [if_neg hlen]
  repeat' (first|refine sT ?_|refine sS ?_|refine sT2 ?_|refine sM fun _=> ?_|(refine sC ?_ ?_<;>intro hb<;>try omega)|fail)
  all_goals try (exfalso;omega)
  refine ax [0] rfl (fun i:Nat=> [(5,.int .i64 (i:Int))]) (fun _=> [.own none 295 8 0 0 []]) (fun i=>i≤a.size∧ ∀ j,j<i→bp (bat a j)=true) (fun i=>a.size - i) 0 ⟨by omega,fun j h=>by omega⟩ sB mS ?_
  rintro i ⟨hi,hpl⟩
  by_cases hlt:i<a.size
  · repeat' (first|(apply ak (d:=22);exact rfl;apply aU (j:=i);exact rfl;exact rfl;omega)|(apply ak (d:=27);exact rfl;apply aU (j:=i);exact rfl;exact rfl;omega)|refine sT ?_|refine sS ?_|refine sT2 ?_|refine sN ?_|refine sM fun _=> ?_|(refine sC ?_ ?_<;>intro hb<;>try omega)|fail)
    all_goals first
      |(exfalso;omega)
      | (have hf : (ap a).findIdx? (fun c => !bp c) = some i := by
           refine lz hlt ?_ fun j hj=>by rw [hpl j hj];rfl
           simp only [bp,Bool.not_eq_true',MB,decide_eq_false_iff_not]
           omega
         rw [hf]
         exact lX (.inl rfl) rfl rfl rfl rfl (.refl _) ⟨none,0,rfl,rfl⟩)
      | (refine ⟨i + 1, ?_, (by first | omega | (dsimp only; omega)), sB, sB, mS⟩
         refine ⟨hlt,fun j hj=> ?_⟩
         rcases (by omega:j<i∨j=i) with h|rfl
         · exact hpl j h
         · simp only [bp,LM,decide_eq_true_eq]
           omega)
  have e:i=a.size:=by omega
  subst e
  have hf:(ap a).findIdx? (fun c=> !bp c)=none:=kz fun j hj=>by rw [hpl j hj];rfl
  rw [hf]
  dsimp only
  repeat' (first|refine sT ?_|refine sS ?_|refine sT2 ?_|refine sN ?_|refine sM fun _=> ?_|(refine sC ?_ ?_<;>intro hb<;>try omega)|fail)
  all_goals try (exfalso;omega)
  generalize hT:bf bz (ap a) (ap a).length 0=T
  refine ax [0] rfl (fun x:Nat × List Tk × Option Nat × Nat=> [(6,sl x.2.2.1 x.2.1.length x.2.2.2),(7,.int .i64 (x.1:Int))]) (fun x=> [.own x.2.2.1 295 8 x.2.1.length x.2.2.2 (x.2.1.flatMap aZ)])
    (fun x=>x.1≤a.size∧x.2.1.length≤x.1∧T=(bf bz (ap a) (a.size - x.1) x.1).map (x.2.1++ ·)) (fun x=>a.size - x.1) (0,[],none,0) ⟨by omega,by simp,by rw [← hT,hl];cases bf bz (ap a) a.size 0<;>rfl⟩ sB mS ?_
  rintro ⟨i,toks,A,cap⟩ ⟨hi2,hi3,hi4⟩
  dsimp only at hi2 hi3 hi4 ⊢
  by_cases hlt2:i<a.size
  · obtain ⟨f,hf1⟩: ∃ f,a.size - i=f+1:=⟨a.size - i - 1,by omega⟩
    rw [hf1] at hi4
    simp only [bf] at hi4
    have hdr:=ba hlt2
    have hK:=xN a (by omega) i hlt2
    generalize hld:(ap a).drop i=ld at hi4 hdr hK
    rw [hdr] at hi4
    dsimp only at hi4
    by_cases h32:bat a i=32
    · rw [if_pos h32] at hi4
      repeat' (first|(apply ak (d:=37);exact rfl;apply aU (j:=i);exact rfl;exact rfl;omega)|refine sT ?_|refine sS ?_|refine sT2 ?_|refine sN ?_|refine sM fun _=> ?_|(refine sC ?_ ?_<;>intro hb<;>try omega)|fail)
      all_goals try (exfalso;omega)
      refine ⟨(i+1,toks,A,cap),?_,(by first|omega|(dsimp only;omega)),sB,sB,mS⟩
      exact ⟨hlt2,by dsimp only;omega,by dsimp only;rw [show a.size - (i+1)=f by omega];exact hi4⟩
    · rw [if_neg h32,← hdr] at hi4
      have hldl:ld.length=a.size - i:=by rw [← hld,LL,hl]
      cases ho:bz ld with
      |none=>
        rw [ho] at hi4 hK
        dsimp only [Except.map] at hi4
        rw [hi4]
        refine aJ 295 8 ?_
        repeat' (first|(apply ak (d:=37);exact rfl;apply aU (j:=i);exact rfl;exact rfl;omega)|(apply aG (f:=299);exact rfl;exact rfl;(intro w' hm;exact hK w');(rintro _ _ ⟨rfl,t,n,rfl⟩))|refine sT ?_|refine sS ?_|refine sT2 ?_|refine sN ?_|refine sM fun _=> ?_|(refine sC ?_ ?_<;>intro hb<;>try omega)|fail)
        all_goals try (exfalso;omega)
        exact lX (.inl rfl) rfl rfl rfl rfl (H' := [.own none 295 8 0 0 []]) mS ⟨none,0,rfl,rfl⟩
      |some x=>
        obtain ⟨t,m⟩:=x
        rw [ho] at hi4 hK
        dsimp only at hi4
        have hfit:=kT ld t m ho
        have hm0:0<m:=hfit.1
        repeat' (first|(apply ak (d:=37);exact rfl;apply aU (j:=i);exact rfl;exact rfl;omega)|(apply aG (f:=299);exact rfl;exact rfl;(intro w' hm;exact hK w');(rintro _ _ ⟨rfl,rfl⟩))|(apply aN;(iterate 3 exact rfl);exact pK;exact pK;exact rfl;(simp [aZ,Value.oneCell']);omega;(simp only [maxLen];omega);intro g8 c8)|refine sT ?_|refine sS ?_|refine sT2 ?_|refine sN ?_|refine sM fun _=> ?_|(refine sC ?_ ?_<;>intro hb<;>try omega)|fail)
        all_goals try (exfalso;omega)
        refine ⟨(i+m,toks++ [{ t with at_:=(i:Int) }],some g8,c8),⟨by dsimp only;omega,by simp;omega,?_⟩,(by dsimp only;omega),?_,sB,?_⟩
        · dsimp only
          rw [hi4,m8 kT f (a.size - (i+m)) f (i+m) (by omega) (by omega) (by omega)]
          cases bf bz (ap a) (a.size - (i+m)) (i+m)<;>simp [Except.map]
        · simp only [LC,LH]
          exact sB
        · simp only [LC,LH,LY,LR,Mj,LN]
          exact mS
  · have e:i=a.size:=by omega
    subst e
    rw [show a.size - a.size=0 by omega] at hi4
    simp only [bf,Except.map,LN] at hi4
    rw [hi4]
    repeat' (first|refine sT ?_|refine sS ?_|refine sT2 ?_|refine sN ?_|refine sM fun _=> ?_|(refine sC ?_ ?_<;>intro hb<;>try omega)|fail)
    all_goals try (exfalso;omega)
    exact lX (.inl rfl) rfl rfl rfl rfl (H' := [.own A 295 8 toks.length cap (toks.flatMap aZ)]) mS ⟨A,cap,rfl,rfl⟩
set_option maxHeartbeats 4000000 in
theorem x8 (f:Nat) (ih: ∀ f' ≤f,l4 f' (.level 1) 256 [.int .i64 1]):l4 (f+1) .prim 342 []:=by
  intro x k p B cb r R w0 hk hp hout hrun
  refine dM Tryz.func342 rfl Tryz.ntmps342 rfl ?_
  have hxt:=x.ht
  dsimp only at hrun
  obtain ⟨t,ht⟩: ∃ t,hdT x.fin p.l=t:=⟨_,rfl⟩
  have hd:hdT x.fin (x.toks.drop k)=t:=hp ▸ ht
  have hN:=fun w hm=>Cx.next hd (B:=B) (cb:=cb) (out:=p.out) (at_:=0) (e:=0) (w0:=w0) (H:=x.B k B cb p.out 0 0++R) ⟨R,.refl _⟩ w hm
  by_cases h7:t.kind=7
  · rw [uA _ _ _ (by rw [ht];exact h7),ht] at hrun
    have hlt:=Cx.lt hd (by omega)
    have hC:=FM f t ih x k p B cb r
    repeat' (first|(apply aa (f:=258);exact rfl;exact rfl;exact hN)|(apply aw (f:=356);exact rfl;exact rfl;exact FnIn.msub (hC _ w0 hlt hp hout ht h7 hrun) (MSub.pick pK (MSub.pick pK (MSub.pick pK (MSub.refl _))));rintro v1 H1 ⟨rfl,hR⟩)|refine sT ?_|refine sS ?_|refine sN ?_|refine sM fun _=> ?_|(refine sC ?_ ?_<;>intro hb<;>try omega)|fail)
    all_goals try (exfalso;omega)
    cases r with
    |error e=>
      obtain ⟨k1,B1,cb1,o1,j1,j2,j3,j4,rfl⟩:=hR
      refine ed (k' :=k1) (out' :=o1) (B' :=B1) (cb' :=cb1) eIO rfl j1 j2 (by omega) (by omega) ?_
      simp only [Cx.B,rB,LO,LD,LG]
      exact mS
    |ok y=>
      obtain ⟨n1,p1⟩:=y
      obtain ⟨k1,B1,cb1,j1,j2,j3,j4,rfl⟩:=hR
      refine iR (k' :=k1) (p' :=p1) (B' :=B1) (cb' :=cb1) eIO rfl j1 j2 (by omega) (by omega) ?_
      simp only [Cx.B,rB,LO,LD,LG]
      exact mS
  rw [bB] at hrun
  dsimp only at hrun
  rw [ht] at hrun
  by_cases h14:1≤t.kind∧t.kind≤4
  · rw [if_pos h14] at hrun
    have hlt:=Cx.lt hd (by omega)
    cases hrun
    rcases (by omega:t.kind=1∨t.kind=2∨t.kind=3∨t.kind=4) with hc|hc|hc|hc
    · have hl:kA t=⟨1,⟨1,t.num,av⟩,aL,0,0,0⟩:=by simp [kA,hc]
      rw [hl]
      repeat' (first|(apply aa (f:=258);exact rfl;exact rfl;exact hN)|refine sT ?_|refine sS ?_|refine sN ?_|refine sM fun _=> ?_|(refine sC ?_ ?_<;>intro hb<;>try omega)|fail)
      all_goals try (exfalso;omega)
      refine iw 14 rfl (by kernel_rfl) ?_
      ((with_reducible apply aO (i:=0));exact rfl;exact rfl;decide+kernel;decide+kernel;decide+kernel;exact nP;(intro _ _;exact vP))
      ((with_reducible apply aO (i:=1));exact rfl;exact rfl;decide+kernel;decide+kernel;decide+kernel;exact nP;(intro _ _;exact vP))
      ((with_reducible apply aO (i:=2));exact rfl;exact rfl;decide+kernel;decide+kernel;decide+kernel;exact nP;(intro _ _;exact vP))
      ((with_reducible apply aO (i:=3));exact rfl;exact rfl;decide+kernel;decide+kernel;decide+kernel;exact nP;(intro _ _;exact vP))
      ((with_reducible apply aO (i:=5));exact rfl;exact rfl;decide+kernel;decide+kernel;decide+kernel;exact nP;(intro _ _;exact vP))
      repeat' (first|(apply cF (i:=4) (j:=6);exact rfl;exact rfl;decide+kernel)|(apply cF (i:=4) (j:=7);exact rfl;exact rfl;decide+kernel)|(apply cF (i:=4) (j:=8);exact rfl;exact rfl;decide+kernel)|(apply cF (i:=4) (j:=9);exact rfl;exact rfl;decide+kernel)|(apply aF (i:=4);exact rfl;decide+kernel)|(apply aF (i:=5);exact rfl;decide+kernel)|(apply aF (i:=6);exact rfl;decide+kernel)|(apply aF (i:=7);exact rfl;decide+kernel)|(apply aF (i:=8);exact rfl;decide+kernel)|(apply aF (i:=9);exact rfl;decide+kernel)|(apply aF (i:=10);exact rfl;decide+kernel)|(apply aF (i:=11);exact rfl;decide+kernel)|(apply aF (i:=12);exact rfl;decide+kernel)|(apply aF (i:=13);exact rfl;decide+kernel)|(apply iq;decide+kernel)|(apply aN;(iterate 3 exact rfl);exact pK;exact pK;exact rfl;(simp [bY,Value.oneCell']);omega;(simp only [maxLen];omega);intro g8 c8)|refine sT ?_|refine sS ?_|refine sN ?_|refine sM fun _=> ?_|(refine sC ?_ ?_<;>intro hb<;>try omega)|fail)
      all_goals first
        |(exfalso;omega)
        | (refine iR (k' := k + 1) (p' := p.skip.put ⟨1, ⟨1, t.num, av⟩, aL, 0, 0, 0⟩) (B' := some g8) (cb' := c8) eIO rfl hlt (Cx.skip hp) (NX k) (by simp only [PS.put, PS.skip, LC, LH]; omega) ?_
           simp only [PS.put,PS.skip,Cx.B,rB,LC,LH,LY,LR,Mj,LN,LO,LD,LG]
           exact mS)
    · have hl:kA t=⟨1,⟨3,0,t.text⟩,aL,0,0,0⟩:=by simp [kA,hc]
      rw [hl]
      repeat' (first|(apply aa (f:=258);exact rfl;exact rfl;exact hN)|refine sT ?_|refine sS ?_|refine sN ?_|refine sM fun _=> ?_|(refine sC ?_ ?_<;>intro hb<;>try omega)|fail)
      all_goals try (exfalso;omega)
      refine iw 14 rfl (by kernel_rfl) ?_
      ((with_reducible apply aO (i:=0));exact rfl;exact rfl;decide+kernel;decide+kernel;decide+kernel;exact nP;(intro _ _;exact vP))
      ((with_reducible apply aO (i:=1));exact rfl;exact rfl;decide+kernel;decide+kernel;decide+kernel;exact nP;(intro _ _;exact vP))
      ((with_reducible apply aO (i:=2));exact rfl;exact rfl;decide+kernel;decide+kernel;decide+kernel;exact nP;(intro _ _;exact vP))
      ((with_reducible apply aO (i:=3));exact rfl;exact rfl;decide+kernel;decide+kernel;decide+kernel;exact nP;(intro _ _;exact vP))
      ((with_reducible apply aO (i:=5));exact rfl;exact rfl;decide+kernel;decide+kernel;decide+kernel;exact nP;(intro _ _;exact vP))
      repeat' (first|(apply cF (i:=4) (j:=6);exact rfl;exact rfl;decide+kernel)|(apply cF (i:=4) (j:=7);exact rfl;exact rfl;decide+kernel)|(apply cF (i:=4) (j:=8);exact rfl;exact rfl;decide+kernel)|(apply cF (i:=4) (j:=9);exact rfl;exact rfl;decide+kernel)|(apply aF (i:=4);exact rfl;decide+kernel)|(apply aF (i:=5);exact rfl;decide+kernel)|(apply aF (i:=6);exact rfl;decide+kernel)|(apply aF (i:=7);exact rfl;decide+kernel)|(apply aF (i:=8);exact rfl;decide+kernel)|(apply aF (i:=9);exact rfl;decide+kernel)|(apply aF (i:=10);exact rfl;decide+kernel)|(apply aF (i:=11);exact rfl;decide+kernel)|(apply aF (i:=12);exact rfl;decide+kernel)|(apply aF (i:=13);exact rfl;decide+kernel)|(apply iq;decide+kernel)|(apply aN;(iterate 3 exact rfl);exact pK;exact pK;exact rfl;(simp [bY,Value.oneCell']);omega;(simp only [maxLen];omega);intro g8 c8)|refine sT ?_|refine sS ?_|refine sN ?_|refine sM fun _=> ?_|(refine sC ?_ ?_<;>intro hb<;>try omega)|fail)
      all_goals first
        |(exfalso;omega)
        | (refine iR (k' := k + 1) (p' := p.skip.put ⟨1, ⟨3, 0, t.text⟩, aL, 0, 0, 0⟩) (B' := some g8) (cb' := c8) eIO rfl hlt (Cx.skip hp) (NX k) (by simp only [PS.put, PS.skip, LC, LH]; omega) ?_
           simp only [PS.put,PS.skip,Cx.B,rB,LC,LH,LY,LR,Mj,LN,LO,LD,LG]
           exact mS)
    · have hl:kA t=⟨1,⟨2,t.num,av⟩,aL,0,0,0⟩:=by simp [kA,hc]
      rw [hl]
      repeat' (first|(apply aa (f:=258);exact rfl;exact rfl;exact hN)|refine sT ?_|refine sS ?_|refine sN ?_|refine sM fun _=> ?_|(refine sC ?_ ?_<;>intro hb<;>try omega)|fail)
      all_goals try (exfalso;omega)
      refine iw 14 rfl (by kernel_rfl) ?_
      ((with_reducible apply aO (i:=0));exact rfl;exact rfl;decide+kernel;decide+kernel;decide+kernel;exact nP;(intro _ _;exact vP))
      ((with_reducible apply aO (i:=1));exact rfl;exact rfl;decide+kernel;decide+kernel;decide+kernel;exact nP;(intro _ _;exact vP))
      ((with_reducible apply aO (i:=2));exact rfl;exact rfl;decide+kernel;decide+kernel;decide+kernel;exact nP;(intro _ _;exact vP))
      ((with_reducible apply aO (i:=3));exact rfl;exact rfl;decide+kernel;decide+kernel;decide+kernel;exact nP;(intro _ _;exact vP))
      ((with_reducible apply aO (i:=5));exact rfl;exact rfl;decide+kernel;decide+kernel;decide+kernel;exact nP;(intro _ _;exact vP))
      repeat' (first|(apply cF (i:=4) (j:=6);exact rfl;exact rfl;decide+kernel)|(apply cF (i:=4) (j:=7);exact rfl;exact rfl;decide+kernel)|(apply cF (i:=4) (j:=8);exact rfl;exact rfl;decide+kernel)|(apply cF (i:=4) (j:=9);exact rfl;exact rfl;decide+kernel)|(apply aF (i:=4);exact rfl;decide+kernel)|(apply aF (i:=5);exact rfl;decide+kernel)|(apply aF (i:=6);exact rfl;decide+kernel)|(apply aF (i:=7);exact rfl;decide+kernel)|(apply aF (i:=8);exact rfl;decide+kernel)|(apply aF (i:=9);exact rfl;decide+kernel)|(apply aF (i:=10);exact rfl;decide+kernel)|(apply aF (i:=11);exact rfl;decide+kernel)|(apply aF (i:=12);exact rfl;decide+kernel)|(apply aF (i:=13);exact rfl;decide+kernel)|(apply iq;decide+kernel)|(apply aN;(iterate 3 exact rfl);exact pK;exact pK;exact rfl;(simp [bY,Value.oneCell']);omega;(simp only [maxLen];omega);intro g8 c8)|refine sT ?_|refine sS ?_|refine sN ?_|refine sM fun _=> ?_|(refine sC ?_ ?_<;>intro hb<;>try omega)|fail)
      all_goals first
        |(exfalso;omega)
        | (refine iR (k' := k + 1) (p' := p.skip.put ⟨1, ⟨2, t.num, av⟩, aL, 0, 0, 0⟩) (B' := some g8) (cb' := c8) eIO rfl hlt (Cx.skip hp) (NX k) (by simp only [PS.put, PS.skip, LC, LH]; omega) ?_
           simp only [PS.put,PS.skip,Cx.B,rB,LC,LH,LY,LR,Mj,LN,LO,LD,LG]
           exact mS)
    · have hl:kA t=⟨1,⟨4,t.num,av⟩,aL,0,0,0⟩:=by simp [kA,hc]
      rw [hl]
      repeat' (first|(apply aa (f:=258);exact rfl;exact rfl;exact hN)|refine sT ?_|refine sS ?_|refine sN ?_|refine sM fun _=> ?_|(refine sC ?_ ?_<;>intro hb<;>try omega)|fail)
      all_goals try (exfalso;omega)
      refine iw 14 rfl (by kernel_rfl) ?_
      ((with_reducible apply aO (i:=0));exact rfl;exact rfl;decide+kernel;decide+kernel;decide+kernel;exact nP;(intro _ _;exact vP))
      ((with_reducible apply aO (i:=1));exact rfl;exact rfl;decide+kernel;decide+kernel;decide+kernel;exact nP;(intro _ _;exact vP))
      ((with_reducible apply aO (i:=2));exact rfl;exact rfl;decide+kernel;decide+kernel;decide+kernel;exact nP;(intro _ _;exact vP))
      ((with_reducible apply aO (i:=3));exact rfl;exact rfl;decide+kernel;decide+kernel;decide+kernel;exact nP;(intro _ _;exact vP))
      ((with_reducible apply aO (i:=5));exact rfl;exact rfl;decide+kernel;decide+kernel;decide+kernel;exact nP;(intro _ _;exact vP))
      repeat' (first|(apply cF (i:=4) (j:=6);exact rfl;exact rfl;decide+kernel)|(apply cF (i:=4) (j:=7);exact rfl;exact rfl;decide+kernel)|(apply cF (i:=4) (j:=8);exact rfl;exact rfl;decide+kernel)|(apply cF (i:=4) (j:=9);exact rfl;exact rfl;decide+kernel)|(apply aF (i:=4);exact rfl;decide+kernel)|(apply aF (i:=5);exact rfl;decide+kernel)|(apply aF (i:=6);exact rfl;decide+kernel)|(apply aF (i:=7);exact rfl;decide+kernel)|(apply aF (i:=8);exact rfl;decide+kernel)|(apply aF (i:=9);exact rfl;decide+kernel)|(apply aF (i:=10);exact rfl;decide+kernel)|(apply aF (i:=11);exact rfl;decide+kernel)|(apply aF (i:=12);exact rfl;decide+kernel)|(apply aF (i:=13);exact rfl;decide+kernel)|(apply iq;decide+kernel)|(apply aN;(iterate 3 exact rfl);exact pK;exact pK;exact rfl;(simp [bY,Value.oneCell']);omega;(simp only [maxLen];omega);intro g8 c8)|refine sT ?_|refine sS ?_|refine sN ?_|refine sM fun _=> ?_|(refine sC ?_ ?_<;>intro hb<;>try omega)|fail)
      all_goals first
        |(exfalso;omega)
        | (refine iR (k' := k + 1) (p' := p.skip.put ⟨1, ⟨4, t.num, av⟩, aL, 0, 0, 0⟩) (B' := some g8) (cb' := c8) eIO rfl hlt (Cx.skip hp) (NX k) (by simp only [PS.put, PS.skip, LC, LH]; omega) ?_
           simp only [PS.put,PS.skip,Cx.B,rB,LC,LH,LY,LR,Mj,LN,LO,LD,LG]
           exact mS)
  rw [if_neg h14] at hrun
  by_cases h5:t.kind=5
  · rw [if_pos h5] at hrun
    have hlt:=Cx.lt hd (by omega)
    cases hrun
    repeat' (first|(apply aa (f:=258);exact rfl;exact rfl;exact hN)|refine sT ?_|refine sS ?_|refine sN ?_|refine sM fun _=> ?_|(refine sC ?_ ?_<;>intro hb<;>try omega)|fail)
    all_goals try (exfalso;omega)
    refine iw 13 rfl (by kernel_rfl) ?_
    ((with_reducible apply aO (i:=0));exact rfl;exact rfl;decide+kernel;decide+kernel;decide+kernel;exact nP;(intro _ _;exact vP))
    ((with_reducible apply aO (i:=1));exact rfl;exact rfl;decide+kernel;decide+kernel;decide+kernel;exact nP;(intro _ _;exact vP))
    ((with_reducible apply aO (i:=2));exact rfl;exact rfl;decide+kernel;decide+kernel;decide+kernel;exact nP;(intro _ _;exact vP))
    ((with_reducible apply aO (i:=3));exact rfl;exact rfl;decide+kernel;decide+kernel;decide+kernel;exact nP;(intro _ _;exact vP))
    ((with_reducible apply aO (i:=5));exact rfl;exact rfl;decide+kernel;decide+kernel;decide+kernel;exact nP;(intro _ _;exact vP))
    repeat' (first|(apply cF (i:=4) (j:=6);exact rfl;exact rfl;decide+kernel)|(apply cF (i:=4) (j:=7);exact rfl;exact rfl;decide+kernel)|(apply cF (i:=4) (j:=8);exact rfl;exact rfl;decide+kernel)|(apply aF (i:=4);exact rfl;decide+kernel)|(apply aF (i:=5);exact rfl;decide+kernel)|(apply aF (i:=6);exact rfl;decide+kernel)|(apply aF (i:=7);exact rfl;decide+kernel)|(apply aF (i:=8);exact rfl;decide+kernel)|(apply aF (i:=9);exact rfl;decide+kernel)|(apply aF (i:=10);exact rfl;decide+kernel)|(apply aF (i:=11);exact rfl;decide+kernel)|(apply aF (i:=12);exact rfl;decide+kernel)|(apply iq;decide+kernel)|(apply aN;(iterate 3 exact rfl);exact pK;exact pK;exact rfl;(simp [bY,Value.oneCell']);omega;(simp only [maxLen];omega);intro g8 c8)|refine sT ?_|refine sS ?_|refine sN ?_|refine sM fun _=> ?_|(refine sC ?_ ?_<;>intro hb<;>try omega)|fail)
    all_goals first
      |(exfalso;omega)
      | (refine iR (k' := k + 1) (p' := p.skip.put ⟨2, bE, t.rect, 0, 0, 0⟩) (B' := some g8) (cb' := c8) eIO rfl hlt (Cx.skip hp) (NX k) (by simp only [PS.put, PS.skip, LC, LH]; omega) ?_
         simp only [PS.put,PS.skip,Cx.B,rB,LC,LH,LY,LR,Mj,LN,LO,LD,LG]
         exact mS)
  rw [if_neg h5] at hrun
  by_cases h9:t.kind=9
  · rw [if_pos h9] at hrun
    have hlt:=Cx.lt hd (by omega)
    obtain ⟨r1,hr1,⟨e,rfl,rfl⟩|⟨n1,p1,rfl,hr2⟩⟩:=bA hrun
    · repeat' (first|(apply aa (f:=258);exact rfl;exact rfl;exact hN)|(apply aw (f:=256);exact rfl;exact rfl;exact FnIn.msub (ih f (LK _) x (k+1) p.skip B cb _ _ w0 hlt (Cx.skip hp) (NM hout) hr1) (MSub.pick pK (MSub.pick pK (MSub.pick pK (MSub.refl _))));rintro _ _ ⟨rfl,k1,B1,cb1,o1,j1,j2,j3,j4,rfl⟩;replace j4:o1.length+(k+1)≤p.out.length+k1:=j4;obtain ⟨u,hd1⟩: ∃ u,hdT x.fin (x.toks.drop k1)=u:=⟨_,rfl⟩;by_cases h10:u.kind=10)|(apply aw (f:=355);exact rfl;exact rfl;exact FnIn.msub (jP 10 (Ma x.hsa (by decide)) (Ma x.ht (by decide)) (by omega) (B:=B1) (cb:=cb1) (out:=o1) (at_:=e.1) (e:=e.2) (g:=x.g) (A:=x.A) (cap:=x.cap) hd1 h10 _ w0) (MSub.pick pK (MSub.pick pK (MSub.pick pK (MSub.refl _))));have hlt1:=Cx.lt hd1 (by omega);rintro _ _ ⟨rfl,rfl⟩)|(apply aw (f:=355);exact rfl;exact rfl;exact FnIn.msub (rp 10 (Ma x.hsa (by decide)) (Ma x.ht (by decide)) (B:=B1) (cb:=cb1) (out:=o1) (at_:=e.1) (e:=e.2) (g:=x.g) (A:=x.A) (cap:=x.cap) hd1 h10 _ w0) (MSub.pick pK (MSub.pick pK (MSub.pick pK (MSub.refl _))));rw [if_neg j1,if_neg j1];rintro _ _ ⟨rfl,rfl⟩)|refine sT ?_|refine sS ?_|refine sN ?_|refine sM fun _=> ?_|(refine sC ?_ ?_<;>intro hb<;>try omega)|fail)
      all_goals first
        |(exfalso;omega)
        | (refine ed (k' := k1 + 1) (out' := o1) (B' := B1) (cb' := cb1) eIO rfl j1 (by omega) (by omega) (by omega) ?_
           simp only [Cx.B,rB,LO,LD,LG]
           exact mS
           done)
        | (refine ed (k' := k1) (out' := o1) (B' := B1) (cb' := cb1) eIO rfl j1 (by omega) (by omega) (by omega) ?_
           simp only [Cx.B,rB,LO,LD,LG]
           exact mS)
    · repeat' (first|(apply aa (f:=258);exact rfl;exact rfl;exact hN)|(apply aw (f:=256);exact rfl;exact rfl;exact FnIn.msub (ih f (LK _) x (k+1) p.skip B cb _ _ w0 hlt (Cx.skip hp) (NM hout) hr1) (MSub.pick pK (MSub.pick pK (MSub.pick pK (MSub.refl _))));rintro _ _ ⟨rfl,k1,B1,cb1,j1,j2,j3,j4,rfl⟩;replace j4:p1.out.length+(k+1)≤p.out.length+k1:=j4;obtain ⟨u,hd1⟩: ∃ u,hdT x.fin (x.toks.drop k1)=u:=⟨_,rfl⟩;by_cases h10:u.kind=10)|(apply aw (f:=355);exact rfl;exact rfl;exact FnIn.msub (jP 10 (Ma x.hsa (by decide)) (Ma x.ht (by decide)) (by omega) (B:=B1) (cb:=cb1) (out:=p1.out) (at_:=0) (e:=0) (g:=x.g) (A:=x.A) (cap:=x.cap) hd1 h10 _ w0) (MSub.pick pK (MSub.pick pK (MSub.pick pK (MSub.refl _))));have hlt1:=Cx.lt hd1 (by omega);rintro _ _ ⟨rfl,rfl⟩)|(apply aw (f:=355);exact rfl;exact rfl;exact FnIn.msub (rp 10 (Ma x.hsa (by decide)) (Ma x.ht (by decide)) (B:=B1) (cb:=cb1) (out:=p1.out) (at_:=0) (e:=0) (g:=x.g) (A:=x.A) (cap:=x.cap) hd1 h10 _ w0) (MSub.pick pK (MSub.pick pK (MSub.pick pK (MSub.refl _))));rintro _ _ ⟨rfl,rfl⟩)|refine sT ?_|refine sS ?_|refine sN ?_|refine sM fun _=> ?_|(refine sC ?_ ?_<;>intro hb<;>try omega)|fail)
      all_goals try (exfalso;omega)
      · rw [j2,hd1,if_neg (by rw [h10];simp)] at hr2
        cases hr2
        refine iR (k' :=k1+1) (p' :=p1.skip) (B' :=B1) (cb' :=cb1) eIO rfl hlt1 (Cx.skip j2) (by omega) (by simp only [PS.skip];omega) ?_
        simp only [PS.skip,Cx.B,rB,LO,LD,LG]
        exact mS
      · rw [j2,hd1,if_pos h10] at hr2
        cases hr2
        refine ed (x' :=(u.at_,4)) (k' :=k1) (out' :=p1.out) (B' :=B1) (cb' :=cb1) eIO rfl (by simp) (by omega) (by omega) (by omega) ?_
        simp only [Cx.B,rB,LO,LD,LG]
        exact mS
  rw [if_neg h9,if_neg h7] at hrun
  cases hrun
  repeat' (first|(apply aa (f:=258);exact rfl;exact rfl;exact hN)|(apply aw (f:=257);exact rfl;exact rfl;exact FnIn.msub (eG x.g x.sa x.A _ x.cap (k+1) B _ cb 0 0 _ _ _ _) (MSub.pick pK (.refl _));rintro _ _ ⟨rfl,rfl⟩)|refine sT ?_|refine sS ?_|refine sN ?_|refine sM fun _=> ?_|(refine sC ?_ ?_<;>intro hb<;>try omega)|fail)
  all_goals first
    |(exfalso;omega)
    | (refine ed (x' := (t.at_, 4)) (k' := k + 1) (out' := p.out) (B' := B) (cb' := cb) eIO rfl (by simp) (by omega) (by omega) (by omega) ?_
       simp only [Cx.B,rB,LO,LD,LG]
       exact mS)
theorem Aw (f:Nat):(∀ q:Int,1≤q→q≤5→l4 f (.level q) 256 [.int .i64 q])∧l4 f .sign 300 []∧l4 f .pct 323 []∧l4 f .prim 342 []:=by
 induction f using Nat.strongRecOn with
 |_ f ih=>
  cases f with
  |zero=>
   refine ⟨fun k _ _=> ?_,?_,?_,?_⟩
   all_goals exact fun x k p B cb r R w0 _ _ _ h=>by cases h
  |succ f=>
   refine ⟨fun q h1 h5=>DL f q h1 h5 (fun h4 f' hf' =>(ih f' (by omega)).1 (q+1) (by omega) (by omega)) (ih f (by omega)).2.1,FL f (ih f (by omega)).2.1 (ih f (by omega)).2.2.1,x9 f (ih f (by omega)).2.2.2,x8 f fun f' hf' =>(ih f' (by omega)).1 1 (by omega) (by omega)⟩
theorem vL {tk:List Int→Option (Tk × Nat)} {a:ByteArray} (h:(bG tk (ap a)).2.2=0):a.size≤256:=by
 unfold bG at h
 split at h
 ·
  cases h
 ·
  rename_i h1
  rw [au] at h1
  omega
set_option maxHeartbeats 4000000 in
theorem tB (a:ByteArray) (w:World) (r:List Nd × Int × Int) (hr:r=cP (bG bz (ap a)) (a.size:Int)):
  aS Tryz.prog 210 [.string a] w fun v H=> ∃ A cap,v=Cu A cap r∧H= [.own A 174 11 r.1.length cap (r.1.flatMap bY)]:=by
 refine aq Tryz.func210 rfl Tryz.ntmps210 rfl ?_
 have hT:=fun w' =>vT a w'
 have htl:=py bz (ap a)
 have hch:=tr (ap a)
 have hnum:=xv (ap a)
 have hsz:=vL (tk:=bz) (a:=a)
 obtain ⟨⟨toks,at0,e0⟩,hx⟩: ∃ x,bG bz (ap a)=x:=⟨_,rfl⟩
 rw [hx] at hr htl hch hnum hsz
 simp only [hx,Cv] at hT
 dsimp only at htl hch hnum hsz
 refine aJ 174 11 ?_
 refine aJ 174 11 ?_
 by_cases he0:e0≠0
 ·
  have hr' :r=([],at0,e0):=by rw [hr];simp [cP,he0]
  subst hr'
  repeat' (first|(apply aG (f:=255);exact rfl;exact rfl;exact fun w' _=>hT w';rintro _ _ ⟨A,cap,rfl,rfl⟩)|refine sT ?_|refine sS ?_|refine sN ?_|refine sM fun _=> ?_|(refine sC ?_ ?_<;>intro hb<;>try omega)|fail)
  all_goals first
   |(exfalso;omega)
   |exact lX eIO rfl rfl rfl rfl (H' := [.own none 174 11 0 0 []]) mS ⟨none,0,rfl,rfl⟩
 have he0:e0=0:=Classical.not_not.1 he0
 subst he0
 replace hsz:=hsz rfl
 obtain ⟨r1,hr1,_⟩:=uq (a.size:Int) (20*toks.length+40) (.level 1) ⟨toks,[]⟩ ⟨by omega,by omega⟩ (by simp [Job.c])
 have hL:=(Aw (20*toks.length+40)).1 1 (by decide) (by decide)
 obtain ⟨ff,hff⟩: ∃ ff,20*toks.length+40=ff:=⟨_,rfl⟩
 rw [hff] at hr1 hL
 cases r1 with
 |error e=>
  have hr' :r=([],e.1,e.2):=by rw [hr];simp [cP,hff,hr1]
  subst hr'
  repeat' (first|(apply aG (f:=255);exact rfl;exact rfl;exact fun w' _=>hT w';rintro _ _ ⟨A,cap,rfl,rfl⟩)|(apply aw (f:=256);exact rfl;exact rfl;rename_i g;exact FnIn.msub (hL ⟨g,a,A,cap,toks,hsz,htl,hch⟩ 0 ⟨toks,[]⟩ none 0 _ _ w (Nat.zero_le _) rfl (Nat.le_refl 0) hr1) (MSub.pick pK (MSub.pick pK (MSub.pick pK (MSub.refl _))));rintro _ _ ⟨rfl,k1,B1,cb1,o1,j1,j2,j3,j4,rfl⟩;dsimp only at j2;obtain ⟨u,hd1⟩: ∃ u,hdT (a.size:Int) (toks.drop k1)=u:=⟨_,rfl⟩)|(apply ak;exact rfl;apply cJ;exact rfl;exact rfl)|(apply aa (f:=258);exact rfl;exact rfl;exact fun w' hm=>Cx.next (x:=⟨_,a,A,cap,toks,hsz,htl,hch⟩) hd1 (B:=B1) (cb:=cb1) (out:=o1) (at_:=e.1) (e:=e.2) (MSub.pick pK (MSub.pick pK (MSub.pick pK (MSub.nil _)))) w' hm)|(apply aw (f:=257);exact rfl;exact rfl;exact FnIn.msub (eG _ a A toks.length cap k1 B1 o1.length cb1 e.1 e.2 _ _ _ _) (MSub.pick pK (.refl _));rw [if_neg j1,if_neg j1];rintro _ _ ⟨rfl,rfl⟩)|refine sT ?_|refine sS ?_|refine sQ ?_|refine sN ?_|refine sNQ ?_|refine sD ?_|refine sM fun _=> ?_|(refine sC ?_ ?_<;>intro hb<;>try omega)|(refine sCQ ?_ ?_<;>intro hb<;>try omega)|fail)
  all_goals first
   |(exfalso;omega)
   |exact absurd (by assumption) j1
   |exact lX eIO rfl rfl rfl rfl (H' := [.own none 174 11 0 0 []]) mS ⟨none,0,rfl,rfl⟩
 |ok y=>
  obtain ⟨n,p'⟩:=y
  have hwf:=CA _ _ _ _ _ _ hr1 (⟨hnum,fun _ h=>by cases h⟩:Wf ⟨toks,[]⟩)
  have hD:=fun (tv:Value) (w' :World) (h:Reads w' tv p'.out.length (p'.out.flatMap bY))=>xT p'.out hwf.2 tv w' h
  have hde:(lB p'.out).2=jB p'.out:=by
   unfold lB
   split
   ·
    rfl
   ·
    rename_i h;simp at h;simp [h]
  obtain ⟨dd,de,hdd⟩: ∃ a b,lB p'.out=(a,b):=⟨_,_,rfl⟩
  rw [hdd] at hD hde
  dsimp only at hD hde
  repeat' (first|(apply aG (f:=255);exact rfl;exact rfl;exact fun w' _=>hT w';rintro _ _ ⟨A,cap,rfl,rfl⟩)|(apply aw (f:=256);exact rfl;exact rfl;rename_i g;exact FnIn.msub (hL ⟨g,a,A,cap,toks,hsz,htl,hch⟩ 0 ⟨toks,[]⟩ none 0 _ _ w (Nat.zero_le _) rfl (Nat.le_refl 0) hr1) (MSub.pick pK (MSub.pick pK (MSub.pick pK (MSub.refl _))));rintro _ _ ⟨rfl,k1,B1,cb1,j1,j2,j3,j4,rfl⟩;dsimp only at j1 j2;obtain ⟨u,hd1⟩: ∃ u,hdT (a.size:Int) (toks.drop k1)=u:=⟨_,rfl⟩)|(apply ak;exact rfl;apply cJ;exact rfl;exact rfl)|(apply aa (f:=258);exact rfl;exact rfl;exact fun w' hm=>Cx.next (x:=⟨_,a,A,cap,toks,hsz,htl,hch⟩) hd1 (B:=B1) (cb:=cb1) (out:=p'.out) (at_:=0) (e:=0) (MSub.pick pK (MSub.pick pK (MSub.pick pK (MSub.nil _)))) w' hm)|(apply aw (f:=257);exact rfl;exact rfl;exact FnIn.msub (eG _ a A toks.length cap k1 B1 p'.out.length cb1 0 0 _ _ _ _) (MSub.pick pK (.refl _));rintro _ _ ⟨rfl,rfl⟩)|(apply aa (f:=259);exact rfl;exact rfl;(intro w' hm';exact hD _ w' (Reads.of_own (A:=B1) hm' pK)))|refine sT ?_|refine sS ?_|refine sQ ?_|refine sN ?_|refine sNQ ?_|refine sD ?_|refine sM fun _=> ?_|(refine sC ?_ ?_<;>intro hb<;>try omega)|(refine sCQ ?_ ?_<;>intro hb<;>try omega)|fail)
  all_goals try (exfalso;omega)
  ·
   have hk1:k1<toks.length:=by
    have:(k1:Int)<(toks.length:Int):=by assumption
    omega
   have hu0:u.kind≠0:=fun h=>by
    have h2:=(hch.drop k1).kind (fin:=(a.size:Int))
    rw [hd1] at h2
    have:=congrArg List.length (h2.1 h)
    rw [LL,NK] at this
    omega
   have hr' :r=([],u.at_,4):=by rw [hr];simp [cP,hff,hr1,j2,hd1,hu0]
   subst hr'
   exact lX eIO rfl rfl rfl rfl (H' := [.own none 174 11 0 0 []]) mS ⟨none,0,rfl,rfl⟩
  all_goals
   have hk1:toks.length≤k1:=by
    have:(toks.length:Int)≤(k1:Int):=by assumption
    omega
   have hu0:u.kind=0:=by rw [← hd1,qq hk1];rfl
  ·
   have hr' :r=([],0,de):=by
    have hb' :de≠0:=by assumption
    rw [hr];rw [hde] at hb' ⊢;simp [cP,hff,hr1,j2,hd1,hu0,hb']
   subst hr'
   exact lX eIO rfl rfl rfl rfl (H' := [.own none 174 11 0 0 []]) mS ⟨none,0,rfl,rfl⟩
  ·
   have hr' :r=(p'.out,0,0):=by
    have hb' :jB p'.out=0:=hde ▸ Classical.not_not.1 (by assumption)
    rw [hr];simp [cP,hff,hr1,j2,hd1,hu0,hb']
   subst hr'
   exact lX eIO rfl rfl rfl rfl (H' := [.own B1 174 11 p'.out.length cb1 (p'.out.flatMap bY)]) mS ⟨B1,cb1,rfl,rfl⟩
theorem Ar {p:Int→Bool} {l:List Int} (h:aB p l=l.length): ∀ c∈l,p c=true:=by
 intro c hc
 have:c∈l.take (aB p l):=by rw [h,MI];exact hc
 exact jL this
theorem I4 (l0:List Int): -9223372036854775808≤(fC l0).1:=by
 unfold fC
 extract_lets neg l n rest frac p5
 split
 ·
  show (-9223372036854775808:Int)≤0
  omega
 ·
  rename_i v _hc
  have h0:0≤bn (l.take n++p5.take 4) 0:=by
   refine oX _ (fun c hc=> ?_) (M7 _)
   rcases Mo.1 hc with hc|hc
   ·
    have:=jL (p:=aC) hc
    rw [dN] at this
    exact this.1
   ·
    have hc:=MH hc
    rcases Mo.1 hc with hc|hc
    ·
     by_cases hf:frac=true
     ·
      rw [if_pos hf] at hc
      simp only [frac,LM,decide_eq_true_eq] at hf
      have hl:rest.tail.length=rest.length - 1:=NU
      have:=Ar (p:=aC) (l:=rest.tail) (by omega) c hc
      rw [dN] at this
      exact this.1
     ·
      rw [if_neg hf] at hc
      cases hc
    ·
     simp only [L7,Nn,or_false,or_self] at hc
     omega
  have hv0:0≤v:=by
   show 0≤bn (l.take n++p5.take 4) 0+(if 53≤p5.getD 4 0 then 1 else 0)
   split<;>omega
  split
  ·
   show (-9223372036854775808:Int)≤0
   omega
  ·
   rename_i hv
   simp only [cf] at hv
   split
   ·
    show (-9223372036854775808:Int)≤ -v
    omega
   ·
    show (-9223372036854775808:Int)≤v
    omega
set_option maxHeartbeats 2000000 in
theorem xU (b:ByteArray) (hb:b.size≤1000000) (w:World):ay Tryz.prog 209 [.string b] w (.agg (cY (sv b)).toArray):=by
  refine aq Tryz.func209 rfl Tryz.ntmps209 rfl ?_
  by_cases h0:b=av
  · subst h0
    repeat' (first|refine sT ?_|refine sS ?_|refine sT2 ?_|refine sM fun _=> ?_|(refine sC ?_ ?_<;>intro hb<;>try omega)|fail)
    all_goals first
      |((refine eRC ?_);rfl)
      |(exfalso;rename_i hb;exact hb rfl)
  have hpos:0<b.size:=by
    rcases Mx b.size with h|h
    · exact absurd (ByteArray.ext (Array.eq_empty_of_size_eq_zero h)) h0
    · exact h
  have hU:=fun w=>jb b hb w
  have hC:=fun w=>AL b hb w
  have hD:=fun w=>DI b hb w
  have hge:=I4 (ap b)
  have hM:=fun w=>AG _ hge w
  have hF:=fun c w=>mL c w
  have hTr:=fun c w=>xM c w
  have hhd:(ap b).headD 0=bat b 0:=by have:=lp (a:=b) (i:=0);rwa [MP] at this
  have hsub:sub b 1 b.size=mkB (ap b).tail:=by
    refine F4 ?_
    rw [dD,List.drop_one,Mm]
    rw [NU,au];exact LK _
  unfold sv
  rw [if_neg h0,hhd]
  obtain ⟨u,hu⟩: ∃ u,upB b=u:=⟨_,rfl⟩
  obtain ⟨⟨cn,ce⟩,hce⟩: ∃ u,f4 b=u:=⟨_,rfl⟩
  obtain ⟨⟨dn,de⟩,hde⟩: ∃ u,fC (ap b)=u:=⟨_,rfl⟩
  rw [hu] at hU ⊢
  rw [hce] at hC ⊢
  rw [hde] at hD hM hge ⊢
  dsimp only at hC hD hM hge ⊢
  by_cases h1:bat b 0=39
  · rw [if_pos h1]
    repeat' (first|(apply ak (d:=7);exact rfl;apply dz;exact rfl;exact rfl;exact h0)|(apply ak (d:=10);exact rfl;apply aU (j:=0);exact rfl;exact rfl;exact hpos)|(apply ak (d:=13);exact rfl;apply qG (lo:=1);exact rfl;exact rfl;omega)|refine sT ?_|refine sS ?_|refine sT2 ?_|refine sM fun _=> ?_|(refine sC ?_ ?_<;>intro hb<;>try omega)|fail)
    all_goals first
      |(exfalso;omega)
      |((refine eRC ?_);rw [hsub];rfl)
  rw [if_neg h1]
  by_cases h2:u=kS
  · rw [if_pos (.inl h2),decide_eq_true h2]
    repeat' (first|(apply ak (d:=7);exact rfl;apply dz;exact rfl;exact rfl;exact h0)|(apply ak (d:=10);exact rfl;apply aU (j:=0);exact rfl;exact rfl;exact hpos)|(apply aa;exact rfl;exact rfl;(intro w hm;exact hU w))|(apply ak (d:=17);exact rfl;apply kP;exact rfl;exact rfl;exact h2)|(apply ak (d:=25);exact rfl;apply kP;exact rfl;exact rfl;exact h2)|(apply aa (f:=250);exact rfl;exact rfl;(intro w' _;exact hTr true w'))|refine sT ?_|refine sS ?_|refine sT2 ?_|refine sM fun _=> ?_|(refine sC ?_ ?_<;>intro hb<;>try omega)|fail)
    all_goals first
      |(exfalso;omega)
      |((refine eRC ?_);rfl)
  by_cases h3:u=jy
  · rw [if_pos (.inr h3),decide_eq_false h2]
    repeat' (first|(apply ak (d:=7);exact rfl;apply dz;exact rfl;exact rfl;exact h0)|(apply ak (d:=10);exact rfl;apply aU (j:=0);exact rfl;exact rfl;exact hpos)|(apply aa;exact rfl;exact rfl;(intro w hm;exact hU w))|(apply ak (d:=17);exact rfl;apply dz;exact rfl;exact rfl;exact h2)|(apply ak (d:=21);exact rfl;apply kP;exact rfl;exact rfl;exact h3)|(apply ak (d:=25);exact rfl;apply dz;exact rfl;exact rfl;exact h2)|(apply aa (f:=250);exact rfl;exact rfl;(intro w' _;exact hTr false w'))|refine sT ?_|refine sS ?_|refine sT2 ?_|refine sM fun _=> ?_|(refine sC ?_ ?_<;>intro hb<;>try omega)|fail)
    all_goals first
      |(exfalso;omega)
      |((refine eRC ?_);rfl)
  rw [if_neg (by simp [h2,h3])]
  repeat' (first|(apply ak (d:=7);exact rfl;apply dz;exact rfl;exact rfl;exact h0)|(apply ak (d:=10);exact rfl;apply aU (j:=0);exact rfl;exact rfl;exact hpos)|(apply aa;exact rfl;exact rfl;(intro w hm;exact hU w))|(apply ak (d:=17);exact rfl;apply dz;exact rfl;exact rfl;exact h2)|(apply ak (d:=21);exact rfl;apply dz;exact rfl;exact rfl;exact h3)|(apply aa;exact rfl;exact rfl;(intro w hm;exact hC w))|(apply aa;exact rfl;exact rfl;(intro w hm;exact hD w))|(apply aa;exact rfl;exact rfl;(intro w hm;exact hM w))|(apply aa (f:=252);exact rfl;exact rfl;(intro w' _;exact hF _ w'))|refine sT ?_|refine sS ?_|refine sT2 ?_|refine sM fun _=> ?_|(refine sC ?_ ?_<;>intro hb<;>try omega)|fail)
  all_goals first
    |(exfalso;omega)
    | ((refine eRC ?_)
       (repeat (first|rw [if_pos (by first|assumption|omega)]|rw [if_neg (by first|assumption|omega)]))
       rfl)
end Go.SL

/-
  Lemmas and walks, put together: Q4 Q3 Q5.
-/
import Derived.Test.YtoanpdoacdpgeaaGreatDoorKn28
set_option linter.unusedSimpArgs false
set_option linter.unusedVariables false
set_option maxRecDepth 20000
namespace Go.SL
open Go Go.Proofs
attribute [local irreducible] W WL WQ WG WA WX WLI WR WT WC VOp RW thn blk bE scp ba bo bL aP FnIn FnP ceP
set_option maxHeartbeats 2000000 in
theorem oQ (f:Nat) (fn:Int) (n:Nat) (h0:1≤fn) (h5:fn≤50) (ih:mP f (.level 1) 195 [.int .i64 1]):KT (xS f fn n) 365 [.int .u8 fn,.int .i64 n]:=by
  intro x k p B cb r R w0 hk hp hout hrun
  refine dZ Tryz.func365 rfl Tryz.ntmps365 rfl ?_
  have hxt:=x.ht
  unfold xS at hrun
  obtain ⟨t,ht⟩: ∃ t,hdT x.fin p.l=t:=⟨_,rfl⟩
  rw [ht] at hrun
  have hd:hdT x.fin (x.toks.drop k)=t:=hp ▸ ht
  have hN:=fun w hm=>Cx.next hd (B:=B) (cb:=cb) (out:=p.out) (at_:=0) (e:=0) (w0:=w0) (H:=x.B k B cb p.out 0 0++R) ⟨R,.refl _⟩ w hm
  by_cases hk2:t.kind≠6
  · rw [if_pos hk2] at hrun
    obtain ⟨r1,hr1,hr2⟩:=bF hrun
    have hrr: ∀ v H,RR x k p.out.length R r1 v H→RR x k p.out.length R r v H:=by
      rintro v H ⟨hv,h⟩
      rcases hr2 with ⟨e,rfl,rfl⟩|⟨n1,p1,rfl,hr2⟩
      · exact ⟨hv,h⟩
      · cases hr2;exact ⟨hv,h⟩
    repeat' (first|(apply aa (f:=197);exact rfl;exact rfl;exact hN)|(apply aw (f:=195);exact rfl;exact rfl;exact FnIn.msub (ih x k p B cb r1 _ w0 hk hp hout hr1) (MSub.pick pK (MSub.pick pK (MSub.pick pK (MSub.refl _))));rintro v1 H1 hR)|refine sT ?_|refine sS ?_|refine sN ?_|refine sM fun _=> ?_|(refine sC ?_ ?_<;>intro hb<;>try omega)|fail)
    all_goals try (exfalso;omega)
    obtain ⟨rfl,hR⟩:=hR
    rcases hr2 with ⟨e,rfl,rfl⟩|⟨n1,p1,rfl,hr2⟩
    · obtain ⟨k1,B1,cb1,o1,j1,j2,j3,j4,rfl⟩:=hR
      refine eL (k' :=k1) (out' :=o1) (B' :=B1) (cb' :=cb1) eIO rfl j1 j2 j3 j4 ?_
      simp only [Cx.B,rB,Nr,Nf,Ng]
      exact mS
    · cases hr2
      obtain ⟨k1,B1,cb1,j1,j2,j3,j4,rfl⟩:=hR
      refine jo (k' :=k1) (p' :=p1) (B' :=B1) (cb' :=cb1) eIO rfl j1 j2 j3 j4 ?_
      simp only [Cx.B,rB,Nr,Nf,Ng]
      exact mS
  rw [if_neg hk2] at hrun
  have hlt:=Cx.lt hd (by omega)
  have hW:=fun w=>sF fn (n:Int) w
  have hwk:=rM (fn:=fn) (by simp [cW,h0,h5]) (n:Int)
  have hwe:((jh fn n).1=false∨(jh fn n).2≠0)↔eM fn n=false:=by
    rw [hwk]
    dsimp only
    constructor
    · rintro (h|h)
      · exact h
      · have h2:(n:Int)<0∨(bJ fn).2≤(n:Int):=Classical.byContradiction fun hn=>h (if_neg hn)
        unfold eM
        rw [if_pos h2]
    · exact .inl
  clear hwk
  by_cases hwk:(jh fn n).1=false∨(jh fn n).2≠0
  · rw [if_pos hwk] at hrun
    cases hrun
    rw [hwe.1 hwk] at hW
    repeat' (first|(apply aa (f:=197);exact rfl;exact rfl;exact hN)|(apply aa (f:=352);exact rfl;exact rfl;(intro w' _;exact hW w'))|(apply aw (f:=196);exact rfl;exact rfl;exact FnIn.msub (fa x.g x.sa x.A _ x.cap k B _ cb 0 0 _ _ _ _) (MSub.pick pK (.refl _));rintro _ _ ⟨rfl,rfl⟩)|refine sT ?_|refine sS ?_|refine sN ?_|refine sM fun _=> ?_|(refine sC ?_ ?_<;>intro hb<;>try omega)|fail)
    all_goals first
      |(exfalso;omega)
      | (refine eL (x' := (t.at_, 4)) (k' := k) (out' := p.out) (B' := B) (cb' := cb) eIO rfl (by simp) (by omega) (Ni _) (Ni _) ?_
         simp only [Cx.B,rB,Nr,Nf,Ng]
         exact mS)
  · rw [if_neg hwk] at hrun
    cases hrun
    have hwt:eM fn n=true:=by
      cases h:eM fn n with
      |true=>rfl
      |false=>exact absurd (hwe.2 h) hwk
    rw [hwt] at hW
    repeat' (first|(apply aa (f:=197);exact rfl;exact rfl;exact hN)|(apply aa (f:=352);exact rfl;exact rfl;(intro w' _;exact hW w'))|refine sT ?_|refine sS ?_|refine sN ?_|refine sM fun _=> ?_|(refine sC ?_ ?_<;>intro hb<;>try omega)|fail)
    all_goals try (exfalso;omega)
    refine iP 13 rfl (by kernel_rfl) ?_
    ((with_reducible apply aR (i:=0));exact rfl;exact rfl;decide+kernel;decide+kernel;decide+kernel;exact nP;(intro _ _;exact vP))
    ((with_reducible apply aR (i:=1));exact rfl;exact rfl;decide+kernel;decide+kernel;decide+kernel;exact nP;(intro _ _;exact vP))
    ((with_reducible apply aR (i:=2));exact rfl;exact rfl;decide+kernel;decide+kernel;decide+kernel;exact nP;(intro _ _;exact vP))
    ((with_reducible apply aR (i:=3));exact rfl;exact rfl;decide+kernel;decide+kernel;decide+kernel;exact nP;(intro _ _;exact vP))
    ((with_reducible apply aR (i:=5));exact rfl;exact rfl;decide+kernel;decide+kernel;decide+kernel;exact nP;(intro _ _;exact vP))
    repeat' (first|(apply cM (i:=4) (j:=6);exact rfl;exact rfl;decide+kernel)|(apply cM (i:=4) (j:=7);exact rfl;exact rfl;decide+kernel)|(apply cM (i:=4) (j:=8);exact rfl;exact rfl;decide+kernel)|(apply aJ (i:=4);exact rfl;decide+kernel)|(apply aJ (i:=5);exact rfl;decide+kernel)|(apply aJ (i:=6);exact rfl;decide+kernel)|(apply aJ (i:=7);exact rfl;decide+kernel)|(apply aJ (i:=8);exact rfl;decide+kernel)|(apply aJ (i:=9);exact rfl;decide+kernel)|(apply aJ (i:=10);exact rfl;decide+kernel)|(apply aJ (i:=11);exact rfl;decide+kernel)|(apply aJ (i:=12);exact rfl;decide+kernel)|(apply iO;decide+kernel)|(apply aG;(iterate 3 exact rfl);exact pK;exact pK;exact rfl;(simp [cv,Value.oneCell']);omega;(simp only [maxLen];omega);intro g8 c8)|refine sT ?_|refine sS ?_|refine sN ?_|refine sM fun _=> ?_|(refine sC ?_ ?_<;>intro hb<;>try omega)|fail)
    all_goals first
      |(exfalso;omega)
      | (refine jo (k' := k + 1) (p' := p.skip.put ⟨3, bK, t.rect, 0, 0, 0⟩) (B' := some g8) (cb' := c8) eIO rfl hlt (Cx.skip hp) (PT k) (by simp only [PS.put, PS.skip, Na, Nh]; omega) ?_
         simp only [PS.put,PS.skip,Cx.B,rB,Na,Nh,Nt,Np,NE,Nl,Nr,Nf,Ng]
         exact mS)
set_option maxHeartbeats 2000000 in
theorem zo (f:Nat) (ihP:mP f .prim 324 []):mP (f+1) .pct 287 []:=by
  intro x k p B cb r R w0 hk hp hout hrun
  refine dZ Tryz.func287 rfl Tryz.ntmps287 rfl ?_
  have hxt:=x.ht
  dsimp only at hrun
  rw [bG] at hrun
  obtain ⟨r1,hr1,⟨e,rfl,rfl⟩|⟨n1,p1,rfl,hr2⟩⟩:=bF hrun
  · repeat' (first|(apply aw (f:=324);exact rfl;exact rfl;exact FnIn.msub (ihP x k p B cb _ _ w0 hk hp hout hr1) (MSub.pick pK (MSub.pick pK (MSub.pick pK (MSub.refl _))));rintro _ _ ⟨rfl,k1,B1,cb1,o1,h1,h2,h3,h4,rfl⟩)|refine sT ?_|refine sS ?_|refine sN ?_|refine sM fun _=> ?_|(refine sC ?_ ?_<;>intro hb<;>try omega)|fail)
    refine ax [0] rfl (fun _:Unit=> []) (fun _=>x.B k1 B1 cb1 o1 e.1 e.2++R) (fun _=>True) (fun _=>0) () trivial sB (MSub.refl _) ?_
    rintro ⟨⟩ _
    repeat' (first|refine sT ?_|refine sS ?_|refine sN ?_|refine sM fun _=> ?_|(refine sC ?_ ?_<;>intro hb<;>try omega)|fail)
    all_goals first
      |(exfalso;omega)
      |exact absurd (by assumption) h1
      |exact eL eIO rfl h1 h2 h3 h4 (MSub.refl _)
  · repeat' (first|(apply aw (f:=324);exact rfl;exact rfl;exact FnIn.msub (ihP x k p B cb _ _ w0 hk hp hout hr1) (MSub.pick pK (MSub.pick pK (MSub.pick pK (MSub.refl _))));rintro _ _ ⟨rfl,k1,B1,cb1,h1,h2,h3,h4,rfl⟩)|refine sT ?_|refine sS ?_|refine sN ?_|refine sM fun _=> ?_|(refine sC ?_ ?_<;>intro hb<;>try omega)|fail)
    refine ax [0] rfl (fun _:Nat × PS × Nat × Option Nat × Nat=> []) (fun y=>x.B y.2.2.1 y.2.2.2.1 y.2.2.2.2 y.2.1.out 0 0++R) (fun y=>y.2.2.1≤x.toks.length∧y.2.1.l=x.toks.drop y.2.2.1∧k≤y.2.2.1∧y.2.1.out.length+k≤p.out.length+y.2.2.1∧bG x.fin y.1 .pctl y.2.1=some r) (fun y=>y.1) (f,p1,k1,B1,cb1) ⟨h1,h2,h3,h4,hr2⟩ sB (MSub.refl _) ?_
    clear hr1 hr2 h1 h2 h3 h4
    rintro ⟨f',q,k2,B2,cb2⟩ ⟨h1,h2,h3,h4,hr2⟩
    dsimp only at h1 h2 h3 h4 hr2 ⊢
    cases f' with
    |zero=>cases hr2
    |succ f' =>
      rw [bG] at hr2
      try dsimp only at hr2
      obtain ⟨u,hu⟩: ∃ u,hdT x.fin q.l=u:=⟨_,rfl⟩
      rw [hu] at hr2
      have hd1:hdT x.fin (x.toks.drop k2)=u:=h2 ▸ hu
      by_cases hk3:u.kind=8∧u.num=13
      · rw [if_pos hk3] at hr2
        have hlt1:=Cx.lt hd1 (by omega)
        repeat' (first|(apply aa (f:=241);exact rfl;exact rfl;exact fun w hm=>Cx.op hd1 7 (B:=B2) (cb:=cb2) (out:=q.out) (at_:=0) (e:=0) (MSub.pick pK (MSub.pick pK (MSub.pick pK (MSub.nil _)))) w hm)|(apply aG;(iterate 3 exact rfl);exact pK;exact pK;exact rfl;(simp [cv,Value.oneCell']);omega;(simp only [maxLen];omega);intro g8 c8)|refine sT ?_|refine sS ?_|refine sN ?_|refine sM fun _=> ?_|(refine sC ?_ ?_<;>intro hb<;>try omega)|fail)
        all_goals first
          |(exfalso;omega)
          |(exfalso;simp_all [IY];done)
          | (refine ⟨(f', q.skip.put (dF 5 0), k2 + 1, some g8, c8), ⟨hlt1, Cx.skip h2, by dsimp only; omega, by simp only [PS.put, PS.skip, List.length_append, List.length_singleton]; omega, hr2⟩, Nat.lt_succ_self _, sB, sB, ?_⟩
             simp only [PS.put,PS.skip,Cx.B,rB,Na,Nh,Nt,Np,NE,Nl,Nf,Ng]
             exact mS)
      · rw [if_neg hk3] at hr2
        cases hr2
        repeat' (first|(apply aa (f:=241);exact rfl;exact rfl;exact fun w hm=>Cx.op hd1 7 (B:=B2) (cb:=cb2) (out:=q.out) (at_:=0) (e:=0) (MSub.pick pK (MSub.pick pK (MSub.pick pK (MSub.nil _)))) w hm)|refine sT ?_|refine sS ?_|refine sN ?_|refine sM fun _=> ?_|(refine sC ?_ ?_<;>intro hb<;>try omega)|fail)
        all_goals first
          |(exfalso;omega)
          |(exfalso;simp_all [IY];done)
          |exact jo eIO rfl h1 h2 h3 h4 (MSub.refl _)
structure Lv where
 f:Nat
 k:Nat
 B:Option Nat
 cb:Nat
 out:List Nd
 a:Int
 e:Int
def Lv.H (y:Lv) (x:Cx) (R:List Blk):List Blk:=x.B y.k y.B y.cb y.out y.a y.e++R
def Lv.ok (y:Lv) (x:Cx) (j:Nat→PS→Option Out) (k m:Nat) (r:Out) (f:Nat):Prop:=y.f≤f∧k≤y.k∧y.out.length+k≤m+y.k∧
 ((y.a=0∧y.e=0∧y.k≤x.toks.length∧j y.f ⟨x.toks.drop y.k,y.out⟩=some r)∨(y.e≠0∧y.k≤x.toks.length+1∧r= .error (y.a,y.e)))
def Lv.m (y:Lv):Nat:=if y.e=0 then y.f+1 else 0
theorem zG {x:Cx} {R H:List Blk} {v:Value} {f k m k0 m0:Nat} {r r1:Out} {j:Nat→PS→Option Out} (hr2:(∃ e,r1= .error e∧r= .error e)∨(∃ n p',r1= .ok (n,p')∧j f p' =some r)) (hR:RR x k0 m0 R r1 v H) (hk:k≤k0) (hm:m0+k≤m+k0): ∃ f2 k2 B2 cb2 o2 a2 e2,(Lv.mk f2 k2 B2 cb2 o2 a2 e2).ok x j k m r f∧H=x.B k2 B2 cb2 o2 a2 e2++R:=by
 obtain ⟨_,hR⟩:=hR
 rcases hr2 with ⟨e,rfl,rfl⟩|⟨n1,p1,rfl,hr2⟩
 ·
  obtain ⟨k1,B1,cb1,o1,h1,h2,h3,h4,rfl⟩:=hR
  exact ⟨f,k1,B1,cb1,o1,e.1,e.2,⟨Nat.le_refl _,by dsimp only;omega,by dsimp only;omega,.inr ⟨h1,h2,rfl⟩⟩,rfl⟩
 ·
  obtain ⟨k1,B1,cb1,h1,h2,h3,h4,rfl⟩:=hR
  refine ⟨f,k1,B1,cb1,p1.out,0,0,⟨Nat.le_refl _,by dsimp only;omega,by dsimp only;omega,.inl ⟨rfl,rfl,h1,?_⟩⟩,rfl⟩
  dsimp only
  rw [← h2];exact hr2
set_option maxHeartbeats 4000000 in
theorem ES (f:Nat) (q:Int) (h1q:1≤q) (h5q:q≤5) (ihL:q≤4→ ∀ f' ≤f,mP f' (.level (q+1)) 195 [.int .i64 (q+1)]) (ihS:mP f .sign 240 []):mP (f+1) (.level q) 195 [.int .i64 q]:=by
 intro x k p B cb r R w0 hk hp hout hrun
 refine dZ Tryz.func195 rfl Tryz.ntmps195 rfl ?_
 have hxt:=x.ht
 dsimp only at hrun
 rw [bG] at hrun
 by_cases hq5:q=5
 ·
  rw [if_pos hq5] at hrun
  subst hq5
  repeat' (first|(apply aw (f:=240);exact rfl;exact rfl;exact FnIn.msub (ihS x k p B cb _ _ w0 hk hp hout hrun) (MSub.pick pK (MSub.pick pK (MSub.pick pK (MSub.refl _))));rintro _ _ ⟨rfl,hR⟩)|refine sT ?_|refine sS ?_|refine sN ?_|refine sM fun _=> ?_|(refine sC ?_ ?_<;>intro hb<;>try omega)|fail)
  all_goals exact iB eIO rfl (MSub.refl _) ⟨rfl,hR⟩
 rw [if_neg hq5] at hrun
 have ihL:=ihL (by omega)
 obtain ⟨r1,hr1,hr2⟩:=bF hrun
 repeat' (first|(apply ak (d:=11);exact rfl;apply da;exact rfl;exact rfl;exact ⟨by omega,by omega⟩)|(apply aw (f:=195);exact rfl;exact rfl;exact FnIn.msub (ihL f (Ni _) x k p B cb r1 _ w0 hk hp hout hr1) (MSub.pick pK (MSub.pick pK (MSub.pick pK (MSub.refl _))));rintro v1 H1 hR)|refine sT ?_|refine sS ?_|refine sN ?_|refine sM fun _=> ?_|(refine sC ?_ ?_<;>intro hb<;>try omega)|fail)
 all_goals try (exfalso;omega)
 obtain ⟨f0,k0,B0,cb0,o0,a0,e0,hy0,rfl⟩:=zG (j:=fun f p=>bG x.fin f (.loop q) p) hr2 hR (Ni k) (Ni _)
 clear hr1 hr2 hR hrun
 refine ax [0,1] rfl (fun _:Lv=> []) (fun y=>y.H x R) (fun y=>y.ok x (fun f p=>bG x.fin f (.loop q) p) k p.out.length r f) Lv.m ⟨f0,k0,B0,cb0,o0,a0,e0⟩ hy0 sB (MSub.refl _) ?_
 rintro ⟨f',k1,B1,cb1,o1,a,e⟩ ⟨hf',h3,h4,hor⟩
 dsimp only at hf' h3 h4 hor
 simp only [Lv.H]
 rcases hor with ⟨rfl,rfl,h1,hr2⟩|⟨h1,h2,rfl⟩
 ·
  cases f' with
  |zero=>cases hr2
  |succ f' =>
   rw [bG] at hr2
   try dsimp only at hr2
   obtain ⟨u,hd1⟩: ∃ u,hdT x.fin (x.toks.drop k1)=u:=⟨_,rfl⟩
   rw [hd1] at hr2
   by_cases hk3:u.kind=8∧fV u.num=q
   ·
    rw [if_pos hk3] at hr2
    have hlt1:=Cx.lt hd1 (by omega)
    obtain ⟨r2,hr3,hr4⟩:=bF hr2
    repeat' (first|(apply aa (f:=241);exact rfl;exact rfl;exact fun w hm=>Cx.op hd1 q (B:=B1) (cb:=cb1) (out:=o1) (at_:=0) (e:=0) (MSub.pick pK (MSub.pick pK (MSub.pick pK (MSub.nil _)))) w hm)|(apply aa (f:=197);exact rfl;exact rfl;exact fun w hm=>Cx.next hd1 (B:=B1) (cb:=cb1) (out:=o1) (at_:=0) (e:=0) (MSub.pick pK (MSub.pick pK (MSub.pick pK (MSub.nil _)))) w hm)|(apply ak;exact rfl;apply cP;exact rfl;exact rfl)|(apply ak (d:=35);exact rfl;apply da;exact rfl;exact rfl;exact ⟨by omega,by omega⟩)|(apply aw (f:=195);exact rfl;exact rfl;exact FnIn.msub (ihL f' (by omega) x (k1+1) ⟨x.toks.drop (k1+1),o1⟩ B1 cb1 r2 _ w0 hlt1 rfl (by dsimp only;omega) (by rw [← List.tail_drop];exact hr3)) (MSub.pick pK (MSub.pick pK (MSub.pick pK (MSub.refl _))));rintro v1 H1 hR;obtain ⟨f2,k2,B2,cb2,o2,a2,e2,⟨hy1,hy2,hy3,hy4⟩,rfl⟩:=zG (k:=k+1) (m:=p.out.length) (j:=fun f p=>bG x.fin f (.loop q) (p.put (dF 6 u.num))) hr4 hR (by omega) (by dsimp only;omega);dsimp only at hy1 hy2 hy3 hy4;have hkb:k2≤257:=by { rcases hy4 with ⟨_,_,h,_⟩|⟨_,h,_⟩<;>omega })|(apply aG;(iterate 3 exact rfl);exact pK;exact pK;exact rfl;(simp [cv,Value.oneCell']);omega;(simp only [maxLen];omega);intro g8 c8)|refine sT ?_|refine sS ?_|refine sN ?_|refine sM fun _=> ?_|(refine sC ?_ ?_<;>intro hb<;>try omega)|fail)
    all_goals first
     |(exfalso;omega)
     |(exfalso;simp_all;done)
     |skip
    refine ⟨⟨f2,k2,some g8,c8,o2++ [dF 6 u.num],a2,e2⟩,⟨by dsimp only;omega,by dsimp only;omega,by simp only [List.length_append,List.length_singleton];omega,hy4⟩,(by simp only [Lv.m,if_true];split<;>omega),sB,sB,?_⟩
    simp only [Lv.H,Cx.B,rB,Na,Nh,Nt,Np,NE,Nl,Nf,Ng]
    exact mS
   ·
    rw [if_neg hk3] at hr2
    cases hr2
    repeat' (first|(apply aa (f:=241);exact rfl;exact rfl;exact fun w hm=>Cx.op hd1 q (B:=B1) (cb:=cb1) (out:=o1) (at_:=0) (e:=0) (MSub.pick pK (MSub.pick pK (MSub.pick pK (MSub.nil _)))) w hm)|refine sT ?_|refine sS ?_|refine sN ?_|refine sM fun _=> ?_|(refine sC ?_ ?_<;>intro hb<;>try omega)|fail)
    all_goals first
     |(exfalso;omega)
     |(exfalso;simp_all;done)
     |exact jo (p' :=⟨x.toks.drop k1,o1⟩) eIO rfl h1 rfl h3 h4 (MSub.refl _)
 ·
  repeat' (first|refine sT ?_|refine sS ?_|refine sN ?_|refine sM fun _=> ?_|(refine sC ?_ ?_<;>intro hb<;>try omega)|fail)
  all_goals first
   |(exfalso;omega)
   |exact absurd (by assumption) h1
   |exact eL (x' :=(a,e)) eIO rfl h1 h2 h3 h4 (MSub.refl _)
def Lv.end (y:Lv) (x:Cx) (t:Tk) (fn:Int) (n k m:Nat) (r:Out):Prop:=n≤1000∧k≤y.k∧y.out.length+k≤m+y.k∧
 ((y.a=0∧y.e=0∧y.k≤x.toks.length∧n≤y.out.length∧dm x.fin t fn n ⟨x.toks.drop y.k,y.out⟩=some r)∨(y.e≠0∧y.k≤x.toks.length+1∧r= .error (y.a,y.e)))
def Lv.arg (y:Lv) (x:Cx) (fn:Int) (n k m:Nat) (r:Out) (f:Nat):Prop:=y.f≤f∧n≤1000∧k≤y.k∧y.out.length+k≤m+y.k∧
 ((y.a=0∧y.e=0∧y.k≤x.toks.length∧n≤y.out.length∧(if (hdT x.fin (x.toks.drop y.k)).kind=11 then bG x.fin y.f (.args fn n) ⟨x.toks.drop (y.k+1),y.out⟩ else some (.ok (n,⟨x.toks.drop y.k,y.out⟩)))=some r)∨(y.e≠0∧y.k≤x.toks.length+1∧r= .error (y.a,y.e)))
theorem wD {x:Cx} {R H:List Blk} {v:Value} {f f' k m k0 m0 n:Nat} {fn:Int} {p:PS} {r r1:Out} (hf:f≤f') (hr1:xS f fn n x.fin p=some r1) (hm0:p.out.length=m0) (hn:n≤m0) (hm6:m0≤500)
  (hr2:(∃ e,r1= .error e∧r= .error e)∨(∃ n' p',r1= .ok (n',p')∧(if (hdT x.fin p'.l).kind=11 then bG x.fin f (.args fn (n+1)) p'.skip else some (.ok (n+1,p')))=some r)) (hR:RR x k0 m0 R r1 v H) (hk:k≤k0) (hm:m0+k≤m+k0):
  ∃ f2 k2 B2 cb2 o2 a2 e2,(Lv.mk f2 k2 B2 cb2 o2 a2 e2).arg x fn (n+1) k m r f' ∧f2≤f∧H=x.B k2 B2 cb2 o2 a2 e2++R:=by
 obtain ⟨_,hR⟩:=hR
 rcases hr2 with ⟨e,rfl,rfl⟩|⟨n1,p1,rfl,hr2⟩
 ·
  obtain ⟨k1,B1,cb1,o1,h1,h2,h3,h4,rfl⟩:=hR
  exact ⟨f,k1,B1,cb1,o1,e.1,e.2,⟨hf,by omega,by dsimp only;omega,by dsimp only;omega,.inr ⟨h1,h2,rfl⟩⟩,Nat.le_refl _,rfl⟩
 ·
  obtain ⟨k1,B1,cb1,h1,h2,h3,h4,rfl⟩:=hR
  have hg:=qe hr1
  refine ⟨f,k1,B1,cb1,p1.out,0,0,⟨hf,by omega,by dsimp only;omega,by dsimp only;omega,.inl ⟨rfl,rfl,h1,by dsimp only;omega,?_⟩⟩,Nat.le_refl _,rfl⟩
  dsimp only
  rw [h2] at hr2
  have e1:p1.skip=⟨x.toks.drop (k1+1),p1.out⟩:=by simp only [PS.skip,h2,Pu]
  have e2:p1=⟨x.toks.drop k1,p1.out⟩:=by obtain ⟨l,o⟩:=p1;simp only at h2;rw [h2]
  rw [e1] at hr2
  rw [← e2]
  exact hr2
set_option maxHeartbeats 4000000 in
theorem G8 (f:Nat) (t:Tk) (ih: ∀ f' ≤f,mP f' (.level 1) 195 [.int .i64 1]) (x:Cx) (k:Nat) (p:PS) (B:Option Nat) (cb:Nat) (r:Out) (R:List Blk) (w0:World) (hk:k<x.toks.length) (hp:p.l=x.toks.drop k) (hout:p.out.length≤k) (ht:hdT x.fin p.l=t) (ht7:t.kind=7) (hrun:uq f t x.fin p=some r):
    FnIn Tryz.prog 348 [.pointer (some ⟨x.g,0,none⟩),.agg (bh t).toArray] w0 (x.B (k+1) B cb p.out 0 0++R) (RR x (k+1) p.out.length R r):=by
  refine dZ Tryz.func348 rfl Tryz.ntmps348 rfl ?_
  have hxt:=x.ht
  have hF:=fun w=>sL t.text w
  have h9:(hdT x.fin p.skip.l).kind=9:=by
    have hc:=x.hc.drop k
    rw [← hp] at hc
    exact hc.name (by rw [ht];exact ht7)
  have hd9: ∃ u,hdT x.fin (x.toks.drop (k+1))=u∧u.kind=9:=⟨_,rfl,by rw [← Cx.skip hp];exact h9⟩
  obtain ⟨u9,hd9,hu9⟩:=hd9
  have hlt9:=Cx.lt hd9 (by omega)
  unfold uq at hrun
  have hfn:(bf t.text).2=0→1≤(bf t.text).1∧(bf t.text).1≤50:=by
    intro h
    have hb1:=iw cV t.text 0 (by omega)
    rw [il] at hb1
    unfold bf at h ⊢
    split at h
    · cases h
    · rename_i hne
      rw [if_neg hne]
      dsimp only
      omega
  obtain ⟨fn,fe,hfe⟩: ∃ fn fe,bf t.text=(fn,fe):=⟨_,_,rfl⟩
  rw [hfe] at hrun hF hfn
  dsimp only at hF hfn
  by_cases h0:fe≠0
  · rw [if_pos h0] at hrun
    cases hrun
    repeat' (first|(apply aa (f:=364);exact rfl;exact rfl;(intro w' _;exact hF w'))|(apply aw (f:=196);exact rfl;exact rfl;exact FnIn.msub (fa x.g x.sa x.A _ x.cap (k+1) B _ cb 0 0 _ _ _ _) (MSub.pick pK (.refl _));rintro _ _ ⟨rfl,rfl⟩)|refine sT ?_|refine sS ?_|refine sN ?_|refine sM fun _=> ?_|(refine sC ?_ ?_<;>intro hb<;>try omega)|exact cT|fail)
    all_goals first
      |(exfalso;omega)
      | (refine eL (x' := (t.at_, 10)) (k' := k + 1) (out' := p.out) (B' := B) (cb' := cb) eIO rfl (by simp) (by omega) (Ni _) (Ni _) ?_
         simp only [Cx.B,rB,Nr,Nf,Ng]
         exact mS)
  rw [if_neg h0] at hrun
  have hfe0:fe=0:=Classical.not_not.1 h0
  subst hfe0
  obtain ⟨hf1,hf2⟩:=hfn rfl
  rw [if_neg (by rw [h9];simp)] at hrun
  have hp2:p.skip.skip.l=x.toks.drop (k+1+1):=Cx.skip (Cx.skip hp)
  obtain ⟨u,hd⟩: ∃ u,hdT x.fin (x.toks.drop (k+1+1))=u:=⟨_,rfl⟩
  rw [hp2,hd] at hrun
  have e2:p.skip.skip=⟨x.toks.drop (k+1+1),p.out⟩:=by
    have:p.skip.skip=⟨p.skip.skip.l,p.out⟩:=rfl
    rw [this,hp2]
  rw [e2] at hrun
  repeat' (first|(apply aa (f:=364);exact rfl;exact rfl;(intro w' _;exact hF w'))|(apply aw (f:=347);exact rfl;exact rfl;exact FnIn.msub (kq 9 (Nz x.hsa (by decide)) (Nz x.ht (by decide)) (by omega) (B:=B) (cb:=cb) (out:=p.out) (at_:=0) (e:=0) (g:=x.g) (A:=x.A) (cap:=x.cap) hd9 hu9 _ w0) (MSub.pick pK (MSub.pick pK (MSub.pick pK (MSub.refl _))));rintro _ _ ⟨rfl,rfl⟩)|(rename_i g3;refine Dm (id:=6) (ι:=Nat × Lv) [0,3,4] rfl (fun y=> [(6,.int .i64 (y.1:Int))]) (fun y=> .box g3 228 (bh t)::y.2.H x R) (fun y=>y.2.end x t fn y.1 (k+1+1) p.out.length r) ?_ ?_)|refine sT ?_|refine sS ?_|refine sN ?_|refine sM fun _=> ?_|(refine sC ?_ ?_<;>intro hb<;>try omega)|exact cT|fail)
  · by_cases h10:u.kind=10
    · rw [if_pos h10] at hrun
      repeat' (first|(apply ak;exact rfl;apply cP;exact rfl;exact rfl)|(apply aa (f:=197);exact rfl;exact rfl;exact fun w hm=>Cx.next hd (B:=B) (cb:=cb) (out:=p.out) (at_:=0) (e:=0) (MSub.pick pK (MSub.pick pK (MSub.pick pK (MSub.nil _)))) w hm)|(refine cu (0,⟨0,k+1+1,B,cb,p.out,0,0⟩) ?_ sB (by simp only [Lv.H,Cx.B,rB,Nf,Ng];exact mS))|refine sT ?_|refine sS ?_|refine sN ?_|refine sM fun _=> ?_|(refine sC ?_ ?_<;>intro hb<;>try omega)|exact cT|fail)
      all_goals first|(exfalso;omega)|exact ⟨Nat.zero_le _,Nat.le_refl _,by dsimp only;omega,.inl ⟨rfl,rfl,by dsimp only;omega,Nat.zero_le _,hrun⟩⟩
    · rw [if_neg h10] at hrun
      obtain ⟨r0,hr0,hrend⟩:=bF hrun
      cases f with
      |zero=>cases hr0
      |succ f=>
        rw [xR] at hr0
        obtain ⟨r1,hr1,hr2⟩:=bF hr0
        have hA0:=oQ f fn 0 hf1 hf2 (ih f (PT f))
        repeat' (first|(apply ak;exact rfl;apply cP;exact rfl;exact rfl)|(apply aa (f:=197);exact rfl;exact rfl;exact fun w hm=>Cx.next hd (B:=B) (cb:=cb) (out:=p.out) (at_:=0) (e:=0) (MSub.pick pK (MSub.pick pK (MSub.pick pK (MSub.nil _)))) w hm)|(apply aw (f:=365);exact rfl;exact rfl;exact FnIn.msub (hA0 x (k+1+1) ⟨x.toks.drop (k+1+1),p.out⟩ B cb r1 _ w0 (by omega) rfl (by dsimp only;omega) hr1) (MSub.pick pK (MSub.pick pK (MSub.pick pK (MSub.refl _))));rintro v1 H1 hR;obtain ⟨f2,k2,B2,cb2,o2,a2,e2,hy,_,rfl⟩:=wD (f' :=f) (k:=k+1+1) (m:=p.out.length) (Nat.le_refl _) hr1 rfl (Nat.zero_le _) (by dsimp only;omega) hr2 hR (Nat.le_refl _) (Nat.le_refl _))|refine sT ?_|refine sS ?_|refine sN ?_|refine sM fun _=> ?_|(refine sC ?_ ?_<;>intro hb<;>try omega)|exact cT|fail)
        all_goals try (exfalso;omega)
        refine ax [0,3,4] rfl (fun y:Nat × Lv=> [(6,.int .i64 (y.1:Int))]) (fun y=> .box g3 228 (bh t)::y.2.H x R) (fun y=>y.2.arg x fn y.1 (k+1+1) p.out.length r0 f) (fun y=>y.2.m) (1,⟨f2,k2,B2,cb2,o2,a2,e2⟩) hy sB (by simp only [Lv.H,Cx.B,rB,Nr,Nf,Ng];exact mS) ?_
        clear hy hR hr1 hr2 hr0
        rintro ⟨n,f',k1,B1,cb1,o1,a,e⟩ ⟨hf',hn,h3,h4,hor⟩
        dsimp only at hf' hn h3 h4 hor
        simp only [Lv.H]
        rcases hor with ⟨rfl,rfl,h1,hno,hr2⟩|⟨h1,h2,rfl⟩
        · obtain ⟨u1,hd1⟩: ∃ u,hdT x.fin (x.toks.drop k1)=u:=⟨_,rfl⟩
          rw [hd1] at hr2
          by_cases h11:u1.kind=11
          · rw [if_pos h11] at hr2
            have hlt1:=Cx.lt hd1 (by omega)
            cases f' with
            |zero=>cases hr2
            |succ f' =>
              rw [xR] at hr2
              obtain ⟨r2,hr3,hr4⟩:=bF hr2
              have hA1:=oQ f' fn n hf1 hf2 (ih f' (by omega))
              repeat' (first|(apply ak;exact rfl;apply cP;exact rfl;exact rfl)|(apply aa (f:=197);exact rfl;exact rfl;exact fun w hm=>Cx.next hd1 (B:=B1) (cb:=cb1) (out:=o1) (at_:=0) (e:=0) (MSub.pick pK (MSub.pick pK (MSub.pick pK (MSub.nil _)))) w hm)|(apply aw (f:=365);exact rfl;exact rfl;exact FnIn.msub (hA1 x (k1+1) ⟨x.toks.drop (k1+1),o1⟩ B1 cb1 r2 _ w0 hlt1 rfl (by dsimp only;omega) hr3) (MSub.pick pK (MSub.pick pK (MSub.pick pK (MSub.refl _))));rintro v1 H1 hR;obtain ⟨f2,k2,B2,cb2,o2,a2,e2,hy,hff,rfl⟩:=wD (f' :=f) (k:=k+1+1) (m:=p.out.length) (by omega) hr3 rfl hno (by dsimp only;omega) hr4 hR (by omega) (by dsimp only;omega))|refine sT ?_|refine sS ?_|refine sN ?_|refine sM fun _=> ?_|(refine sC ?_ ?_<;>intro hb<;>try omega)|exact cT|fail)
              all_goals first|(exfalso;omega)|(exfalso;simp_all;done)|skip
              refine ⟨(n+1,⟨f2,k2,B2,cb2,o2,a2,e2⟩),hy,(by simp only [Lv.m,if_true];split<;>omega),sB,sB,?_⟩
              simp only [Lv.H,Cx.B,rB,Nr,Nf,Ng]
              exact mS
          · rw [if_neg h11] at hr2
            cases hr2
            repeat' (first|(apply ak;exact rfl;apply cP;exact rfl;exact rfl)|(apply aa (f:=197);exact rfl;exact rfl;exact fun w hm=>Cx.next hd1 (B:=B1) (cb:=cb1) (out:=o1) (at_:=0) (e:=0) (MSub.pick pK (MSub.pick pK (MSub.pick pK (MSub.nil _)))) w hm)|(refine cu (n,⟨0,k1,B1,cb1,o1,0,0⟩) ?_ sB (by simp only [Lv.H,Cx.B,rB,Nr,Nf,Ng];exact mS))|refine sT ?_|refine sS ?_|refine sN ?_|refine sM fun _=> ?_|(refine sC ?_ ?_<;>intro hb<;>try omega)|exact cT|fail)
            all_goals first|(exfalso;omega)|(exfalso;simp_all;done)|skip
            rcases hrend with ⟨e,h,_⟩|⟨n3,p3,h,h7⟩
            · cases h
            · cases h
              exact ⟨hn,h3,h4,.inl ⟨rfl,rfl,h1,hno,h7⟩⟩
        · repeat' (first|(refine cu (n,⟨0,k1,B1,cb1,o1,a,e⟩) ?_ sB (by simp only [Lv.H,Cx.B,rB,Nr,Nf,Ng];exact mS))|refine sT ?_|refine sS ?_|refine sN ?_|refine sM fun _=> ?_|(refine sC ?_ ?_<;>intro hb<;>try omega)|exact cT|fail)
          all_goals first|(exfalso;omega)|exact absurd (by assumption) h1|skip
          rcases hrend with ⟨e',h,h8⟩|⟨n3,p3,h,h7⟩
          · cases h
            exact ⟨hn,h3,h4,.inr ⟨h1,h2,h8⟩⟩
          · cases h
  · rintro ⟨n,f',k1,B1,cb1,o1,a,e⟩ ⟨hn,h3,h4,hor⟩
    dsimp only at hn h3 h4 hor
    simp only [Lv.H]
    clear hrun
    rcases hor with ⟨rfl,rfl,h1,hno,hend⟩|⟨h1,h2,rfl⟩
    rotate_left
    · repeat' (first|refine sT ?_|refine sS ?_|refine sN ?_|refine sM fun _=> ?_|(refine sC ?_ ?_<;>intro hb<;>try omega)|exact cT|fail)
      all_goals first
        |(exfalso;omega)
        |exact absurd (by assumption) h1
        | (refine eL (x' := (a, e)) (k' := k1) (out' := o1) (B' := B1) (cb' := cb1) eIO rfl h1 h2 (by omega) (by omega) ?_
           simp only [Cx.B,rB,Nr,Nf,Ng]
           exact mS)
    have hA:=fun w=>jC fn w
    have hak:=jN (fn:=fn) (by simp [cW,hf1,hf2])
    have hap:=wC hf1 hf2
    rw [hak] at hap
    obtain ⟨least,most,hlm⟩: ∃ a b,bJ fn=(a,b):=⟨_,_,rfl⟩
    rw [hlm] at hak hA hap
    dsimp only at hak hA hap
    obtain ⟨u1,hd1⟩: ∃ u,hdT x.fin (x.toks.drop k1)=u:=⟨_,rfl⟩
    by_cases h10:u1.kind≠10
    · have hr' :r= .error (u1.at_,4):=by
        simp only [dm,hd1,if_pos h10] at hend
        exact (Option.some.inj hend).symm
      subst hr'
      repeat' (first|(apply aw (f:=347);exact rfl;exact rfl;exact FnIn.msub (sY 10 (Nz x.hsa (by decide)) (Nz x.ht (by decide)) (B:=B1) (cb:=cb1) (out:=o1) (at_:=0) (e:=0) (g:=x.g) (A:=x.A) (cap:=x.cap) hd1 h10 _ w0) (MSub.pick pK (MSub.pick pK (MSub.pick pK (MSub.refl _))));rintro _ _ ⟨rfl,rfl⟩)|(apply aa (f:=327);exact rfl;exact rfl;(intro w' _;exact hA w'))|(apply aw (f:=196);exact rfl;exact rfl;exact FnIn.msub (fa x.g x.sa x.A _ x.cap k1 B1 _ cb1 u1.at_ 4 _ _ _ _) (MSub.pick pK (.refl _));rintro _ _ ⟨rfl,rfl⟩)|refine sT ?_|refine sS ?_|refine sN ?_|refine sM fun _=> ?_|(refine sC ?_ ?_<;>intro hb<;>try omega)|exact cT|fail)
      all_goals first
        |(exfalso;omega)
        |(exfalso;simp_all;done)
        | (refine eL (x' := (u1.at_, 4)) (k' := k1) (out' := o1) (B' := B1) (cb' := cb1) eIO rfl (by simp) (by omega) (by omega) (by (try simp only [Na, Nh]); omega) ?_
           simp only [Cx.B,rB,Na,Nh,Nt,Np,NE,Nl,Nr,Nf,Ng]
           exact mS)
    have h10:u1.kind=10:=Classical.not_not.1 h10
    have hlt1:=Cx.lt hd1 (by omega)
    by_cases hr:(n:Int)<least∨most<(n:Int)
    · have hr' :r= .error (t.at_,11):=by
        simp only [dm,hd1,h10,hak,if_pos hr] at hend
        exact (Option.some.inj hend).symm
      subst hr'
      repeat' (first|(apply aw (f:=347);exact rfl;exact rfl;exact FnIn.msub (kq 10 (Nz x.hsa (by decide)) (Nz x.ht (by decide)) (by omega) (B:=B1) (cb:=cb1) (out:=o1) (at_:=0) (e:=0) (g:=x.g) (A:=x.A) (cap:=x.cap) hd1 h10 _ w0) (MSub.pick pK (MSub.pick pK (MSub.pick pK (MSub.refl _))));rintro _ _ ⟨rfl,rfl⟩)|(apply aa (f:=327);exact rfl;exact rfl;(intro w' _;exact hA w'))|(apply aw (f:=196);exact rfl;exact rfl;exact FnIn.msub (fa x.g x.sa x.A _ x.cap (k1+1) B1 _ cb1 0 0 _ _ _ _) (MSub.pick pK (.refl _));rintro _ _ ⟨rfl,rfl⟩)|refine sT ?_|refine sS ?_|refine sN ?_|refine sM fun _=> ?_|(refine sC ?_ ?_<;>intro hb<;>try omega)|exact cT|fail)
      all_goals first
        |(exfalso;omega)
        |(exfalso;simp_all;done)
        | (refine eL (x' := (t.at_, 11)) (k' := k1 + 1) (out' := o1) (B' := B1) (cb' := cb1) eIO rfl (by simp) (by omega) (by omega) (by (try simp only [Na, Nh]); omega) ?_
           simp only [Cx.B,rB,Na,Nh,Nt,Np,NE,Nl,Nr,Nf,Ng]
           exact mS)
    have hpos:0<o1.length:=by omega
    obtain ⟨xn,hx⟩: ∃ xn,o1[o1.length - 1]? =some xn:=⟨_,Nc (by omega)⟩
    rw [tZ (p:=⟨x.toks.drop k1,o1⟩) hx] at hend
    dsimp only at hend
    rw [hd1,hak,if_neg (by rw [h10];simp)] at hend
    dsimp only at hend
    rw [if_neg hr] at hend
    refine eG (A:=B1) (by simp only [Cx.B,rB,Nr,Nf,Ng];exact pK) hpos fun gb hB=> ?_
    subst hB
    by_cases hkx:46≤fn∧xn.kind≠2∧xn.kind≠3
    · rw [if_pos hkx] at hend
      cases hend
      repeat' (first|(apply aw (f:=347);exact rfl;exact rfl;exact FnIn.msub (kq 10 (Nz x.hsa (by decide)) (Nz x.ht (by decide)) (by omega) (B:=some gb) (cb:=cb1) (out:=o1) (at_:=0) (e:=0) (g:=x.g) (A:=x.A) (cap:=x.cap) hd1 h10 _ w0) (MSub.pick pK (MSub.pick pK (MSub.pick pK (MSub.refl _))));rintro _ _ ⟨rfl,rfl⟩)|(apply aa (f:=327);exact rfl;exact rfl;(intro w' _;exact hA w'))|(apply gh (id:=19);kernel_rfl;kernel_rfl)|(apply aS;exact rfl;apply dG;exact rfl;exact rfl;exact hpos;(simp only [maxLen];omega))|(apply aS;exact rfl;apply aj;exact rfl;exact rfl;omega)|(apply aS;exact rfl;apply jy (k:=0);exact fN;exact rfl;exact pK;decide;exact hx;exact rfl)|(apply aw (f:=196);exact rfl;exact rfl;exact FnIn.msub (fa x.g x.sa x.A _ x.cap (k1+1) (some gb) _ cb1 0 0 _ _ _ _) (MSub.pick pK (.refl _));rintro _ _ ⟨rfl,rfl⟩)|(apply aG;(iterate 3 exact rfl);exact pK;exact pK;exact rfl;(simp [cv,Value.oneCell']);omega;(simp only [maxLen];omega);intro g8 c8)|refine sT ?_|refine sS ?_|refine sQ ?_|refine sN ?_|refine sNQ ?_|refine sM fun _=> ?_|(refine sC ?_ ?_<;>intro hb<;>try omega)|(refine sCQ ?_ ?_<;>intro hb<;>try omega)|exact cT|fail)
      all_goals first
        |(exfalso;omega)
        |(exfalso;simp_all;done)
        | (refine eL (x' := (t.at_, 4)) (k' := k1 + 1) (out' := o1 ++ [⟨7, bK, aO, 0, fn, n⟩]) (B' := some g8) (cb' := c8) eIO rfl (by simp) (by omega) (by omega) (by (try simp only [Na, Nh]); omega) ?_
           simp only [Cx.B,rB,Na,Nh,Nt,Np,NE,Nl,Nr,Nf,Ng]
           exact mS)
    · rw [if_neg hkx] at hend
      cases hend
      repeat' (first|(apply aw (f:=347);exact rfl;exact rfl;exact FnIn.msub (kq 10 (Nz x.hsa (by decide)) (Nz x.ht (by decide)) (by omega) (B:=some gb) (cb:=cb1) (out:=o1) (at_:=0) (e:=0) (g:=x.g) (A:=x.A) (cap:=x.cap) hd1 h10 _ w0) (MSub.pick pK (MSub.pick pK (MSub.pick pK (MSub.refl _))));rintro _ _ ⟨rfl,rfl⟩)|(apply aa (f:=327);exact rfl;exact rfl;(intro w' _;exact hA w'))|(apply gh (id:=19);kernel_rfl;kernel_rfl)|(apply aS;exact rfl;apply dG;exact rfl;exact rfl;exact hpos;(simp only [maxLen];omega))|(apply aS;exact rfl;apply aj;exact rfl;exact rfl;omega)|(apply aS;exact rfl;apply jy (k:=0);exact fN;exact rfl;exact pK;decide;exact hx;exact rfl)|(apply aG;(iterate 3 exact rfl);exact pK;exact pK;exact rfl;(simp [cv,Value.oneCell']);omega;(simp only [maxLen];omega);intro g8 c8)|refine sT ?_|refine sS ?_|refine sQ ?_|refine sN ?_|refine sNQ ?_|refine sM fun _=> ?_|(refine sC ?_ ?_<;>intro hb<;>try omega)|(refine sCQ ?_ ?_<;>intro hb<;>try omega)|exact cT|fail)
      all_goals first
        |(exfalso;omega)
        |(exfalso;simp_all;done)
        | (refine jo (k' := k1 + 1) (p' := PS.put (PS.skip ⟨x.toks.drop k1, o1⟩) ⟨7, bK, aO, 0, fn, n⟩) (B' := some g8) (cb' := c8) eIO rfl hlt1 (Cx.skip rfl) (by omega) (by simp only [PS.put, PS.skip, Na, Nh]; omega) ?_
           simp only [PS.put,PS.skip,Cx.B,rB,Na,Nh,Nt,Np,NE,Nl,Nr,Nf,Ng]
           exact mS)
end Go.SL

/-
  Lemmas and walks, put together: Q3 Hd Hh Q5 Hi.
-/
import Derived.Test.YtoanpdoacdpgeaaGreatDoorKo18
import Derived.Test.YtoanpdoacdpgeaaGreatDoorKo19
set_option linter.unusedSimpArgs false
set_option linter.unusedVariables false
set_option maxRecDepth 20000
namespace Go.SL
open Go Go.Proofs
attribute [local irreducible] W WL WQ WG WA WX WLI WR WT WC VOp RW thn blk bp scp aR ba bE aF FnIn FnP ceP
set_option maxHeartbeats 2000000 in
theorem CM (f:Nat) (ihP:py f .prim 324 []):py (f+1) .pct 287 []:=by
  intro x k p B cb r R w0 hk hp hout hrun
  refine eQ Tryz.func287 rfl Tryz.ntmps287 rfl ?_
  have hxt:=x.ht
  dsimp only at hrun
  rw [bz] at hrun
  obtain ⟨r1,hr1,⟨e,rfl,rfl⟩|⟨n1,p1,rfl,hr2⟩⟩:=bG hrun
  · repeat' (first|(apply ax (f:=324);exact rfl;exact rfl;exact FnIn.msub (ihP x k p B cb _ _ w0 hk hp hout hr1) (MSub.pick pK (MSub.pick pK (MSub.pick pK (MSub.refl _))));rintro _ _ ⟨rfl,k1,B1,cb1,o1,h1,h2,h3,h4,rfl⟩)|refine sT ?_|refine sS ?_|refine sN ?_|refine sM fun _=> ?_|(refine sC ?_ ?_<;>intro hb<;>try omega)|fail)
    refine aw [0] rfl (fun _:Unit=> []) (fun _=>x.B k1 B1 cb1 o1 e.1 e.2++R) (fun _=>True) (fun _=>0) () trivial sB (MSub.refl _) ?_
    rintro ⟨⟩ _
    repeat' (first|refine sT ?_|refine sS ?_|refine sN ?_|refine sM fun _=> ?_|(refine sC ?_ ?_<;>intro hb<;>try omega)|fail)
    all_goals first
      |(exfalso;omega)
      |exact absurd (by assumption) h1
      |exact fH eIO rfl h1 h2 h3 h4 (MSub.refl _)
  · repeat' (first|(apply ax (f:=324);exact rfl;exact rfl;exact FnIn.msub (ihP x k p B cb _ _ w0 hk hp hout hr1) (MSub.pick pK (MSub.pick pK (MSub.pick pK (MSub.refl _))));rintro _ _ ⟨rfl,k1,B1,cb1,h1,h2,h3,h4,rfl⟩)|refine sT ?_|refine sS ?_|refine sN ?_|refine sM fun _=> ?_|(refine sC ?_ ?_<;>intro hb<;>try omega)|fail)
    refine aw [0] rfl (fun _:Nat × PS × Nat × Option Nat × Nat=> []) (fun y=>x.B y.2.2.1 y.2.2.2.1 y.2.2.2.2 y.2.1.out 0 0++R) (fun y=>y.2.2.1≤x.toks.length∧y.2.1.l=x.toks.drop y.2.2.1∧k≤y.2.2.1∧y.2.1.out.length+k≤p.out.length+y.2.2.1∧bz x.fin y.1 .pctl y.2.1=some r) (fun y=>y.1) (f,p1,k1,B1,cb1) ⟨h1,h2,h3,h4,hr2⟩ sB (MSub.refl _) ?_
    clear hr1 hr2 h1 h2 h3 h4
    rintro ⟨f',q,k2,B2,cb2⟩ ⟨h1,h2,h3,h4,hr2⟩
    dsimp only at h1 h2 h3 h4 hr2 ⊢
    cases f' with
    |zero=>cases hr2
    |succ f' =>
      rw [bz] at hr2
      try dsimp only at hr2
      obtain ⟨u,hu⟩: ∃ u,hdT x.fin q.l=u:=⟨_,rfl⟩
      rw [hu] at hr2
      have hd1:hdT x.fin (x.toks.drop k2)=u:=h2 ▸ hu
      by_cases hk3:u.kind=8∧u.num=13
      · rw [if_pos hk3] at hr2
        have hlt1:=Cx.lt hd1 (by omega)
        repeat' (first|(apply aa (f:=241);exact rfl;exact rfl;exact fun w hm=>Cx.op hd1 7 (B:=B2) (cb:=cb2) (out:=q.out) (at_:=0) (e:=0) (MSub.pick pK (MSub.pick pK (MSub.pick pK (MSub.nil _)))) w hm)|(apply aU;(iterate 3 exact rfl);exact pK;exact pK;exact rfl;(simp [bN,Value.oneCell']);omega;(simp only [maxLen];omega);intro g8 c8)|refine sT ?_|refine sS ?_|refine sN ?_|refine sM fun _=> ?_|(refine sC ?_ ?_<;>intro hb<;>try omega)|fail)
        all_goals first
          |(exfalso;omega)
          |(exfalso;simp_all [Mq];done)
          | (refine ⟨(f', q.skip.put (dG 5 0), k2 + 1, some g8, c8), ⟨hlt1, Cx.skip h2, by dsimp only; omega, by simp only [PS.put, PS.skip, List.length_append, List.length_singleton]; omega, hr2⟩, Nat.lt_succ_self _, sB, sB, ?_⟩
             simp only [PS.put,PS.skip,Cx.B,rB,QT,QX,Rn,Rm,Ry,QZ,QU,QW]
             exact mS)
      · rw [if_neg hk3] at hr2
        cases hr2
        repeat' (first|(apply aa (f:=241);exact rfl;exact rfl;exact fun w hm=>Cx.op hd1 7 (B:=B2) (cb:=cb2) (out:=q.out) (at_:=0) (e:=0) (MSub.pick pK (MSub.pick pK (MSub.pick pK (MSub.nil _)))) w hm)|refine sT ?_|refine sS ?_|refine sN ?_|refine sM fun _=> ?_|(refine sC ?_ ?_<;>intro hb<;>try omega)|fail)
        all_goals first
          |(exfalso;omega)
          |(exfalso;simp_all [Mq];done)
          |exact kf eIO rfl h1 h2 h3 h4 (MSub.refl _)
structure Lv where
 f:Nat
 k:Nat
 B:Option Nat
 cb:Nat
 out:List Nd
 a:Int
 e:Int
def Lv.H (y:Lv) (x:Cx) (R:List Blk):List Blk:=x.B y.k y.B y.cb y.out y.a y.e++R
def Lv.ok (y:Lv) (x:Cx) (j:Nat→PS→Option Out) (k m:Nat) (r:Out) (f:Nat):Prop:=y.f≤f∧k≤y.k∧y.out.length+k≤m+y.k∧
 ((y.a=0∧y.e=0∧y.k≤x.toks.length∧j y.f ⟨x.toks.drop y.k,y.out⟩=some r)∨(y.e≠0∧y.k≤x.toks.length+1∧r= .error (y.a,y.e)))
def Lv.m (y:Lv):Nat:=if y.e=0 then y.f+1 else 0
theorem Db {x:Cx} {R H:List Blk} {v:Value} {f k m k0 m0:Nat} {r r1:Out} {j:Nat→PS→Option Out} (hr2:(∃ e,r1= .error e∧r= .error e)∨(∃ n p',r1= .ok (n,p')∧j f p' =some r)) (hR:RR x k0 m0 R r1 v H) (hk:k≤k0) (hm:m0+k≤m+k0): ∃ f2 k2 B2 cb2 o2 a2 e2,(Lv.mk f2 k2 B2 cb2 o2 a2 e2).ok x j k m r f∧H=x.B k2 B2 cb2 o2 a2 e2++R:=by
 obtain ⟨_,hR⟩:=hR
 rcases hr2 with ⟨e,rfl,rfl⟩|⟨n1,p1,rfl,hr2⟩
 ·
  obtain ⟨k1,B1,cb1,o1,h1,h2,h3,h4,rfl⟩:=hR
  exact ⟨f,k1,B1,cb1,o1,e.1,e.2,⟨Nat.le_refl _,by dsimp only;omega,by dsimp only;omega,.inr ⟨h1,h2,rfl⟩⟩,rfl⟩
 ·
  obtain ⟨k1,B1,cb1,h1,h2,h3,h4,rfl⟩:=hR
  refine ⟨f,k1,B1,cb1,p1.out,0,0,⟨Nat.le_refl _,by dsimp only;omega,by dsimp only;omega,.inl ⟨rfl,rfl,h1,?_⟩⟩,rfl⟩
  dsimp only
  rw [← h2];exact hr2
set_option maxHeartbeats 4000000 in
theorem I3 (f:Nat) (q:Int) (h1q:1≤q) (h5q:q≤5) (ihL:q≤4→ ∀ f' ≤f,py f' (.level (q+1)) 195 [.int .i64 (q+1)]) (ihS:py f .sign 240 []):py (f+1) (.level q) 195 [.int .i64 q]:=by
 intro x k p B cb r R w0 hk hp hout hrun
 refine eQ Tryz.func195 rfl Tryz.ntmps195 rfl ?_
 have hxt:=x.ht
 dsimp only at hrun
 rw [bz] at hrun
 by_cases hq5:q=5
 ·
  rw [if_pos hq5] at hrun
  subst hq5
  repeat' (first|(apply ax (f:=240);exact rfl;exact rfl;exact FnIn.msub (ihS x k p B cb _ _ w0 hk hp hout hrun) (MSub.pick pK (MSub.pick pK (MSub.pick pK (MSub.refl _))));rintro _ _ ⟨rfl,hR⟩)|refine sT ?_|refine sS ?_|refine sN ?_|refine sM fun _=> ?_|(refine sC ?_ ?_<;>intro hb<;>try omega)|fail)
  all_goals exact gC eIO rfl (MSub.refl _) ⟨rfl,hR⟩
 rw [if_neg hq5] at hrun
 have ihL:=ihL (by omega)
 obtain ⟨r1,hr1,hr2⟩:=bG hrun
 repeat' (first|(apply ak (d:=11);exact rfl;apply lI;exact rfl;exact rfl;exact ⟨by omega,by omega⟩)|(apply ax (f:=195);exact rfl;exact rfl;exact FnIn.msub (ihL f (Re _) x k p B cb r1 _ w0 hk hp hout hr1) (MSub.pick pK (MSub.pick pK (MSub.pick pK (MSub.refl _))));rintro v1 H1 hR)|refine sT ?_|refine sS ?_|refine sN ?_|refine sM fun _=> ?_|(refine sC ?_ ?_<;>intro hb<;>try omega)|fail)
 all_goals try (exfalso;omega)
 obtain ⟨f0,k0,B0,cb0,o0,a0,e0,hy0,rfl⟩:=Db (j:=fun f p=>bz x.fin f (.loop q) p) hr2 hR (Re k) (Re _)
 clear hr1 hr2 hR hrun
 refine aw [0,1] rfl (fun _:Lv=> []) (fun y=>y.H x R) (fun y=>y.ok x (fun f p=>bz x.fin f (.loop q) p) k p.out.length r f) Lv.m ⟨f0,k0,B0,cb0,o0,a0,e0⟩ hy0 sB (MSub.refl _) ?_
 rintro ⟨f',k1,B1,cb1,o1,a,e⟩ ⟨hf',h3,h4,hor⟩
 dsimp only at hf' h3 h4 hor
 simp only [Lv.H]
 rcases hor with ⟨rfl,rfl,h1,hr2⟩|⟨h1,h2,rfl⟩
 ·
  cases f' with
  |zero=>cases hr2
  |succ f' =>
   rw [bz] at hr2
   try dsimp only at hr2
   obtain ⟨u,hd1⟩: ∃ u,hdT x.fin (x.toks.drop k1)=u:=⟨_,rfl⟩
   rw [hd1] at hr2
   by_cases hk3:u.kind=8∧gR u.num=q
   ·
    rw [if_pos hk3] at hr2
    have hlt1:=Cx.lt hd1 (by omega)
    obtain ⟨r2,hr3,hr4⟩:=bG hr2
    repeat' (first|(apply aa (f:=241);exact rfl;exact rfl;exact fun w hm=>Cx.op hd1 q (B:=B1) (cb:=cb1) (out:=o1) (at_:=0) (e:=0) (MSub.pick pK (MSub.pick pK (MSub.pick pK (MSub.nil _)))) w hm)|(apply aa (f:=197);exact rfl;exact rfl;exact fun w hm=>Cx.next hd1 (B:=B1) (cb:=cb1) (out:=o1) (at_:=0) (e:=0) (MSub.pick pK (MSub.pick pK (MSub.pick pK (MSub.nil _)))) w hm)|(apply ak;exact rfl;apply dR;exact rfl;exact rfl)|(apply ak (d:=35);exact rfl;apply lI;exact rfl;exact rfl;exact ⟨by omega,by omega⟩)|(apply ax (f:=195);exact rfl;exact rfl;exact FnIn.msub (ihL f' (by omega) x (k1+1) ⟨x.toks.drop (k1+1),o1⟩ B1 cb1 r2 _ w0 hlt1 rfl (by dsimp only;omega) (by rw [← List.tail_drop];exact hr3)) (MSub.pick pK (MSub.pick pK (MSub.pick pK (MSub.refl _))));rintro v1 H1 hR;obtain ⟨f2,k2,B2,cb2,o2,a2,e2,⟨hy1,hy2,hy3,hy4⟩,rfl⟩:=Db (k:=k+1) (m:=p.out.length) (j:=fun f p=>bz x.fin f (.loop q) (p.put (dG 6 u.num))) hr4 hR (by omega) (by dsimp only;omega);dsimp only at hy1 hy2 hy3 hy4;have hkb:k2≤257:=by { rcases hy4 with ⟨_,_,h,_⟩|⟨_,h,_⟩<;>omega })|(apply aU;(iterate 3 exact rfl);exact pK;exact pK;exact rfl;(simp [bN,Value.oneCell']);omega;(simp only [maxLen];omega);intro g8 c8)|refine sT ?_|refine sS ?_|refine sN ?_|refine sM fun _=> ?_|(refine sC ?_ ?_<;>intro hb<;>try omega)|fail)
    all_goals first
     |(exfalso;omega)
     |(exfalso;simp_all;done)
     |skip
    refine ⟨⟨f2,k2,some g8,c8,o2++ [dG 6 u.num],a2,e2⟩,⟨by dsimp only;omega,by dsimp only;omega,by simp only [List.length_append,List.length_singleton];omega,hy4⟩,(by simp only [Lv.m,if_true];split<;>omega),sB,sB,?_⟩
    simp only [Lv.H,Cx.B,rB,QT,QX,Rn,Rm,Ry,QZ,QU,QW]
    exact mS
   ·
    rw [if_neg hk3] at hr2
    cases hr2
    repeat' (first|(apply aa (f:=241);exact rfl;exact rfl;exact fun w hm=>Cx.op hd1 q (B:=B1) (cb:=cb1) (out:=o1) (at_:=0) (e:=0) (MSub.pick pK (MSub.pick pK (MSub.pick pK (MSub.nil _)))) w hm)|refine sT ?_|refine sS ?_|refine sN ?_|refine sM fun _=> ?_|(refine sC ?_ ?_<;>intro hb<;>try omega)|fail)
    all_goals first
     |(exfalso;omega)
     |(exfalso;simp_all;done)
     |exact kf (p' :=⟨x.toks.drop k1,o1⟩) eIO rfl h1 rfl h3 h4 (MSub.refl _)
 ·
  repeat' (first|refine sT ?_|refine sS ?_|refine sN ?_|refine sM fun _=> ?_|(refine sC ?_ ?_<;>intro hb<;>try omega)|fail)
  all_goals first
   |(exfalso;omega)
   |exact absurd (by assumption) h1
   |exact fH (x' :=(a,e)) eIO rfl h1 h2 h3 h4 (MSub.refl _)
end Go.SL
namespace Go.SL
open Go Go.Proofs
attribute [local irreducible] W WL WQ WG WA WX WLI WR WT WC WE VOp RW thn blk bp scp aR ba bE aF FnIn FnP ceP
theorem K8 {L:List Int} {k:Nat} (h:k<L.length):(L.map du)[0+k*1]? =some (du L[k]):=by
 rw [Rt,SN,RZ,QV h];rfl
theorem OL {L:List Int} {a k:Nat} (h:a+k<L.length):(L.map du)[a*1+k*1]? =some (du L[a+k]):=by
 rw [SN,SN,RZ,QV h];rfl
set_option maxHeartbeats 4000000 in
theorem Em (L:List Int) (A:Option Nat) (cap:Nat) (hL:L.length≤1000000) (R:List Blk) (w0:World):
    FnIn Tryz.prog 231 [sl A L.length cap] w0 (.own A 3 1 L.length cap (L.map du)::R) fun v H=>v=sl A (gI L).length cap∧H= .own A 3 1 (gI L).length cap ((gI L).map du)::R:=by
  refine eQ Tryz.func231 rfl Tryz.ntmps231 rfl ?_
  refine QO (A:=A) .hd fun hle=> ?_
  by_cases h2:L.length<2
  · have hc:=DW (L:=L) (by omega)
    repeat' (first|refine sT ?_|refine sS ?_|refine sN ?_|refine sM fun _=> ?_|(refine sC ?_ ?_<;>intro hb<;>try omega)|fail)
    all_goals first
      |(exfalso;omega)
      |(refine cA eIO rfl rfl (.refl _) ?_;rw [hc];exact ⟨rfl,rfl⟩)
  · refine dN (A:=A) .hd (by omega) fun g hA=> ?_
    subst hA
    repeat' (first|refine sT ?_|refine sS ?_|refine sN ?_|refine sM fun _=> ?_|(refine sC ?_ ?_<;>intro hb<;>try omega)|fail)
    all_goals try (exfalso;omega)
    refine aw [0] rfl (fun k:Nat=> [(3,.int .i64 (k:Int))]) (fun _=> .own (some g) 3 1 L.length cap (L.map du)::R) (fun k=>1≤k∧k≤L.length∧gI (L.take k)=L.take k) (fun k=>L.length - k) 1 ⟨Re _,by omega,DW (by rw [RF];omega)⟩ sB mS ?_
    rintro k ⟨hk1,hk,hck⟩
    by_cases hlt:k<L.length
    · have hr1:=K8 hlt
      have hr2:=K8 (L:=L) (k:=k - 1) (by omega)
      have hst:=zl hlt hk1
      have htk:L.take (k+1)=L.take k++ [L[k]]:=by rw [Ra hlt]
      obtain ⟨c,hc⟩: ∃ c,decide (L[k]=L[k - 1])=c:=⟨_,rfl⟩
      cases c with
      |false=>
        have hne: ¬ L[k]=L[k - 1]:=by simpa using hc
        rw [if_neg hne,hck,← htk] at hst
        repeat' (first|(apply aK;exact rfl;apply eC;exact rfl;exact rfl;omega;(simp only [maxLen];omega))|(apply aK;exact rfl;apply aj (j:=k);exact rfl;exact rfl;omega)|(apply aK;exact rfl;apply aj (j:=k - 1);exact rfl;exact rfl;omega)|(apply aK;exact rfl;apply aV;exact rfl;exact pK;(first|exact hr1|exact hr2))|(apply aK;exact rfl;apply yE hc;exact rfl;exact rfl)|refine sT ?_|refine sS ?_|refine sQ ?_|refine sN ?_|refine sNQ ?_|refine sD ?_|refine sM fun _=> ?_|(refine sC ?_ ?_<;>intro hb<;>try omega)|(refine sCQ ?_ ?_<;>intro hb<;>try omega)|fail)
        all_goals first
          |(exfalso;omega)
          |(refine ⟨k+1,⟨by omega,hlt,hst⟩,by omega,by exact sB,by exact sB,by exact mS⟩;done)
      |true=>
        have hne:L[k]=L[k - 1]:=by simpa using hc
        rw [if_pos hne,hck] at hst
        repeat' (first|(apply aK;exact rfl;apply eC;exact rfl;exact rfl;omega;(simp only [maxLen];omega))|(apply aK;exact rfl;apply aj (j:=k);exact rfl;exact rfl;omega)|(apply aK;exact rfl;apply aj (j:=k - 1);exact rfl;exact rfl;omega)|(apply aK;exact rfl;apply aV;exact rfl;exact pK;(first|exact hr1|exact hr2))|(apply aK;exact rfl;apply yE hc;exact rfl;exact rfl)|(apply ak;exact rfl;apply yz (lo:=k);exact rfl;exact rfl;omega;exact hle)|refine sT ?_|refine sS ?_|refine sQ ?_|refine sN ?_|refine sNQ ?_|refine sD ?_|refine sM fun _=> ?_|(refine sC ?_ ?_<;>intro hb<;>try omega)|(refine sCQ ?_ ?_<;>intro hb<;>try omega)|fail)
        all_goals try (exfalso;omega)
        refine aw [0,4] rfl (fun y:Nat × Nat × List Int=> [(5,.int .i64 (y.1:Int)),(3,.int .i64 (y.2.1:Int))]) (fun y=> .own (some g) 3 1 L.length cap (y.2.2.map du)::R) (fun y=>1≤y.1∧k+y.1≤L.length∧y.2.1+1≤k+y.1∧y.2.2.length=L.length∧y.2.2.take y.2.1=gI (L.take (k+y.1))∧ ∀ j,k+y.1≤j+1→y.2.2[j]? =L[j]?) (fun y=>L.length - y.1) (1,k,L) ⟨Re _,by omega,Re _,rfl,hst.symm,fun _ _=>rfl⟩ sB mS ?_
        rintro ⟨i,k',ys⟩ ⟨hi1,hi2,hi3,hi4,hi5,hi6⟩
        dsimp only at hi1 hi2 hi3 hi4 hi5 hi6 ⊢
        by_cases hli:k+i<L.length
        · have hy1:k+i<ys.length:=by omega
          have hr3:=OL (L:=ys) (a:=k) (k:=i) hy1
          have hr4:=OL (L:=ys) (a:=k) (k:=i - 1) (by omega)
          have he1:ys[k+i]=L[k+i]:=by
            have:=hi6 (k+i) (by omega)
            rw [QV hy1,QV hli] at this
            exact Option.some.inj this
          have he2:ys[k+(i - 1)]=L[k+i - 1]:=by
            have:=hi6 (k+(i - 1)) (by omega)
            rw [QV (by omega),QV (by omega)] at this
            rw [Option.some.inj this]
            congr 1
            omega
          rw [he1] at hr3
          rw [he2] at hr4
          have hst2:=zl hli (by omega)
          obtain ⟨c,hc2⟩: ∃ c,decide (L[k+i]=L[k+i - 1])=c:=⟨_,rfl⟩
          cases c with
          |true=>
            rw [if_pos (by simpa using hc2)] at hst2
            repeat' (first|(apply aK;exact rfl;apply eC;exact rfl;exact rfl;omega;(simp only [maxLen];omega))|(apply aK;exact rfl;apply aj (j:=i);exact rfl;exact rfl;omega)|(apply aK;exact rfl;apply aj (j:=i - 1);exact rfl;exact rfl;omega)|(apply aK;exact rfl;apply aV;exact rfl;exact pK;(first|exact hr3|exact hr4))|(apply aK;exact rfl;apply yA hc2;exact rfl;exact rfl)|refine sT ?_|refine sS ?_|refine sQ ?_|refine sN ?_|refine sNQ ?_|refine sD ?_|refine sM fun _=> ?_|(refine sC ?_ ?_<;>intro hb<;>try omega)|(refine sCQ ?_ ?_<;>intro hb<;>try omega)|fail)
            all_goals first
              |(exfalso;omega)
              |(refine ⟨(i+1,k',ys),⟨by dsimp only;omega,by dsimp only;omega,by dsimp only;omega,hi4,by dsimp only;rw [hi5,← Nat.add_assoc,hst2],fun j hj=>hi6 j (by omega)⟩,by dsimp only;omega,by exact sB,by exact sB,by exact mS⟩;done)
          |false=>
            rw [if_neg (by simpa using hc2)] at hst2
            have hput:(ys.map du).set (0+k' *1) (du L[k+i])=(ys.set k' L[k+i]).map du:=by rw [Rt,SN,List.map_set]
            repeat' (first|(apply aK;exact rfl;apply eC;exact rfl;exact rfl;omega;(simp only [maxLen];omega))|(apply aK;exact rfl;apply aj (j:=i);exact rfl;exact rfl;omega)|(apply aK;exact rfl;apply aj (j:=i - 1);exact rfl;exact rfl;omega)|(apply aK;exact rfl;apply aV;exact rfl;exact pK;(first|exact hr3|exact hr4))|(apply aK;exact rfl;apply yA hc2;exact rfl;exact rfl)|(apply ak (d:=49);exact rfl;apply aj (j:=i);exact rfl;exact rfl;omega)|(apply ak (d:=51);exact rfl;apply aj (j:=k');exact rfl;exact rfl;omega)|(apply ak;exact rfl;apply aV;exact rfl;exact pK;exact hr3)|(apply jF (v:=du L[k+i]) (off:=0+k' *1);exact rfl;exact rfl;exact pK;exact rfl;(rw [RP,hi4];omega);rw [hput])|refine sT ?_|refine sS ?_|refine sQ ?_|refine sN ?_|refine sNQ ?_|refine sD ?_|refine sM fun _=> ?_|(refine sC ?_ ?_<;>intro hb<;>try omega)|(refine sCQ ?_ ?_<;>intro hb<;>try omega)|fail)
            all_goals first
              |(exfalso;omega)
              | (refine ⟨(i + 1, k' + 1, ys.set k' L[k + i]), ⟨by dsimp only; omega, by dsimp only; omega, by dsimp only; omega, by dsimp only; rw [List.length_set, hi4], ?_, fun j hj => ?_⟩, by dsimp only; omega, by exact sB, by exact sB, by exact mS⟩
                 · dsimp only
                   rw [Ra (by rw [Uo];omega),List.take_set_of_le (Re _),hi5,List.getElem_set_self,← SA,hst2]
                 · dsimp only at hj ⊢
                   rw [List.getElem?_set_ne (by omega)]
                   exact hi6 j (by omega))
        · have hli2:k+i=L.length:=by omega
          rw [hli2,RJ] at hi5
          have hcl:(gI L).length=k' :=by rw [← hi5,RF,hi4];omega
          have hk'L:k' <L.length:=by omega
          repeat' (first|(apply ak;exact rfl;apply yz (lo:=k');exact rfl;exact rfl;omega;exact hle)|(apply Ki (sz:=1) (k:=k') (n' :=L.length);exact rfl;omega;exact pK;(intro u hu;simp [Value.cells] at hu;subst hu;rfl);exact rfl)|(apply ak;exact rfl;apply Iw (hi:=k');exact rfl;exact rfl;omega)|refine sT ?_|refine sS ?_|refine sN ?_|refine sM fun _=> ?_|(refine sC ?_ ?_<;>intro hb<;>try omega)|fail)
          all_goals first
            |(exfalso;omega)
            | (refine cA eIO rfl rfl (H' := .own (some g) 3 1 k' cap ((ys.map du).take (k' * 1)) :: R) mS ?_
               rw [SN,← List.map_take,hi5,hcl]
               exact ⟨rfl,rfl⟩)
    · have hkl:k=L.length:=by omega
      rw [hkl,RJ] at hck
      repeat' (first|refine sT ?_|refine sS ?_|refine sN ?_|refine sM fun _=> ?_|(refine sC ?_ ?_<;>intro hb<;>try omega)|fail)
      all_goals first
        |(exfalso;omega)
        |(refine cA eIO rfl rfl (.refl _) ?_;rw [hck];exact ⟨rfl,rfl⟩)
--
def dB (p:Int × Int):List Value:= [.int .i64 p.1,.int .i64 p.2]
theorem jY (p:Int × Int):(dB p).length=2:=rfl
theorem DZ (lo:Int) (ps:List (Int × Int)) (p:Int × Int):dz lo (ps++ [p])=dz lo ps++ [p.1,p.2+1]:=by
 unfold dz;simp
def qx (lo hi x:Int):Bool:=decide (lo≤x) && decide (x≤hi)
theorem Jc {l:List Int} {h x:Int} (hl:l≠ []):((dZ l h).flatMap dB).set (0+((dZ l h).length - 1)*2+1) (du (x - 1))=(dZ l (x - 1)).flatMap dB:=by
 obtain ⟨f,a,h1,h2⟩:=CU l h (x - 1) hl
 rw [h1,h2]
 simp only [Rn,QT,QX,ST,Rm,Ry,QZ,dB]
 rw [TU _ _ (by rw [aM jY];omega),aM jY]
 congr 1
 rw [show 0+f.length*2+1 - f.length*2=1 by omega]
 rfl
set_option maxHeartbeats 8000000 in
theorem D0 (lo hi:Int) (ps:List (Int × Int)) (lv:Value) (w:World) (hl:Reads w lv ps.length (ps.flatMap dB)) (hn:ps.length≤100000) (hlo:0≤lo∧lo≤100000) (hhi:0≤hi∧hi≤100000) (hps: ∀ p∈ps,0≤p.1∧p.1≤100000∧0≤p.2∧p.2≤100000):
    aF Tryz.prog 182 [.int .i64 lo,.int .i64 hi,lv] w fun v H=> ∃ A cap,v=sl A (cJ lo hi ps).length cap∧H= [.own A 189 2 (cJ lo hi ps).length cap ((cJ lo hi ps).flatMap dB)]:=by
  obtain ⟨Al,cl,rfl,hl1,hl2,hl3⟩:=hl
  refine aq Tryz.func182 rfl Tryz.ntmps182 rfl ?_
  repeat' (first|refine sT ?_|refine sS ?_|refine sT2 ?_|refine sM fun _=> ?_|(refine sC ?_ ?_<;>intro hb<;>try omega)|fail)
  rename_i gb
  refine aw [0,1,15,16] rfl (fun y:Nat × Option Nat × Nat=> [(7,sl y.2.1 (1+2*y.1) y.2.2),(17,.int .i64 (y.1:Int))]) (fun y=> [.own y.2.1 3 1 (1+2*y.1) y.2.2 ((dz lo (ps.take y.1)).map du)]) (fun y=>y.1≤ps.length) (fun y=>ps.length - y.1) (0,some gb,1) (Rd _) sB mS ?_
  rintro ⟨i,A,c⟩ hi0
  dsimp only at hi0 ⊢
  by_cases hlt:i<ps.length
  · obtain ⟨gl,ol,rfl,hrl⟩:=hl3 (by omega)
    have he1:=hrl.elem jY i hlt
    have hbs:dz lo (ps.take (i+1))=dz lo (ps.take i)++ [ps[i].1,ps[i].2+1]:=by rw [Ra hlt,DZ]
    have hpb:=hps _ (RN hlt)
    generalize ps[i]=p at he1 hbs hpb
    repeat' (first|(apply aQ (A:=A) (m:=2);(iterate 3 exact rfl);exact pK;(intro w hm;exact hm.cells_own pK);exact rfl;(simp [Value.oneCell',sl]);omega;(simp only [maxLen];omega);(intro A' cap' hA'))|refine sT ?_|refine sS ?_|refine sT2 ?_|refine sN ?_|refine sJ ?_|refine sO ?_|refine sM fun _=> ?_|(refine sC ?_ ?_<;>intro hb<;>try omega)|fail)
    all_goals first
      |(exfalso;omega)
      | (refine ⟨(i + 1, A', cap'), hlt, by dsimp only; omega, by exact sB, by exact sB, ?_⟩
         dsimp only
         rw [hbs,RM]
         exact mS)
  · have e:i=ps.length:=by omega
    subst e
    rw [RJ]
    have hbl:=ux lo ps
    have hs1:=fun (R:List Blk)=>Ch (dz lo ps) A c (by omega) R w
    have hsl:(jC (dz lo ps)).length=1+2*ps.length:=by rw [(iQ _).length_eq,hbl]
    have hs2:=fun (R:List Blk)=>Em (jC (dz lo ps)) A c (by omega) R w
    rw [hbl] at hs1
    rw [hsl] at hs2
    have hcl:=xx (jC (dz lo ps))
    rw [hsl] at hcl
    have hcut:xu lo hi ps=(gI (jC (dz lo ps))).filter (qx lo hi):=rfl
    have hbd: ∀ x∈gI (jC (dz lo ps)),0≤x∧x≤100001:=fun x hx=>by
      rw [nV,(iQ _).mem_iff,dz,Rs,Se] at hx
      rcases hx with rfl|⟨p,hp,hx⟩
      · omega
      · have:=hps p hp
        simp at hx
        omega
    unfold cJ
    rw [hcut]
    generalize gI (jC (dz lo ps))=C at hs2 hcl hbd
    refine aB 189 2 ?_
    repeat' (first|(apply ax (f:=230);exact rfl;exact rfl;exact FnIn.msub (hs1 _) (MSub.pick pK (MSub.refl _));rintro _ _ ⟨rfl,rfl⟩)|(apply ax (f:=231);exact rfl;exact rfl;exact FnIn.msub (hs2 _) (MSub.pick pK (MSub.refl _));rintro _ _ ⟨rfl,rfl⟩)|refine sT ?_|refine sS ?_|refine sT2 ?_|refine sN ?_|refine sM fun _=> ?_|(refine sC ?_ ?_<;>intro hb<;>try omega)|fail)
    all_goals try (exfalso;omega)
    refine aw [0,1,33,34] rfl (fun y:Nat × Option Nat × Nat=> [(10,sl y.2.1 (dZ ((C.take y.1).filter (qx lo hi)) hi).length y.2.2),(35,.int .i64 (y.1:Int))]) (fun y=> [.own y.2.1 189 2 (dZ ((C.take y.1).filter (qx lo hi)) hi).length y.2.2 ((dZ ((C.take y.1).filter (qx lo hi)) hi).flatMap dB),.own A 3 1 C.length c (C.map du)]) (fun y=>y.1≤C.length) (fun y=>C.length - y.1) (0,none,0) (Rd _) sB mS ?_
    rintro ⟨k,A2,c2⟩ hk
    dsimp only at hk ⊢
    by_cases hlk:k<C.length
    · refine dN (A:=A) pK (by omega) fun gc hA=> ?_
      subst hA
      have hrd:(C.map du)[0+k*1]? =some (.int .i64 C[k]):=K8 hlk
      have hxb:=hbd _ (RN hlk)
      have hfs:(C.take (k+1)).filter (qx lo hi)=if qx lo hi C[k]=true then (C.take k).filter (qx lo hi)++ [C[k]] else (C.take k).filter (qx lo hi):=by
        rw [Ra hlk,List.filter_append]
        cases h:qx lo hi C[k]<;>simp [h]
      have hfl:((C.take k).filter (qx lo hi)).length≤300000:=RB (TW _ _) (by rw [RF];omega)
      generalize hx:C[k]=x at hrd hxb hfs
      generalize hF:(C.take k).filter (qx lo hi)=Fk at hfs hfl
      have hpl:=mH hi Fk
      by_cases hin:lo≤x∧x≤hi
      · have hin2:qx lo hi x=true:=by simp [qx,hin.1,hin.2]
        rw [if_pos hin2] at hfs
        have hsn:=kQ x hi Fk
        rw [← hfs] at hsn
        have hpl2:=mH (x - 1) Fk
        by_cases h0:Fk= []
        · subst h0
          rw [show dZ [] (x - 1)= [] from rfl,QW] at hsn
          repeat' (first|(apply ak (d:=37);exact rfl;apply aj (j:=k);exact rfl;exact rfl;exact hlk)|(apply ak (d:=38);exact rfl;apply aV;exact rfl;exact pK;exact hrd)|(apply ak;exact rfl;apply oU;(iterate 5 exact rfl))|(apply aQ (A:=A2) (m:=1);(iterate 3 exact rfl);exact pK;(intro w hm;exact hm.cells_own pK);exact rfl;(simp [Value.oneCell',sl]);omega;(simp only [maxLen];omega);(intro A' cap' hA'))|refine sT ?_|refine sS ?_|refine sT2 ?_|refine sN ?_|refine sJ ?_|refine sO ?_|refine sM fun _=> ?_|(refine sC ?_ ?_<;>intro hb<;>try omega)|fail)
          all_goals first
            |(exfalso;omega)
            | (refine ⟨(k + 1, A', cap'), hlk, by dsimp only; omega, ?_, by exact sB, ?_⟩
               · dsimp only;rw [hsn];exact sB
               · dsimp only;rw [hsn];exact mS)
        · have hpos:0<Fk.length:=SJ.2 h0
          have hset:=Jc (h:=hi) (x:=x) h0
          rw [hpl] at hset
          refine dN (A:=A2) pK (by omega) fun g2 hA=> ?_
          subst hA
          rw [hpl]
          repeat' (first|(apply ak (d:=37);exact rfl;apply aj (j:=k);exact rfl;exact rfl;exact hlk)|(apply ak (d:=38);exact rfl;apply aV;exact rfl;exact pK;exact hrd)|(apply ak (d:=53);exact rfl;apply eC (a:=Fk.length);exact rfl;exact rfl;omega;(simp only [maxLen];omega))|(apply ak (d:=56);exact rfl;apply aj (j:=Fk.length - 1);exact rfl;exact rfl;omega)|(apply jF (v:=du (x - 1)) (off:=0+(Fk.length - 1)*2+1);exact rfl;exact rfl;exact pK;exact rfl;(rw [aM jY,hpl];omega);rw [hset])|(apply ak;exact rfl;apply oU;(iterate 5 exact rfl))|(apply aQ (A:=some g2) (m:=1);(iterate 3 exact rfl);exact pK;(intro w hm;exact hm.cells_own pK);exact rfl;(simp [Value.oneCell',sl]);omega;(simp only [maxLen];omega);(intro A' cap' hA'))|refine sT ?_|refine sS ?_|refine sT2 ?_|refine sN ?_|refine sJ ?_|refine sO ?_|refine sM fun _=> ?_|(refine sC ?_ ?_<;>intro hb<;>try omega)|fail)
          all_goals first
            |(exfalso;omega)
            | (refine ⟨(k + 1, A', cap'), hlk, by dsimp only; omega, ?_, by exact sB, ?_⟩
               · dsimp only;rw [hsn,List.length_append,hpl2];exact sB
               · dsimp only;rw [hsn,List.length_append,hpl2,List.flatMap_append];exact mS)
      · have hin2: ¬ qx lo hi x=true:=by simp only [qx,Rk,decide_eq_true_eq];exact hin
        rw [if_neg hin2] at hfs
        repeat' (first|(apply ak (d:=37);exact rfl;apply aj (j:=k);exact rfl;exact rfl;exact hlk)|(apply ak (d:=38);exact rfl;apply aV;exact rfl;exact pK;exact hrd)|refine sT ?_|refine sS ?_|refine sT2 ?_|refine sN ?_|refine sJ ?_|refine sO ?_|refine sM fun _=> ?_|(refine sC ?_ ?_<;>intro hb<;>try omega)|fail)
        all_goals first
          |(exfalso;omega)
          | (refine ⟨(k + 1, A2, c2), hlk, by dsimp only; omega, ?_, by exact sB, ?_⟩
             · dsimp only;rw [hfs];exact sB
             · dsimp only;rw [hfs];exact mS)
    · have e:k=C.length:=by omega
      subst e
      rw [RJ]
      repeat' (first|refine sT ?_|refine sS ?_|refine sT2 ?_|refine sM fun _=> ?_|(refine sC ?_ ?_<;>intro hb<;>try omega)|fail)
      all_goals first
        |(exfalso;omega)
        |(exact cA eIO rfl rfl mS ⟨A2,c2,rfl,rfl⟩)
end Go.SL
namespace Go.SL
open Go Go.Proofs
attribute [local irreducible] W WL WQ WG WA WX WLI WR WT WC VOp RW thn blk bp scp aR ba bE aF FnIn FnP ceP
def Lv.end (y:Lv) (x:Cx) (t:Tk) (fn:Int) (n k m:Nat) (r:Out):Prop:=n≤1000∧k≤y.k∧y.out.length+k≤m+y.k∧
 ((y.a=0∧y.e=0∧y.k≤x.toks.length∧n≤y.out.length∧dg x.fin t fn n ⟨x.toks.drop y.k,y.out⟩=some r)∨(y.e≠0∧y.k≤x.toks.length+1∧r= .error (y.a,y.e)))
def Lv.arg (y:Lv) (x:Cx) (fn:Int) (n k m:Nat) (r:Out) (f:Nat):Prop:=y.f≤f∧n≤1000∧k≤y.k∧y.out.length+k≤m+y.k∧
 ((y.a=0∧y.e=0∧y.k≤x.toks.length∧n≤y.out.length∧(if (hdT x.fin (x.toks.drop y.k)).kind=11 then bz x.fin y.f (.args fn n) ⟨x.toks.drop (y.k+1),y.out⟩ else some (.ok (n,⟨x.toks.drop y.k,y.out⟩)))=some r)∨(y.e≠0∧y.k≤x.toks.length+1∧r= .error (y.a,y.e)))
theorem zt {x:Cx} {R H:List Blk} {v:Value} {f f' k m k0 m0 n:Nat} {fn:Int} {p:PS} {r r1:Out} (hf:f≤f') (hr1:Bd f fn n x.fin p=some r1) (hm0:p.out.length=m0) (hn:n≤m0) (hm6:m0≤500)
  (hr2:(∃ e,r1= .error e∧r= .error e)∨(∃ n' p',r1= .ok (n',p')∧(if (hdT x.fin p'.l).kind=11 then bz x.fin f (.args fn (n+1)) p'.skip else some (.ok (n+1,p')))=some r)) (hR:RR x k0 m0 R r1 v H) (hk:k≤k0) (hm:m0+k≤m+k0):
  ∃ f2 k2 B2 cb2 o2 a2 e2,(Lv.mk f2 k2 B2 cb2 o2 a2 e2).arg x fn (n+1) k m r f' ∧f2≤f∧H=x.B k2 B2 cb2 o2 a2 e2++R:=by
 obtain ⟨_,hR⟩:=hR
 rcases hr2 with ⟨e,rfl,rfl⟩|⟨n1,p1,rfl,hr2⟩
 ·
  obtain ⟨k1,B1,cb1,o1,h1,h2,h3,h4,rfl⟩:=hR
  exact ⟨f,k1,B1,cb1,o1,e.1,e.2,⟨hf,by omega,by dsimp only;omega,by dsimp only;omega,.inr ⟨h1,h2,rfl⟩⟩,Nat.le_refl _,rfl⟩
 ·
  obtain ⟨k1,B1,cb1,h1,h2,h3,h4,rfl⟩:=hR
  have hg:=tJ hr1
  refine ⟨f,k1,B1,cb1,p1.out,0,0,⟨hf,by omega,by dsimp only;omega,by dsimp only;omega,.inl ⟨rfl,rfl,h1,by dsimp only;omega,?_⟩⟩,Nat.le_refl _,rfl⟩
  dsimp only
  rw [h2] at hr2
  have e1:p1.skip=⟨x.toks.drop (k1+1),p1.out⟩:=by simp only [PS.skip,h2,TE]
  have e2:p1=⟨x.toks.drop k1,p1.out⟩:=by obtain ⟨l,o⟩:=p1;simp only at h2;rw [h2]
  rw [e1] at hr2
  rw [← e2]
  exact hr2
set_option maxHeartbeats 4000000 in
theorem Le (f:Nat) (t:Tk) (ih: ∀ f' ≤f,py f' (.level 1) 195 [.int .i64 1]) (x:Cx) (k:Nat) (p:PS) (B:Option Nat) (cb:Nat) (r:Out) (R:List Blk) (w0:World) (hk:k<x.toks.length) (hp:p.l=x.toks.drop k) (hout:p.out.length≤k) (ht:hdT x.fin p.l=t) (ht7:t.kind=7) (hrun:xz f t x.fin p=some r):
    FnIn Tryz.prog 348 [.pointer (some ⟨x.g,0,none⟩),.agg (bi t).toArray] w0 (x.B (k+1) B cb p.out 0 0++R) (RR x (k+1) p.out.length R r):=by
  refine eQ Tryz.func348 rfl Tryz.ntmps348 rfl ?_
  have hxt:=x.ht
  have hF:=fun w=>wm t.text w
  have h9:(hdT x.fin p.skip.l).kind=9:=by
    have hc:=x.hc.drop k
    rw [← hp] at hc
    exact hc.name (by rw [ht];exact ht7)
  have hd9: ∃ u,hdT x.fin (x.toks.drop (k+1))=u∧u.kind=9:=⟨_,rfl,by rw [← Cx.skip hp];exact h9⟩
  obtain ⟨u9,hd9,hu9⟩:=hd9
  have hlt9:=Cx.lt hd9 (by omega)
  unfold xz at hrun
  have hfn:(bg t.text).2=0→1≤(bg t.text).1∧(bg t.text).1≤50:=by
    intro h
    have hb1:=jl dr t.text 0 (by omega)
    rw [ji] at hb1
    unfold bg at h ⊢
    split at h
    · cases h
    · rename_i hne
      rw [if_neg hne]
      dsimp only
      omega
  obtain ⟨fn,fe,hfe⟩: ∃ fn fe,bg t.text=(fn,fe):=⟨_,_,rfl⟩
  rw [hfe] at hrun hF hfn
  dsimp only at hF hfn
  by_cases h0:fe≠0
  · rw [if_pos h0] at hrun
    cases hrun
    repeat' (first|(apply aa (f:=364);exact rfl;exact rfl;(intro w' _;exact hF w'))|(apply ax (f:=196);exact rfl;exact rfl;exact FnIn.msub (fQ x.g x.sa x.A _ x.cap (k+1) B _ cb 0 0 _ _ _ _) (MSub.pick pK (.refl _));rintro _ _ ⟨rfl,rfl⟩)|refine sT ?_|refine sS ?_|refine sN ?_|refine sM fun _=> ?_|(refine sC ?_ ?_<;>intro hb<;>try omega)|exact cT|fail)
    all_goals first
      |(exfalso;omega)
      | (refine fH (x' := (t.at_, 10)) (k' := k + 1) (out' := p.out) (B' := B) (cb' := cb) eIO rfl (by simp) (by omega) (Re _) (Re _) ?_
         simp only [Cx.B,rB,Rj,QU,QW]
         exact mS)
  rw [if_neg h0] at hrun
  have hfe0:fe=0:=Classical.not_not.1 h0
  subst hfe0
  obtain ⟨hf1,hf2⟩:=hfn rfl
  rw [if_neg (by rw [h9];simp)] at hrun
  have hp2:p.skip.skip.l=x.toks.drop (k+1+1):=Cx.skip (Cx.skip hp)
  obtain ⟨u,hd⟩: ∃ u,hdT x.fin (x.toks.drop (k+1+1))=u:=⟨_,rfl⟩
  rw [hp2,hd] at hrun
  have e2:p.skip.skip=⟨x.toks.drop (k+1+1),p.out⟩:=by
    have:p.skip.skip=⟨p.skip.skip.l,p.out⟩:=rfl
    rw [this,hp2]
  rw [e2] at hrun
  repeat' (first|(apply aa (f:=364);exact rfl;exact rfl;(intro w' _;exact hF w'))|(apply ax (f:=347);exact rfl;exact rfl;exact FnIn.msub (lQ 9 (RB x.hsa (by decide)) (RB x.ht (by decide)) (by omega) (B:=B) (cb:=cb) (out:=p.out) (at_:=0) (e:=0) (g:=x.g) (A:=x.A) (cap:=x.cap) hd9 hu9 _ w0) (MSub.pick pK (MSub.pick pK (MSub.pick pK (MSub.refl _))));rintro _ _ ⟨rfl,rfl⟩)|(rename_i g3;refine GQ (id:=6) (ι:=Nat × Lv) [0,3,4] rfl (fun y=> [(6,.int .i64 (y.1:Int))]) (fun y=> .box g3 228 (bi t)::y.2.H x R) (fun y=>y.2.end x t fn y.1 (k+1+1) p.out.length r) ?_ ?_)|refine sT ?_|refine sS ?_|refine sN ?_|refine sM fun _=> ?_|(refine sC ?_ ?_<;>intro hb<;>try omega)|exact cT|fail)
  · by_cases h10:u.kind=10
    · rw [if_pos h10] at hrun
      repeat' (first|(apply ak;exact rfl;apply dR;exact rfl;exact rfl)|(apply aa (f:=197);exact rfl;exact rfl;exact fun w hm=>Cx.next hd (B:=B) (cb:=cb) (out:=p.out) (at_:=0) (e:=0) (MSub.pick pK (MSub.pick pK (MSub.pick pK (MSub.nil _)))) w hm)|(refine cG (0,⟨0,k+1+1,B,cb,p.out,0,0⟩) ?_ sB (by simp only [Lv.H,Cx.B,rB,QU,QW];exact mS))|refine sT ?_|refine sS ?_|refine sN ?_|refine sM fun _=> ?_|(refine sC ?_ ?_<;>intro hb<;>try omega)|exact cT|fail)
      all_goals first|(exfalso;omega)|exact ⟨Nat.zero_le _,Nat.le_refl _,by dsimp only;omega,.inl ⟨rfl,rfl,by dsimp only;omega,Nat.zero_le _,hrun⟩⟩
    · rw [if_neg h10] at hrun
      obtain ⟨r0,hr0,hrend⟩:=bG hrun
      cases f with
      |zero=>cases hr0
      |succ f=>
        rw [Bc] at hr0
        obtain ⟨r1,hr1,hr2⟩:=bG hr0
        have hA0:=ru f fn 0 hf1 hf2 (ih f (Tz f))
        repeat' (first|(apply ak;exact rfl;apply dR;exact rfl;exact rfl)|(apply aa (f:=197);exact rfl;exact rfl;exact fun w hm=>Cx.next hd (B:=B) (cb:=cb) (out:=p.out) (at_:=0) (e:=0) (MSub.pick pK (MSub.pick pK (MSub.pick pK (MSub.nil _)))) w hm)|(apply ax (f:=365);exact rfl;exact rfl;exact FnIn.msub (hA0 x (k+1+1) ⟨x.toks.drop (k+1+1),p.out⟩ B cb r1 _ w0 (by omega) rfl (by dsimp only;omega) hr1) (MSub.pick pK (MSub.pick pK (MSub.pick pK (MSub.refl _))));rintro v1 H1 hR;obtain ⟨f2,k2,B2,cb2,o2,a2,e2,hy,_,rfl⟩:=zt (f' :=f) (k:=k+1+1) (m:=p.out.length) (Nat.le_refl _) hr1 rfl (Nat.zero_le _) (by dsimp only;omega) hr2 hR (Nat.le_refl _) (Nat.le_refl _))|refine sT ?_|refine sS ?_|refine sN ?_|refine sM fun _=> ?_|(refine sC ?_ ?_<;>intro hb<;>try omega)|exact cT|fail)
        all_goals try (exfalso;omega)
        refine aw [0,3,4] rfl (fun y:Nat × Lv=> [(6,.int .i64 (y.1:Int))]) (fun y=> .box g3 228 (bi t)::y.2.H x R) (fun y=>y.2.arg x fn y.1 (k+1+1) p.out.length r0 f) (fun y=>y.2.m) (1,⟨f2,k2,B2,cb2,o2,a2,e2⟩) hy sB (by simp only [Lv.H,Cx.B,rB,Rj,QU,QW];exact mS) ?_
        clear hy hR hr1 hr2 hr0
        rintro ⟨n,f',k1,B1,cb1,o1,a,e⟩ ⟨hf',hn,h3,h4,hor⟩
        dsimp only at hf' hn h3 h4 hor
        simp only [Lv.H]
        rcases hor with ⟨rfl,rfl,h1,hno,hr2⟩|⟨h1,h2,rfl⟩
        · obtain ⟨u1,hd1⟩: ∃ u,hdT x.fin (x.toks.drop k1)=u:=⟨_,rfl⟩
          rw [hd1] at hr2
          by_cases h11:u1.kind=11
          · rw [if_pos h11] at hr2
            have hlt1:=Cx.lt hd1 (by omega)
            cases f' with
            |zero=>cases hr2
            |succ f' =>
              rw [Bc] at hr2
              obtain ⟨r2,hr3,hr4⟩:=bG hr2
              have hA1:=ru f' fn n hf1 hf2 (ih f' (by omega))
              repeat' (first|(apply ak;exact rfl;apply dR;exact rfl;exact rfl)|(apply aa (f:=197);exact rfl;exact rfl;exact fun w hm=>Cx.next hd1 (B:=B1) (cb:=cb1) (out:=o1) (at_:=0) (e:=0) (MSub.pick pK (MSub.pick pK (MSub.pick pK (MSub.nil _)))) w hm)|(apply ax (f:=365);exact rfl;exact rfl;exact FnIn.msub (hA1 x (k1+1) ⟨x.toks.drop (k1+1),o1⟩ B1 cb1 r2 _ w0 hlt1 rfl (by dsimp only;omega) hr3) (MSub.pick pK (MSub.pick pK (MSub.pick pK (MSub.refl _))));rintro v1 H1 hR;obtain ⟨f2,k2,B2,cb2,o2,a2,e2,hy,hff,rfl⟩:=zt (f' :=f) (k:=k+1+1) (m:=p.out.length) (by omega) hr3 rfl hno (by dsimp only;omega) hr4 hR (by omega) (by dsimp only;omega))|refine sT ?_|refine sS ?_|refine sN ?_|refine sM fun _=> ?_|(refine sC ?_ ?_<;>intro hb<;>try omega)|exact cT|fail)
              all_goals first|(exfalso;omega)|(exfalso;simp_all;done)|skip
              refine ⟨(n+1,⟨f2,k2,B2,cb2,o2,a2,e2⟩),hy,(by simp only [Lv.m,if_true];split<;>omega),sB,sB,?_⟩
              simp only [Lv.H,Cx.B,rB,Rj,QU,QW]
              exact mS
          · rw [if_neg h11] at hr2
            cases hr2
            repeat' (first|(apply ak;exact rfl;apply dR;exact rfl;exact rfl)|(apply aa (f:=197);exact rfl;exact rfl;exact fun w hm=>Cx.next hd1 (B:=B1) (cb:=cb1) (out:=o1) (at_:=0) (e:=0) (MSub.pick pK (MSub.pick pK (MSub.pick pK (MSub.nil _)))) w hm)|(refine cG (n,⟨0,k1,B1,cb1,o1,0,0⟩) ?_ sB (by simp only [Lv.H,Cx.B,rB,Rj,QU,QW];exact mS))|refine sT ?_|refine sS ?_|refine sN ?_|refine sM fun _=> ?_|(refine sC ?_ ?_<;>intro hb<;>try omega)|exact cT|fail)
            all_goals first|(exfalso;omega)|(exfalso;simp_all;done)|skip
            rcases hrend with ⟨e,h,_⟩|⟨n3,p3,h,h7⟩
            · cases h
            · cases h
              exact ⟨hn,h3,h4,.inl ⟨rfl,rfl,h1,hno,h7⟩⟩
        · repeat' (first|(refine cG (n,⟨0,k1,B1,cb1,o1,a,e⟩) ?_ sB (by simp only [Lv.H,Cx.B,rB,Rj,QU,QW];exact mS))|refine sT ?_|refine sS ?_|refine sN ?_|refine sM fun _=> ?_|(refine sC ?_ ?_<;>intro hb<;>try omega)|exact cT|fail)
          all_goals first|(exfalso;omega)|exact absurd (by assumption) h1|skip
          rcases hrend with ⟨e',h,h8⟩|⟨n3,p3,h,h7⟩
          · cases h
            exact ⟨hn,h3,h4,.inr ⟨h1,h2,h8⟩⟩
          · cases h
  · rintro ⟨n,f',k1,B1,cb1,o1,a,e⟩ ⟨hn,h3,h4,hor⟩
    dsimp only at hn h3 h4 hor
    simp only [Lv.H]
    clear hrun
    rcases hor with ⟨rfl,rfl,h1,hno,hend⟩|⟨h1,h2,rfl⟩
    rotate_left
    · repeat' (first|refine sT ?_|refine sS ?_|refine sN ?_|refine sM fun _=> ?_|(refine sC ?_ ?_<;>intro hb<;>try omega)|exact cT|fail)
      all_goals first
        |(exfalso;omega)
        |exact absurd (by assumption) h1
        | (refine fH (x' := (a, e)) (k' := k1) (out' := o1) (B' := B1) (cb' := cb1) eIO rfl h1 h2 (by omega) (by omega) ?_
           simp only [Cx.B,rB,Rj,QU,QW]
           exact mS)
    have hA:=fun w=>kN fn w
    have hak:=kZ (fn:=fn) (by simp [cO,hf1,hf2])
    have hap:=zr hf1 hf2
    rw [hak] at hap
    obtain ⟨least,most,hlm⟩: ∃ a b,bO fn=(a,b):=⟨_,_,rfl⟩
    rw [hlm] at hak hA hap
    dsimp only at hak hA hap
    obtain ⟨u1,hd1⟩: ∃ u,hdT x.fin (x.toks.drop k1)=u:=⟨_,rfl⟩
    by_cases h10:u1.kind≠10
    · have hr' :r= .error (u1.at_,4):=by
        simp only [dg,hd1,if_pos h10] at hend
        exact (Option.some.inj hend).symm
      subst hr'
      repeat' (first|(apply ax (f:=347);exact rfl;exact rfl;exact FnIn.msub (wo 10 (RB x.hsa (by decide)) (RB x.ht (by decide)) (B:=B1) (cb:=cb1) (out:=o1) (at_:=0) (e:=0) (g:=x.g) (A:=x.A) (cap:=x.cap) hd1 h10 _ w0) (MSub.pick pK (MSub.pick pK (MSub.pick pK (MSub.refl _))));rintro _ _ ⟨rfl,rfl⟩)|(apply aa (f:=327);exact rfl;exact rfl;(intro w' _;exact hA w'))|(apply ax (f:=196);exact rfl;exact rfl;exact FnIn.msub (fQ x.g x.sa x.A _ x.cap k1 B1 _ cb1 u1.at_ 4 _ _ _ _) (MSub.pick pK (.refl _));rintro _ _ ⟨rfl,rfl⟩)|refine sT ?_|refine sS ?_|refine sN ?_|refine sM fun _=> ?_|(refine sC ?_ ?_<;>intro hb<;>try omega)|exact cT|fail)
      all_goals first
        |(exfalso;omega)
        |(exfalso;simp_all;done)
        | (refine fH (x' := (u1.at_, 4)) (k' := k1) (out' := o1) (B' := B1) (cb' := cb1) eIO rfl (by simp) (by omega) (by omega) (by (try simp only [QT, QX]); omega) ?_
           simp only [Cx.B,rB,QT,QX,Rn,Rm,Ry,QZ,Rj,QU,QW]
           exact mS)
    have h10:u1.kind=10:=Classical.not_not.1 h10
    have hlt1:=Cx.lt hd1 (by omega)
    by_cases hr:(n:Int)<least∨most<(n:Int)
    · have hr' :r= .error (t.at_,11):=by
        simp only [dg,hd1,h10,hak,if_pos hr] at hend
        exact (Option.some.inj hend).symm
      subst hr'
      repeat' (first|(apply ax (f:=347);exact rfl;exact rfl;exact FnIn.msub (lQ 10 (RB x.hsa (by decide)) (RB x.ht (by decide)) (by omega) (B:=B1) (cb:=cb1) (out:=o1) (at_:=0) (e:=0) (g:=x.g) (A:=x.A) (cap:=x.cap) hd1 h10 _ w0) (MSub.pick pK (MSub.pick pK (MSub.pick pK (MSub.refl _))));rintro _ _ ⟨rfl,rfl⟩)|(apply aa (f:=327);exact rfl;exact rfl;(intro w' _;exact hA w'))|(apply ax (f:=196);exact rfl;exact rfl;exact FnIn.msub (fQ x.g x.sa x.A _ x.cap (k1+1) B1 _ cb1 0 0 _ _ _ _) (MSub.pick pK (.refl _));rintro _ _ ⟨rfl,rfl⟩)|refine sT ?_|refine sS ?_|refine sN ?_|refine sM fun _=> ?_|(refine sC ?_ ?_<;>intro hb<;>try omega)|exact cT|fail)
      all_goals first
        |(exfalso;omega)
        |(exfalso;simp_all;done)
        | (refine fH (x' := (t.at_, 11)) (k' := k1 + 1) (out' := o1) (B' := B1) (cb' := cb1) eIO rfl (by simp) (by omega) (by omega) (by (try simp only [QT, QX]); omega) ?_
           simp only [Cx.B,rB,QT,QX,Rn,Rm,Ry,QZ,Rj,QU,QW]
           exact mS)
    have hpos:0<o1.length:=by omega
    obtain ⟨xn,hx⟩: ∃ xn,o1[o1.length - 1]? =some xn:=⟨_,QV (by omega)⟩
    rw [xg (p:=⟨x.toks.drop k1,o1⟩) hx] at hend
    dsimp only at hend
    rw [hd1,hak,if_neg (by rw [h10];simp)] at hend
    dsimp only at hend
    rw [if_neg hr] at hend
    refine dN (A:=B1) (by simp only [Cx.B,rB,Rj,QU,QW];exact pK) hpos fun gb hB=> ?_
    subst hB
    by_cases hkx:46≤fn∧xn.kind≠2∧xn.kind≠3
    · rw [if_pos hkx] at hend
      cases hend
      repeat' (first|(apply ax (f:=347);exact rfl;exact rfl;exact FnIn.msub (lQ 10 (RB x.hsa (by decide)) (RB x.ht (by decide)) (by omega) (B:=some gb) (cb:=cb1) (out:=o1) (at_:=0) (e:=0) (g:=x.g) (A:=x.A) (cap:=x.cap) hd1 h10 _ w0) (MSub.pick pK (MSub.pick pK (MSub.pick pK (MSub.refl _))));rintro _ _ ⟨rfl,rfl⟩)|(apply aa (f:=327);exact rfl;exact rfl;(intro w' _;exact hA w'))|(apply ib (id:=19);kernel_rfl;kernel_rfl)|(apply aK;exact rfl;apply eC;exact rfl;exact rfl;exact hpos;(simp only [maxLen];omega))|(apply aK;exact rfl;apply aj;exact rfl;exact rfl;omega)|(apply aK;exact rfl;apply kG (k:=0);exact dJ;exact rfl;exact pK;decide;exact hx;exact rfl)|(apply ax (f:=196);exact rfl;exact rfl;exact FnIn.msub (fQ x.g x.sa x.A _ x.cap (k1+1) (some gb) _ cb1 0 0 _ _ _ _) (MSub.pick pK (.refl _));rintro _ _ ⟨rfl,rfl⟩)|(apply aU;(iterate 3 exact rfl);exact pK;exact pK;exact rfl;(simp [bN,Value.oneCell']);omega;(simp only [maxLen];omega);intro g8 c8)|refine sT ?_|refine sS ?_|refine sQ ?_|refine sN ?_|refine sNQ ?_|refine sM fun _=> ?_|(refine sC ?_ ?_<;>intro hb<;>try omega)|(refine sCQ ?_ ?_<;>intro hb<;>try omega)|exact cT|fail)
      all_goals first
        |(exfalso;omega)
        |(exfalso;simp_all;done)
        | (refine fH (x' := (t.at_, 4)) (k' := k1 + 1) (out' := o1 ++ [⟨7, bI, aN, 0, fn, n⟩]) (B' := some g8) (cb' := c8) eIO rfl (by simp) (by omega) (by omega) (by (try simp only [QT, QX]); omega) ?_
           simp only [Cx.B,rB,QT,QX,Rn,Rm,Ry,QZ,Rj,QU,QW]
           exact mS)
    · rw [if_neg hkx] at hend
      cases hend
      repeat' (first|(apply ax (f:=347);exact rfl;exact rfl;exact FnIn.msub (lQ 10 (RB x.hsa (by decide)) (RB x.ht (by decide)) (by omega) (B:=some gb) (cb:=cb1) (out:=o1) (at_:=0) (e:=0) (g:=x.g) (A:=x.A) (cap:=x.cap) hd1 h10 _ w0) (MSub.pick pK (MSub.pick pK (MSub.pick pK (MSub.refl _))));rintro _ _ ⟨rfl,rfl⟩)|(apply aa (f:=327);exact rfl;exact rfl;(intro w' _;exact hA w'))|(apply ib (id:=19);kernel_rfl;kernel_rfl)|(apply aK;exact rfl;apply eC;exact rfl;exact rfl;exact hpos;(simp only [maxLen];omega))|(apply aK;exact rfl;apply aj;exact rfl;exact rfl;omega)|(apply aK;exact rfl;apply kG (k:=0);exact dJ;exact rfl;exact pK;decide;exact hx;exact rfl)|(apply aU;(iterate 3 exact rfl);exact pK;exact pK;exact rfl;(simp [bN,Value.oneCell']);omega;(simp only [maxLen];omega);intro g8 c8)|refine sT ?_|refine sS ?_|refine sQ ?_|refine sN ?_|refine sNQ ?_|refine sM fun _=> ?_|(refine sC ?_ ?_<;>intro hb<;>try omega)|(refine sCQ ?_ ?_<;>intro hb<;>try omega)|exact cT|fail)
      all_goals first
        |(exfalso;omega)
        |(exfalso;simp_all;done)
        | (refine kf (k' := k1 + 1) (p' := PS.put (PS.skip ⟨x.toks.drop k1, o1⟩) ⟨7, bI, aN, 0, fn, n⟩) (B' := some g8) (cb' := c8) eIO rfl hlt1 (Cx.skip rfl) (by omega) (by simp only [PS.put, PS.skip, QT, QX]; omega) ?_
           simp only [PS.put,PS.skip,Cx.B,rB,QT,QX,Rn,Rm,Ry,QZ,Rj,QU,QW]
           exact mS)
end Go.SL
namespace Go.SL
open Go Go.Proofs
def l6 (p:Nat × Nat):List Value:= [.int .i64 (p.1:Int),.int .i64 (p.2:Int)]
theorem KY (w:World) (d:Nat) (a b:Nat × Nat):(Op.equalIn (d+5) 189 (.agg (l6 a).toArray) (.agg (l6 b).toArray)).run Tryz.prog w= .ok (decide (a=b)) w:=by
 obtain ⟨i,h1,h2⟩:=(inferInstance:Size Tryz.prog 3 1).out
 have hc:Tryz.prog.cellsOf 3=1:=by kernel_rfl
 rw [run_equalIn_array w (d+4) (l6 a).toArray (l6 b).toArray Tryz.underlying189 h1,hc,show List.range 2= [0,1] from rfl]
 have hr: ∀ (a b:Int) w,(Op.equalIn (d+4) 3 (.int .i64 a) (.int .i64 b)).run Tryz.prog w= .ok (a==b) w:=fun a b w=>run_equalIn_int w (d+3) 3 .i64 .i64 a b Tryz.underlying3
 have hpa: ∀ (c:Nat × Nat) w,(part 3 (l6 c).toArray 0).run Tryz.prog w= .ok (.int .i64 (c.1:Int)) w:=by
  intro c w
  simp [part,go_sem,l6]
 have hpb: ∀ (c:Nat × Nat) w,(part 3 (l6 c).toArray 1).run Tryz.prog w= .ok (.int .i64 (c.2:Int)) w:=by
  intro c w
  simp [part,go_sem,l6]
 have he:decide (a=b)=((a.1:Int)==b.1 && (a.2:Int)==b.2):=by
  obtain ⟨a1,a2⟩:=a
  obtain ⟨b1,b2⟩:=b
  rw [RQ]
  simp
  omega
 rw [he]
 by_cases h1:((a.1:Int)==b.1)=true<;>by_cases h2:((a.2:Int)==b.2)=true<;>simp [Op.eqItems,hpa,hpb,hr,h1,h2]
theorem GU {w0:World} {s:az} {H:List Blk} {ty t' :TypeId} {x y:Operand} {a b:Nat × Nat} {c:Bool} (hc:decide (a=b)=c) (hx:ev s x=some (.agg (l6 a).toArray)) (hy:ev s y=some (.agg (l6 b).toArray)):VOp Tryz.prog w0 s H (.binOp .eql 189 x y t') ty (.bool c):=fun ρ w _ _ _ _ hρ _=>by
 subst hc
 have h:=KY w 9995 a b
 simp only [Nat.reduceAdd] at h
 simp only [execOp,hρ x _ hx,hρ y _ hy,Sem.run_bind,run_eqGuard_agg w _ _ _ _ _ _ Tryz.eqGuardType189,Result.andThen_ok,run_eql_struct,h,Sem.run_pure]
end Go.SL
namespace Go.SL
open Go Go.Proofs
attribute [local irreducible] W WL WQ WG WA WX WLI WR WT WC WE VOp RW thn blk bp scp aR ba bE aF FnIn FnP ceP
theorem HE {a b:Rct} (h:(eL a b).2=true):aO (eL a b).1=true:=by
 unfold eL at h ⊢
 split at h
 ·
  rename_i hall
  rw [if_pos hall]
  simp only [Tw,List.all_nil,Si,Rk] at hall
  exact hall.2.2
 ·
  cases h
theorem DU (r:Rct) (L:List Rl) (x:Rl):aZ r (L++ [x])=aZ r L++if (eL x.rect r).2=true then [((eL x.rect r).1.c1,(eL x.rect r).1.c2)] else []:=by
 unfold aZ;simp
theorem Cr (r:Rct) (L:List Rl) (x:Rl):aX r (L++ [x])=aX r L++if (eL x.rect r).2=true then [((eL x.rect r).1.r1,(eL x.rect r).1.r2)] else []:=by
 unfold aX;simp
theorem eY (r:Rct): ∀ L:List Rl,(aZ r L).length≤L.length
 | []=>Re _
 |x::L=>by
  have:=eY r L
  unfold aZ at this ⊢
  rw [Rm,QT]
  split<;>simp only [Rx,SP]<;>omega
theorem eU (r:Rct): ∀ L:List Rl,(aX r L).length≤L.length
 | []=>Re _
 |x::L=>by
  have:=eU r L
  unfold aX at this ⊢
  rw [Rm,QT]
  split<;>simp only [Rx,SP]<;>omega
theorem rV {r:Rct} {L:List Rl}: ∀ p∈aZ r L,0≤p.1∧p.1≤100000∧0≤p.2∧p.2≤100000:=fun p hp=>by
 obtain ⟨x,_,hx⟩:=Se.1 hp
 split at hx
 ·
  rename_i h
  have:=cX.1 (HE h)
  rw [Rp.1 hx]
  simp only;omega
 ·
  cases hx
theorem qX {r:Rct} {L:List Rl}: ∀ p∈aX r L,0≤p.1∧p.1≤100000∧0≤p.2∧p.2≤100000:=fun p hp=>by
 obtain ⟨x,_,hx⟩:=Se.1 hp
 split at hx
 ·
  rename_i h
  have:=cX.1 (HE h)
  rw [Rp.1 hx]
  simp only;omega
 ·
  cases hx
def tZ (g:Nat) (A:Option Nat) (c:Nat) (C:List (Int × Int)):List Blk:= [.box g 232 [sl A C.length c],.own A 189 2 C.length c (C.flatMap dB)]
set_option maxHeartbeats 8000000 in
theorem HA (r:Rct) (L:List Rl) (lv:Value) (gr gc gw:Nat) (A1 A2:Option Nat) (c1 c2:Nat) (C D:List (Int × Int)) (R:List Blk) (w0:World) (hl:Reads w0 lv L.length (L.flatMap bM)) (hC:C.length+L.length≤100000) (hD:D.length+L.length≤100000):
  FnIn Tryz.prog 180 [lv,.pointer (some ⟨gr,0,none⟩),.pointer (some ⟨gc,0,none⟩),.pointer (some ⟨gw,0,none⟩)] w0 (.box gr 32 (bL r)::(tZ gc A1 c1 C++(tZ gw A2 c2 D++R))) fun v H=>
   v= .tuple #[]∧ ∃ A1' c1' A2' c2',H= .box gr 32 (bL r)::(tZ gc A1' c1' (C++aZ r L)++(tZ gw A2' c2' (D++aX r L)++R)):=by
 obtain ⟨Al,cl,rfl,hl1,hl2,hl3⟩:=hl
 refine eQ Tryz.func180 rfl Tryz.ntmps180 rfl ?_
 simp only [tZ,Rj,QU,QW]
 repeat' (first|refine sT ?_|refine sS ?_|refine sM fun _=> ?_|(refine sC ?_ ?_<;>intro hb<;>try omega)|fail)
 refine aw [1,2,3,9,10] rfl (fun y:Nat × Option Nat × Nat × Option Nat × Nat=> [(11,.int .i64 (y.1:Int))]) (fun y=> .box gr 32 (bL r):: .box gc 232 [sl y.2.1 (C++aZ r (L.take y.1)).length y.2.2.1]:: .own y.2.1 189 2 (C++aZ r (L.take y.1)).length y.2.2.1 ((C++aZ r (L.take y.1)).flatMap dB):: .box gw 232 [sl y.2.2.2.1 (D++aX r (L.take y.1)).length y.2.2.2.2]:: .own y.2.2.2.1 189 2 (D++aX r (L.take y.1)).length y.2.2.2.2 ((D++aX r (L.take y.1)).flatMap dB)::R) (fun y=>y.1≤L.length) (fun y=>L.length - y.1) (0,A1,c1,A2,c2) (Rd _) sB (by simp only [Sj,aZ,aX,Ry,QZ];exact mS) ?_
 rintro ⟨i,A1,c1,A2,c2⟩ hi
 dsimp only at hi ⊢
 by_cases hlt:i<L.length
 ·
  obtain ⟨gl,ol,rfl,hrl⟩:=hl3 (by omega)
  have he1:=hrl.elem bV i hlt
  have hcs:=DU r (L.take i) L[i]
  have hws:=Cr r (L.take i) L[i]
  rw [← Ra hlt] at hcs hws
  have hcl:=eY r (L.take i)
  have hwl:=eU r (L.take i)
  rw [RF] at hcl hwl
  generalize L[i]=x at he1 hcs hws
  have hM:=fun w=>H4 x.rect r w
  generalize eL x.rect r=mt at hM hcs hws
  obtain ⟨mr,mb⟩:=mt
  dsimp only at hM hcs hws
  generalize aZ r (L.take i)=C1 at hcs hcl ⊢
  generalize aX r (L.take i)=D1 at hws hwl ⊢
  have hCl:(C++C1).length≤200000:=by rw [QT];omega
  have hDl:(D++D1).length≤200000:=by rw [QT];omega
  have hC2:C++aZ r (L.take (i+1))=(C++C1)++if mb=true then [(mr.c1,mr.c2)] else []:=by rw [hcs,Rz]
  have hD2:D++aX r (L.take (i+1))=(D++D1)++if mb=true then [(mr.r1,mr.r2)] else []:=by rw [hws,Rz]
  generalize C++C1=C3 at hC2 hCl ⊢
  generalize D++D1=D3 at hD2 hDl ⊢
  cases mb
  ·
   rw [if_neg (by decide),QZ] at hC2 hD2
   repeat' (first|(apply aa;exact rfl;exact rfl;(intro w hm;exact hM w))|refine sT ?_|refine sS ?_|refine sN ?_|refine sO ?_|refine sM fun _=> ?_|(refine sC ?_ ?_<;>intro hb<;>try omega)|fail)
   all_goals first
    |(exfalso;omega)
    |(refine ⟨(i+1,A1,c1,A2,c2),hlt,by dsimp only;omega,by exact sB,by exact sB,?_⟩;dsimp only;rw [hC2,hD2];exact mS)
  ·
   rw [if_pos rfl] at hC2 hD2
   have hC4:(C3++ [(mr.c1,mr.c2)]).flatMap dB=C3.flatMap dB++ [.int .i64 mr.c1,.int .i64 mr.c2]:=by simp [dB]
   have hD4:(D3++ [(mr.r1,mr.r2)]).flatMap dB=D3.flatMap dB++ [.int .i64 mr.r1,.int .i64 mr.r2]:=by simp [dB]
   repeat' (first|(apply aa;exact rfl;exact rfl;(intro w hm;exact hM w))|(apply ak;exact rfl;apply oU;(iterate 5 exact rfl))|(apply aQ (d:=30) (A:=A1) (m:=1);(iterate 3 exact rfl);exact pK;(intro w hm;exact hm.cells_own pK);exact rfl;(simp [Value.oneCell',sl]);omega;(simp only [maxLen];omega);(intro A3 c3 hA3))|(apply aQ (d:=38) (A:=A2) (m:=1);(iterate 3 exact rfl);exact pK;(intro w hm;exact hm.cells_own pK);exact rfl;(simp [Value.oneCell',sl]);omega;(simp only [maxLen];omega);(intro A4 c4 hA4))|refine sT ?_|refine sS ?_|refine sN ?_|refine sO ?_|refine sM fun _=> ?_|(refine sC ?_ ?_<;>intro hb<;>try omega)|fail)
   all_goals first
    |(exfalso;omega)
    |(refine ⟨(i+1,A3,c3,A4,c4),hlt,by dsimp only;omega,by exact sB,by exact sB,?_⟩;dsimp only;rw [hC2,hD2,hC4,hD4,List.length_append,List.length_append];exact mS)
 ·
  have e:i=L.length:=by omega
  subst e
  rw [RJ]
  repeat' (first|refine sT ?_|refine sS ?_|refine sM fun _=> ?_|(refine sC ?_ ?_<;>intro hb<;>try omega)|fail)
  all_goals first
   |(exfalso;omega)
   |(exact gC eIO rfl (.refl _) ⟨rfl,A1,c1,A2,c2,rfl⟩)
end Go.SL

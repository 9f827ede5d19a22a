/-
  Lemmas and walks, put together: Q5 R6 R7.
-/
import Derived.Test.YthefeclkaaocnaaGreatDoorKl21
import Derived.Test.YthefeclkaaocnaaGreatDoorKl22
set_option linter.unusedSimpArgs false
set_option linter.unusedVariables false
set_option maxRecDepth 20000
namespace Go.SL
open Go Go.Proofs
attribute [local irreducible] W WL WQ WG WA WX WLI WR WT WC VOp RW thn blk bS scp bq bF cj aS FnIn FnP ceP
def Lv.end (y:Lv) (x:Cx) (t:Tk) (fn:Int) (n k m:Nat) (r:Out):Prop:=n≤1000∧k≤y.k∧y.out.length+k≤m+y.k∧
 ((y.a=0∧y.e=0∧y.k≤x.toks.length∧n≤y.out.length∧da x.fin t fn n ⟨x.toks.drop y.k,y.out⟩=some r)∨(y.e≠0∧y.k≤x.toks.length+1∧r= .error (y.a,y.e)))
def Lv.arg (y:Lv) (x:Cx) (fn:Int) (n k m:Nat) (r:Out) (f:Nat):Prop:=y.f≤f∧n≤1000∧k≤y.k∧y.out.length+k≤m+y.k∧
 ((y.a=0∧y.e=0∧y.k≤x.toks.length∧n≤y.out.length∧(if (hdT x.fin (x.toks.drop y.k)).kind=11 then bB x.fin y.f (.args fn n) ⟨x.toks.drop (y.k+1),y.out⟩ else some (.ok (n,⟨x.toks.drop y.k,y.out⟩)))=some r)∨(y.e≠0∧y.k≤x.toks.length+1∧r= .error (y.a,y.e)))
theorem u5 {x:Cx} {R H:List Blk} {v:Value} {f f' k m k0 m0 n:Nat} {fn:Int} {p:PS} {r r1:Out} (hf:f≤f') (hr1:wG f fn n x.fin p=some r1) (hm0:p.out.length=m0) (hn:n≤m0) (hm6:m0≤500)
  (hr2:(∃ e,r1= .error e∧r= .error e)∨(∃ n' p',r1= .ok (n',p')∧(if (hdT x.fin p'.l).kind=11 then bB x.fin f (.args fn (n+1)) p'.skip else some (.ok (n+1,p')))=some r)) (hR:RR x k0 m0 R r1 v H) (hk:k≤k0) (hm:m0+k≤m+k0):
  ∃ f2 k2 B2 cb2 o2 a2 e2,(Lv.mk f2 k2 B2 cb2 o2 a2 e2).arg x fn (n+1) k m r f' ∧f2≤f∧H=x.B k2 B2 cb2 o2 a2 e2++R:=by
 obtain ⟨_,hR⟩:=hR
 rcases hr2 with ⟨e,rfl,rfl⟩|⟨n1,p1,rfl,hr2⟩
 ·
  obtain ⟨k1,B1,cb1,o1,h1,h2,h3,h4,rfl⟩:=hR
  exact ⟨f,k1,B1,cb1,o1,e.1,e.2,⟨hf,by omega,by dsimp only;omega,by dsimp only;omega,.inr ⟨h1,h2,rfl⟩⟩,Nat.le_refl _,rfl⟩
 ·
  obtain ⟨k1,B1,cb1,h1,h2,h3,h4,rfl⟩:=hR
  have hg:=pg hr1
  refine ⟨f,k1,B1,cb1,p1.out,0,0,⟨hf,by omega,by dsimp only;omega,by dsimp only;omega,.inl ⟨rfl,rfl,h1,by dsimp only;omega,?_⟩⟩,Nat.le_refl _,rfl⟩
  dsimp only
  rw [h2] at hr2
  have e1:p1.skip=⟨x.toks.drop (k1+1),p1.out⟩:=by simp only [PS.skip,h2,ND]
  have e2:p1=⟨x.toks.drop k1,p1.out⟩:=by obtain ⟨l,o⟩:=p1;simp only at h2;rw [h2]
  rw [e1] at hr2
  rw [← e2]
  exact hr2
set_option maxHeartbeats 4000000 in
theorem FM (f:Nat) (t:Tk) (ih: ∀ f' ≤f,l4 f' (.level 1) 256 [.int .i64 1]) (x:Cx) (k:Nat) (p:PS) (B:Option Nat) (cb:Nat) (r:Out) (R:List Blk) (w0:World) (hk:k<x.toks.length) (hp:p.l=x.toks.drop k) (hout:p.out.length≤k) (ht:hdT x.fin p.l=t) (ht7:t.kind=7) (hrun:sA f t x.fin p=some r):
    FnIn Tryz.prog 356 [.pointer (some ⟨x.g,0,none⟩),.agg (aZ t).toArray] w0 (x.B (k+1) B cb p.out 0 0++R) (RR x (k+1) p.out.length R r):=by
  refine dM Tryz.func356 rfl Tryz.ntmps356 rfl ?_
  have hxt:=x.ht
  have hF:=fun w=>rm t.text w
  have h9:(hdT x.fin p.skip.l).kind=9:=by
    have hc:=x.hc.drop k
    rw [← hp] at hc
    exact hc.name (by rw [ht];exact ht7)
  have hd9: ∃ u,hdT x.fin (x.toks.drop (k+1))=u∧u.kind=9:=⟨_,rfl,by rw [← Cx.skip hp];exact h9⟩
  obtain ⟨u9,hd9,hu9⟩:=hd9
  have hlt9:=Cx.lt hd9 (by omega)
  unfold sA at hrun
  have hfn:(aV t.text).2=0→1≤(aV t.text).1∧(aV t.text).1≤50:=by
    intro h
    have hb1:=gP cN t.text 0 (by omega)
    rw [gN] at hb1
    unfold aV at h ⊢
    split at h
    · cases h
    · rename_i hne
      rw [if_neg hne]
      dsimp only
      omega
  obtain ⟨fn,fe,hfe⟩: ∃ fn fe,aV t.text=(fn,fe):=⟨_,_,rfl⟩
  rw [hfe] at hrun hF hfn
  dsimp only at hF hfn
  by_cases h0:fe≠0
  · rw [if_pos h0] at hrun
    cases hrun
    repeat' (first|(apply aa (f:=370);exact rfl;exact rfl;(intro w' _;exact hF w'))|(apply aw (f:=257);exact rfl;exact rfl;exact FnIn.msub (eG x.g x.sa x.A _ x.cap (k+1) B _ cb 0 0 _ _ _ _) (MSub.pick pK (.refl _));rintro _ _ ⟨rfl,rfl⟩)|refine sT ?_|refine sS ?_|refine sN ?_|refine sM fun _=> ?_|(refine sC ?_ ?_<;>intro hb<;>try omega)|exact cT|fail)
    all_goals first
      |(exfalso;omega)
      | (refine ed (x' := (t.at_, 10)) (k' := k + 1) (out' := p.out) (B' := B) (cb' := cb) eIO rfl (by simp) (by omega) (LK _) (LK _) ?_
         simp only [Cx.B,rB,LO,LD,LG]
         exact mS)
  rw [if_neg h0] at hrun
  have hfe0:fe=0:=Classical.not_not.1 h0
  subst hfe0
  obtain ⟨hf1,hf2⟩:=hfn rfl
  rw [if_neg (by rw [h9];simp)] at hrun
  have hp2:p.skip.skip.l=x.toks.drop (k+1+1):=Cx.skip (Cx.skip hp)
  obtain ⟨u,hd⟩: ∃ u,hdT x.fin (x.toks.drop (k+1+1))=u:=⟨_,rfl⟩
  rw [hp2,hd] at hrun
  have e2:p.skip.skip=⟨x.toks.drop (k+1+1),p.out⟩:=by
    have:p.skip.skip=⟨p.skip.skip.l,p.out⟩:=rfl
    rw [this,hp2]
  rw [e2] at hrun
  repeat' (first|(apply aa (f:=370);exact rfl;exact rfl;(intro w' _;exact hF w'))|(apply aw (f:=355);exact rfl;exact rfl;exact FnIn.msub (jP 9 (Ma x.hsa (by decide)) (Ma x.ht (by decide)) (by omega) (B:=B) (cb:=cb) (out:=p.out) (at_:=0) (e:=0) (g:=x.g) (A:=x.A) (cap:=x.cap) hd9 hu9 _ w0) (MSub.pick pK (MSub.pick pK (MSub.pick pK (MSub.refl _))));rintro _ _ ⟨rfl,rfl⟩)|(rename_i g3;refine Ch (id:=6) (ι:=Nat × Lv) [0,3,4] rfl (fun y=> [(6,.int .i64 (y.1:Int))]) (fun y=> .box g3 295 (aZ t)::y.2.H x R) (fun y=>y.2.end x t fn y.1 (k+1+1) p.out.length r) ?_ ?_)|refine sT ?_|refine sS ?_|refine sN ?_|refine sM fun _=> ?_|(refine sC ?_ ?_<;>intro hb<;>try omega)|exact cT|fail)
  · by_cases h10:u.kind=10
    · rw [if_pos h10] at hrun
      repeat' (first|(apply ak;exact rfl;apply cJ;exact rfl;exact rfl)|(apply aa (f:=258);exact rfl;exact rfl;exact fun w hm=>Cx.next hd (B:=B) (cb:=cb) (out:=p.out) (at_:=0) (e:=0) (MSub.pick pK (MSub.pick pK (MSub.pick pK (MSub.nil _)))) w hm)|(refine cu (0,⟨0,k+1+1,B,cb,p.out,0,0⟩) ?_ sB (by simp only [Lv.H,Cx.B,rB,LD,LG];exact mS))|refine sT ?_|refine sS ?_|refine sN ?_|refine sM fun _=> ?_|(refine sC ?_ ?_<;>intro hb<;>try omega)|exact cT|fail)
      all_goals first|(exfalso;omega)|exact ⟨Nat.zero_le _,Nat.le_refl _,by dsimp only;omega,.inl ⟨rfl,rfl,by dsimp only;omega,Nat.zero_le _,hrun⟩⟩
    · rw [if_neg h10] at hrun
      obtain ⟨r0,hr0,hrend⟩:=bA hrun
      cases f with
      |zero=>cases hr0
      |succ f=>
        rw [wF] at hr0
        obtain ⟨r1,hr1,hr2⟩:=bA hr0
        have hA0:=nB f fn 0 hf1 hf2 (ih f (NX f))
        repeat' (first|(apply ak;exact rfl;apply cJ;exact rfl;exact rfl)|(apply aa (f:=258);exact rfl;exact rfl;exact fun w hm=>Cx.next hd (B:=B) (cb:=cb) (out:=p.out) (at_:=0) (e:=0) (MSub.pick pK (MSub.pick pK (MSub.pick pK (MSub.nil _)))) w hm)|(apply aw (f:=371);exact rfl;exact rfl;exact FnIn.msub (hA0 x (k+1+1) ⟨x.toks.drop (k+1+1),p.out⟩ B cb r1 _ w0 (by omega) rfl (by dsimp only;omega) hr1) (MSub.pick pK (MSub.pick pK (MSub.pick pK (MSub.refl _))));rintro v1 H1 hR;obtain ⟨f2,k2,B2,cb2,o2,a2,e2,hy,_,rfl⟩:=u5 (f' :=f) (k:=k+1+1) (m:=p.out.length) (Nat.le_refl _) hr1 rfl (Nat.zero_le _) (by dsimp only;omega) hr2 hR (Nat.le_refl _) (Nat.le_refl _))|refine sT ?_|refine sS ?_|refine sN ?_|refine sM fun _=> ?_|(refine sC ?_ ?_<;>intro hb<;>try omega)|exact cT|fail)
        all_goals try (exfalso;omega)
        refine ax [0,3,4] rfl (fun y:Nat × Lv=> [(6,.int .i64 (y.1:Int))]) (fun y=> .box g3 295 (aZ t)::y.2.H x R) (fun y=>y.2.arg x fn y.1 (k+1+1) p.out.length r0 f) (fun y=>y.2.m) (1,⟨f2,k2,B2,cb2,o2,a2,e2⟩) hy sB (by simp only [Lv.H,Cx.B,rB,LO,LD,LG];exact mS) ?_
        clear hy hR hr1 hr2 hr0
        rintro ⟨n,f',k1,B1,cb1,o1,a,e⟩ ⟨hf',hn,h3,h4,hor⟩
        dsimp only at hf' hn h3 h4 hor
        simp only [Lv.H]
        rcases hor with ⟨rfl,rfl,h1,hno,hr2⟩|⟨h1,h2,rfl⟩
        · obtain ⟨u1,hd1⟩: ∃ u,hdT x.fin (x.toks.drop k1)=u:=⟨_,rfl⟩
          rw [hd1] at hr2
          by_cases h11:u1.kind=11
          · rw [if_pos h11] at hr2
            have hlt1:=Cx.lt hd1 (by omega)
            cases f' with
            |zero=>cases hr2
            |succ f' =>
              rw [wF] at hr2
              obtain ⟨r2,hr3,hr4⟩:=bA hr2
              have hA1:=nB f' fn n hf1 hf2 (ih f' (by omega))
              repeat' (first|(apply ak;exact rfl;apply cJ;exact rfl;exact rfl)|(apply aa (f:=258);exact rfl;exact rfl;exact fun w hm=>Cx.next hd1 (B:=B1) (cb:=cb1) (out:=o1) (at_:=0) (e:=0) (MSub.pick pK (MSub.pick pK (MSub.pick pK (MSub.nil _)))) w hm)|(apply aw (f:=371);exact rfl;exact rfl;exact FnIn.msub (hA1 x (k1+1) ⟨x.toks.drop (k1+1),o1⟩ B1 cb1 r2 _ w0 hlt1 rfl (by dsimp only;omega) hr3) (MSub.pick pK (MSub.pick pK (MSub.pick pK (MSub.refl _))));rintro v1 H1 hR;obtain ⟨f2,k2,B2,cb2,o2,a2,e2,hy,hff,rfl⟩:=u5 (f' :=f) (k:=k+1+1) (m:=p.out.length) (by omega) hr3 rfl hno (by dsimp only;omega) hr4 hR (by omega) (by dsimp only;omega))|refine sT ?_|refine sS ?_|refine sN ?_|refine sM fun _=> ?_|(refine sC ?_ ?_<;>intro hb<;>try omega)|exact cT|fail)
              all_goals first|(exfalso;omega)|(exfalso;simp_all;done)|skip
              refine ⟨(n+1,⟨f2,k2,B2,cb2,o2,a2,e2⟩),hy,(by simp only [Lv.m,if_true];split<;>omega),sB,sB,?_⟩
              simp only [Lv.H,Cx.B,rB,LO,LD,LG]
              exact mS
          · rw [if_neg h11] at hr2
            cases hr2
            repeat' (first|(apply ak;exact rfl;apply cJ;exact rfl;exact rfl)|(apply aa (f:=258);exact rfl;exact rfl;exact fun w hm=>Cx.next hd1 (B:=B1) (cb:=cb1) (out:=o1) (at_:=0) (e:=0) (MSub.pick pK (MSub.pick pK (MSub.pick pK (MSub.nil _)))) w hm)|(refine cu (n,⟨0,k1,B1,cb1,o1,0,0⟩) ?_ sB (by simp only [Lv.H,Cx.B,rB,LO,LD,LG];exact mS))|refine sT ?_|refine sS ?_|refine sN ?_|refine sM fun _=> ?_|(refine sC ?_ ?_<;>intro hb<;>try omega)|exact cT|fail)
            all_goals first|(exfalso;omega)|(exfalso;simp_all;done)|skip
            rcases hrend with ⟨e,h,_⟩|⟨n3,p3,h,h7⟩
            · cases h
            · cases h
              exact ⟨hn,h3,h4,.inl ⟨rfl,rfl,h1,hno,h7⟩⟩
        · repeat' (first|(refine cu (n,⟨0,k1,B1,cb1,o1,a,e⟩) ?_ sB (by simp only [Lv.H,Cx.B,rB,LO,LD,LG];exact mS))|refine sT ?_|refine sS ?_|refine sN ?_|refine sM fun _=> ?_|(refine sC ?_ ?_<;>intro hb<;>try omega)|exact cT|fail)
          all_goals first|(exfalso;omega)|exact absurd (by assumption) h1|skip
          rcases hrend with ⟨e',h,h8⟩|⟨n3,p3,h,h7⟩
          · cases h
            exact ⟨hn,h3,h4,.inr ⟨h1,h2,h8⟩⟩
          · cases h
  · rintro ⟨n,f',k1,B1,cb1,o1,a,e⟩ ⟨hn,h3,h4,hor⟩
    dsimp only at hn h3 h4 hor
    simp only [Lv.H]
    clear hrun
    rcases hor with ⟨rfl,rfl,h1,hno,hend⟩|⟨h1,h2,rfl⟩
    rotate_left
    · repeat' (first|refine sT ?_|refine sS ?_|refine sN ?_|refine sM fun _=> ?_|(refine sC ?_ ?_<;>intro hb<;>try omega)|exact cT|fail)
      all_goals first
        |(exfalso;omega)
        |exact absurd (by assumption) h1
        | (refine ed (x' := (a, e)) (k' := k1) (out' := o1) (B' := B1) (cb' := cb1) eIO rfl h1 h2 (by omega) (by omega) ?_
           simp only [Cx.B,rB,LO,LD,LG]
           exact mS)
    have hA:=fun w=>jd fn w
    have hak:=jn (fn:=fn) (by simp [cO,hf1,hf2])
    have hap:=u4 hf1 hf2
    rw [hak] at hap
    obtain ⟨least,most,hlm⟩: ∃ a b,bD fn=(a,b):=⟨_,_,rfl⟩
    rw [hlm] at hak hA hap
    dsimp only at hak hA hap
    obtain ⟨u1,hd1⟩: ∃ u,hdT x.fin (x.toks.drop k1)=u:=⟨_,rfl⟩
    by_cases h10:u1.kind≠10
    · have hr' :r= .error (u1.at_,4):=by
        simp only [da,hd1,if_pos h10] at hend
        exact (Option.some.inj hend).symm
      subst hr'
      repeat' (first|(apply aw (f:=355);exact rfl;exact rfl;exact FnIn.msub (rp 10 (Ma x.hsa (by decide)) (Ma x.ht (by decide)) (B:=B1) (cb:=cb1) (out:=o1) (at_:=0) (e:=0) (g:=x.g) (A:=x.A) (cap:=x.cap) hd1 h10 _ w0) (MSub.pick pK (MSub.pick pK (MSub.pick pK (MSub.refl _))));rintro _ _ ⟨rfl,rfl⟩)|(apply aa (f:=345);exact rfl;exact rfl;(intro w' _;exact hA w'))|(apply aw (f:=257);exact rfl;exact rfl;exact FnIn.msub (eG x.g x.sa x.A _ x.cap k1 B1 _ cb1 u1.at_ 4 _ _ _ _) (MSub.pick pK (.refl _));rintro _ _ ⟨rfl,rfl⟩)|refine sT ?_|refine sS ?_|refine sN ?_|refine sM fun _=> ?_|(refine sC ?_ ?_<;>intro hb<;>try omega)|exact cT|fail)
      all_goals first
        |(exfalso;omega)
        |(exfalso;simp_all;done)
        | (refine ed (x' := (u1.at_, 4)) (k' := k1) (out' := o1) (B' := B1) (cb' := cb1) eIO rfl (by simp) (by omega) (by omega) (by (try simp only [LC, LH]); omega) ?_
           simp only [Cx.B,rB,LC,LH,LY,LR,Mj,LN,LO,LD,LG]
           exact mS)
    have h10:u1.kind=10:=Classical.not_not.1 h10
    have hlt1:=Cx.lt hd1 (by omega)
    by_cases hr:(n:Int)<least∨most<(n:Int)
    · have hr' :r= .error (t.at_,11):=by
        simp only [da,hd1,h10,hak,if_pos hr] at hend
        exact (Option.some.inj hend).symm
      subst hr'
      repeat' (first|(apply aw (f:=355);exact rfl;exact rfl;exact FnIn.msub (jP 10 (Ma x.hsa (by decide)) (Ma x.ht (by decide)) (by omega) (B:=B1) (cb:=cb1) (out:=o1) (at_:=0) (e:=0) (g:=x.g) (A:=x.A) (cap:=x.cap) hd1 h10 _ w0) (MSub.pick pK (MSub.pick pK (MSub.pick pK (MSub.refl _))));rintro _ _ ⟨rfl,rfl⟩)|(apply aa (f:=345);exact rfl;exact rfl;(intro w' _;exact hA w'))|(apply aw (f:=257);exact rfl;exact rfl;exact FnIn.msub (eG x.g x.sa x.A _ x.cap (k1+1) B1 _ cb1 0 0 _ _ _ _) (MSub.pick pK (.refl _));rintro _ _ ⟨rfl,rfl⟩)|refine sT ?_|refine sS ?_|refine sN ?_|refine sM fun _=> ?_|(refine sC ?_ ?_<;>intro hb<;>try omega)|exact cT|fail)
      all_goals first
        |(exfalso;omega)
        |(exfalso;simp_all;done)
        | (refine ed (x' := (t.at_, 11)) (k' := k1 + 1) (out' := o1) (B' := B1) (cb' := cb1) eIO rfl (by simp) (by omega) (by omega) (by (try simp only [LC, LH]); omega) ?_
           simp only [Cx.B,rB,LC,LH,LY,LR,Mj,LN,LO,LD,LG]
           exact mS)
    have hpos:0<o1.length:=by omega
    obtain ⟨xn,hx⟩: ∃ xn,o1[o1.length - 1]? =some xn:=⟨_,LF (by omega)⟩
    rw [si (p:=⟨x.toks.drop k1,o1⟩) hx] at hend
    dsimp only at hend
    rw [hd1,hak,if_neg (by rw [h10];simp)] at hend
    dsimp only at hend
    rw [if_neg hr] at hend
    refine dP (A:=B1) (by simp only [Cx.B,rB,LO,LD,LG];exact pK) hpos fun gb hB=> ?_
    subst hB
    by_cases hkx:46≤fn∧xn.kind≠2∧xn.kind≠3
    · rw [if_pos hkx] at hend
      cases hend
      repeat' (first|(apply aw (f:=355);exact rfl;exact rfl;exact FnIn.msub (jP 10 (Ma x.hsa (by decide)) (Ma x.ht (by decide)) (by omega) (B:=some gb) (cb:=cb1) (out:=o1) (at_:=0) (e:=0) (g:=x.g) (A:=x.A) (cap:=x.cap) hd1 h10 _ w0) (MSub.pick pK (MSub.pick pK (MSub.pick pK (MSub.refl _))));rintro _ _ ⟨rfl,rfl⟩)|(apply aa (f:=345);exact rfl;exact rfl;(intro w' _;exact hA w'))|(apply fN (id:=19);kernel_rfl;kernel_rfl)|(apply aK;exact rfl;apply du;exact rfl;exact rfl;exact hpos;(simp only [maxLen];omega))|(apply aK;exact rfl;apply aj;exact rfl;exact rfl;omega)|(apply aK;exact rfl;apply iZ (k:=0);exact fp;exact rfl;exact pK;decide;exact hx;exact rfl)|(apply aw (f:=257);exact rfl;exact rfl;exact FnIn.msub (eG x.g x.sa x.A _ x.cap (k1+1) (some gb) _ cb1 0 0 _ _ _ _) (MSub.pick pK (.refl _));rintro _ _ ⟨rfl,rfl⟩)|(apply aN;(iterate 3 exact rfl);exact pK;exact pK;exact rfl;(simp [bY,Value.oneCell']);omega;(simp only [maxLen];omega);intro g8 c8)|refine sT ?_|refine sS ?_|refine sQ ?_|refine sN ?_|refine sNQ ?_|refine sM fun _=> ?_|(refine sC ?_ ?_<;>intro hb<;>try omega)|(refine sCQ ?_ ?_<;>intro hb<;>try omega)|exact cT|fail)
      all_goals first
        |(exfalso;omega)
        |(exfalso;simp_all;done)
        | (refine ed (x' := (t.at_, 4)) (k' := k1 + 1) (out' := o1 ++ [⟨7, bE, aL, 0, fn, n⟩]) (B' := some g8) (cb' := c8) eIO rfl (by simp) (by omega) (by omega) (by (try simp only [LC, LH]); omega) ?_
           simp only [Cx.B,rB,LC,LH,LY,LR,Mj,LN,LO,LD,LG]
           exact mS)
    · rw [if_neg hkx] at hend
      cases hend
      repeat' (first|(apply aw (f:=355);exact rfl;exact rfl;exact FnIn.msub (jP 10 (Ma x.hsa (by decide)) (Ma x.ht (by decide)) (by omega) (B:=some gb) (cb:=cb1) (out:=o1) (at_:=0) (e:=0) (g:=x.g) (A:=x.A) (cap:=x.cap) hd1 h10 _ w0) (MSub.pick pK (MSub.pick pK (MSub.pick pK (MSub.refl _))));rintro _ _ ⟨rfl,rfl⟩)|(apply aa (f:=345);exact rfl;exact rfl;(intro w' _;exact hA w'))|(apply fN (id:=19);kernel_rfl;kernel_rfl)|(apply aK;exact rfl;apply du;exact rfl;exact rfl;exact hpos;(simp only [maxLen];omega))|(apply aK;exact rfl;apply aj;exact rfl;exact rfl;omega)|(apply aK;exact rfl;apply iZ (k:=0);exact fp;exact rfl;exact pK;decide;exact hx;exact rfl)|(apply aN;(iterate 3 exact rfl);exact pK;exact pK;exact rfl;(simp [bY,Value.oneCell']);omega;(simp only [maxLen];omega);intro g8 c8)|refine sT ?_|refine sS ?_|refine sQ ?_|refine sN ?_|refine sNQ ?_|refine sM fun _=> ?_|(refine sC ?_ ?_<;>intro hb<;>try omega)|(refine sCQ ?_ ?_<;>intro hb<;>try omega)|exact cT|fail)
      all_goals first
        |(exfalso;omega)
        |(exfalso;simp_all;done)
        | (refine iR (k' := k1 + 1) (p' := PS.put (PS.skip ⟨x.toks.drop k1, o1⟩) ⟨7, bE, aL, 0, fn, n⟩) (B' := some g8) (cb' := c8) eIO rfl hlt1 (Cx.skip rfl) (by omega) (by simp only [PS.put, PS.skip, LC, LH]; omega) ?_
           simp only [PS.put,PS.skip,Cx.B,rB,LC,LH,LY,LR,Mj,LN,LO,LD,LG]
           exact mS)
theorem gL (p:Int→Bool): ∀ l:List Int,l.takeWhile p=l.take (aB p l)∧l.dropWhile p=l.drop (aB p l)
 | []=>⟨rfl,rfl⟩
 |c::r=>by
  simp only [NY,List.dropWhile_cons,aB]
  split
  ·
   exact ⟨by rw [(gL p r).1];rfl,by rw [(gL p r).2];rfl⟩
  ·
   exact ⟨rfl,rfl⟩
theorem vV (a:ByteArray) (ha:a.size≤1000000) (h0:0<a.size) (hlet: ∀ c∈ap a,bH c=true) (w:World):ay Tryz.prog 366 [.string a] w (.tuple #[.int .i64 (if 1024<bk (ap a) 0 then 0 else bk (ap a) 0),.int .i64 (if 1024<bk (ap a) 0 then 3 else 0)]):=by
 refine aq Tryz.func366 rfl Tryz.ntmps366 rfl ?_
 have hl:=au a
 have hpos:=kB (ap a) hlet (M7 0) (.inl (fun h=>by rw [h] at hl;simp at hl;omega))
 obtain ⟨X,hX⟩: ∃ X,bk (ap a) 0=X:=⟨_,rfl⟩
 rw [hX] at hpos ⊢
 repeat' (first|refine sT ?_|refine sS ?_|refine sT2 ?_|refine sM fun _=> ?_|(refine sC ?_ ?_<;>intro hb<;>try omega)|fail)
 refine ax [0] rfl (fun x:Nat × Int=> [(5,.int .i64 (x.1:Int)),(4,.int .i64 x.2)]) (fun _=> []) (fun x=>x.1≤a.size∧0≤x.2∧x.2≤1025∧X=bk ((ap a).drop x.1) x.2) (fun x=>a.size - x.1) (0,0) ⟨by simp,by simp,by simp,hX.symm⟩ sB (.refl _) ?_
 rintro ⟨i,v⟩ ⟨hi,hv0,hv1,hx⟩
 dsimp only at hi hv0 hv1 hx ⊢
 by_cases hlt:i<a.size
 ·
  have hc:=hlet (bat a i) (List.mem_of_getElem? (fu hlt))
  have hok:=pd a i
  rw [ba hlt,bk] at hx
  have hN:=fun w=>mK (bat a i) hok.1 hok.2 w
  have hN1:yC (bat a i)=upC (bat a i) - 64:=by rw [yC,if_pos hc]
  have hN2:1≤upC (bat a i) - 64∧upC (bat a i) - 64≤26:=by
   have:=(fT _).1 hc
   unfold upC
   split<;>omega
  rw [hN1] at hN
  obtain ⟨d,hd⟩: ∃ d,upC (bat a i) - 64=d:=⟨_,rfl⟩
  rw [hd] at hx hN hN2
  repeat' (first|(apply ak (d:=14);exact rfl;apply aU (j:=i);exact rfl;exact rfl;exact hlt)|(apply ak (d:=21);exact rfl;apply aU (j:=i);exact rfl;exact rfl;exact hlt)|(apply aa (f:=365);exact rfl;exact rfl;(intro w' hm;exact hN w'))|(apply ak (d:=18);exact rfl;apply qK;exact rfl;exact rfl;exact ⟨by omega,by omega⟩)|(apply ak (d:=23);exact rfl;apply dZ;exact rfl;exact rfl;exact ⟨by omega,by omega⟩)|refine sT ?_|refine sS ?_|refine sT2 ?_|refine sN ?_|refine sM fun _=> ?_|(refine sC ?_ ?_<;>intro hb<;>try omega)|fail)
  all_goals first
   |(exfalso;omega)
   |(rw [wj];exact ⟨(i+1,min (26*v+d) 1025),⟨hlt,by dsimp only;omega,by dsimp only;omega,hx⟩,by dsimp only;omega,sB,sB,.nil _⟩)
 ·
  have e:i=a.size:=by omega
  subst e
  rw [L6 (by omega),bk] at hx
  subst hx
  repeat' (first|refine sT ?_|refine sS ?_|refine sT2 ?_|refine sM fun _=> ?_|(refine sC ?_ ?_<;>intro hb<;>try omega)|fail)
  all_goals first
   |(exfalso;omega)
   |((refine rT2 ?_);first|(rw [if_pos (by omega),if_pos (by omega)])|(rw [if_neg (by omega),if_neg (by omega)]))
theorem Ez (l:List Int):bT l=if l.take (aB bH l)= []∨l.drop (aB bH l)= []∨(l.drop (aB bH l)).head? =some 48∨(l.drop (aB bH l)).all aC=false then (0,0,4)
  else if 1024<bk (l.take (aB bH l)) 0∨1024<kJ (l.drop (aB bH l)) 0 then (0,0,3) else (bk (l.take (aB bH l)) 0,kJ (l.drop (aB bH l)) 0,0):=by
 unfold bT
 rw [(gL bH l).1,(gL bH l).2]
theorem yA {c:Int}:(0<yC c)↔bH c=true:=by
 unfold yC upC
 cases h:bH c with
 |false=>simp
 |true=>
  have:=(fT c).1 h
  simp only [if_true,iff_true]
  by_cases h2:97≤c∧c≤122
  ·
   rw [if_pos h2];omega
  ·
   rw [if_neg h2];omega
set_option maxHeartbeats 1000000 in
theorem AO (a:ByteArray) (ha:a.size≤100000) (w:World):ay Tryz.prog 352 [.string a] w (.tuple #[.agg (cB ⟨(bT (ap a)).1,(bT (ap a)).2.1⟩).toArray,.int .i64 (bT (ap a)).2.2]):=by
 refine aq Tryz.func352 rfl Tryz.ntmps352 rfl ?_
 have hl:=au a
 have hA:=Ez (ap a)
 obtain ⟨A,hAr⟩: ∃ A,aB bH (ap a)=A:=⟨_,rfl⟩
 have hAle:A≤a.size:=by have:=bM bH (ap a);omega
 rw [hAr] at hA
 repeat' (first|refine sT ?_|refine sS ?_|refine sT2 ?_|refine sM fun _=> ?_|(refine sC ?_ ?_<;>intro hb<;>try omega)|fail)
 rename_i g2
 refine ax [0,2] rfl (fun i:Nat=> [(4,.int .i64 (i:Int))]) (fun _=> [.box g2 51 [.int .i64 0,.int .i64 0]]) (fun i=>i≤a.size∧A=i+aB bH ((ap a).drop i)) (fun i=>a.size - i) 0 ⟨by omega,by rw [MP,LZ,hAr]⟩ sB (.refl _) ?_
 rintro i ⟨hi,hx⟩
 by_cases hlt:i<a.size∧bH (bat a i)=true
 ·
  have hok:=pd a i
  have hN:=fun w=>mK (bat a i) hok.1 hok.2 w
  have hp:=yA.2 hlt.2
  rw [ba hlt.1,aB,if_pos hlt.2] at hx
  repeat' (first|(apply ak (d:=16);exact rfl;apply aU (j:=i);exact rfl;exact rfl;omega)|(apply aa (f:=365);exact rfl;exact rfl;(intro w' hm;exact hN w'))|refine sT ?_|refine sS ?_|refine sT2 ?_|refine sN ?_|refine sM fun _=> ?_|(refine sC ?_ ?_<;>intro hb<;>try omega)|fail)
  all_goals first
   |(exfalso;omega)
   |exact ⟨i+1,⟨by omega,by omega⟩,by omega,sB,sB,.refl _⟩
 have hAi:A=i:=by
  rw [hx]
  by_cases h:i<a.size
  ·
   rw [ba h,aB,if_neg (fun h2=>hlt ⟨h,h2⟩)];rfl
  ·
   rw [nn (by omega)];rfl
 subst hAi
 have hexit:A<a.size→yC (bat a A)≤0:=fun h=>by
  have: ¬ 0<yC (bat a A):=fun h2=>hlt ⟨h,yA.1 h2⟩
  omega
 have hN:=fun w=>mK (bat a A) (pd a A).1 (pd a A).2 w
 have htk:(ap a).take A= []↔A=0:=by
  rw [List.take_eq_nil_iff]
  constructor
  ·
   rintro (h|h)
   ·
    exact h
   ·
    rw [h] at hl;simp at hl;omega
  ·
   exact .inl
 have hdr:(ap a).drop A= []↔A=a.size:=by rw [List.drop_eq_nil_iff];omega
 have hhd:A<a.size→(((ap a).drop A).head? =some 48↔bat a A=48):=fun h=>by rw [ba h];simp
 by_cases hbad:A=0∨A=a.size∨bat a A=48
 ·
  have hres:bT (ap a)=(0,0,4):=by
   rw [hA,if_pos]
   rcases hbad with h|h|h
   ·
    exact .inl (htk.2 h)
   ·
    exact .inr (.inl (hdr.2 h))
   ·
    by_cases hA2:A<a.size
    ·
     exact .inr (.inr (.inl ((hhd hA2).2 h)))
    ·
     exact .inr (.inl (hdr.2 (by omega)))
  rw [hres]
  repeat' (first|(apply ak (d:=16);exact rfl;apply aU (j:=A);exact rfl;exact rfl;omega)|(apply ak (d:=33);exact rfl;apply aU (j:=A);exact rfl;exact rfl;omega)|(apply aa (f:=365);exact rfl;exact rfl;(intro w' hm;exact hN w'))|refine sT ?_|refine sS ?_|refine sT2 ?_|refine sN ?_|refine sM fun _=> ?_|(refine sC ?_ ?_<;>intro hb<;>try omega)|fail)
  all_goals first
   |(exfalso;omega)
   |((refine eK ?_);rfl)
 have hA1:0<A:=by omega
 have hA2:A<a.size:=by omega
 have hn48:bat a A≠48:=fun h=>hbad (.inr (.inr h))
 simp only [htk,hdr,hhd hA2,show ¬ A=0 by omega,show ¬ A=a.size by omega,hn48,false_or] at hA
 repeat' (first|(apply ak (d:=16);exact rfl;apply aU (j:=A);exact rfl;exact rfl;omega)|(apply ak (d:=33);exact rfl;apply aU (j:=A);exact rfl;exact rfl;omega)|(apply aa (f:=365);exact rfl;exact rfl;(intro w' hm;exact hN w'))|refine sT ?_|refine sS ?_|refine sT2 ?_|refine sN ?_|refine sM fun _=> ?_|(refine sC ?_ ?_<;>intro hb<;>try omega)|fail)
 all_goals try (exfalso;omega)
 refine ax [0,2,4] rfl (fun x:Nat × Int=> [(6,.int .i64 (x.1:Int)),(5,.int .i64 x.2)]) (fun _=> [.box g2 51 [.int .i64 0,.int .i64 0]]) (fun x=>A≤x.1∧x.1≤a.size∧0≤x.2∧x.2≤1025∧kJ ((ap a).drop A) 0=kJ ((ap a).drop x.1) x.2∧((ap a).drop A).all aC=((ap a).drop x.1).all aC) (fun x=>a.size - x.1) (A,0) ⟨by simp,by dsimp only;omega,by simp,by simp,rfl,rfl⟩ sB (.refl _) ?_
 rintro ⟨i,v⟩ ⟨hi0,hi,hv0,hv1,hr,hall⟩
 dsimp only at hi0 hi hv0 hv1 hr hall ⊢
 by_cases hlt2:i<a.size
 ·
  have hok:=pd a i
  rw [ba hlt2] at hr hall
  rw [kJ] at hr
  rw [NA] at hall
  have hd:=dN (bat a i)
  by_cases hdg:aC (bat a i)=true
  ·
   obtain ⟨hd1,hd2⟩:=hd.1 hdg
   rw [hdg,Mi] at hall
   obtain ⟨d,hdd⟩: ∃ d,bat a i - 48=d:=⟨_,rfl⟩
   rw [hdd] at hr
   repeat' (first|(apply ak (d:=46);exact rfl;apply aU (j:=i);exact rfl;exact rfl;exact hlt2)|(apply ak (d:=51);exact rfl;apply aU (j:=i);exact rfl;exact rfl;exact hlt2)|(apply ak (d:=59);exact rfl;apply aU (j:=i);exact rfl;exact rfl;exact hlt2)|(apply ak (d:=56);exact rfl;apply qK;exact rfl;exact rfl;exact ⟨by omega,by omega⟩)|(apply ak (d:=60);exact rfl;apply df (c:=d);exact rfl;exact rfl;(rw [hdd];exact dQ (by omega) (by omega)))|(apply ak (d:=61);exact rfl;apply bJ (c:=d);exact rfl;exact I64.wrap ⟨by omega,by omega⟩)|(apply ak (d:=62);exact rfl;apply dZ;exact rfl;exact rfl;exact ⟨by omega,by omega⟩)|refine sT ?_|refine sS ?_|refine sT2 ?_|refine sN ?_|refine sM fun _=> ?_|(refine sC ?_ ?_<;>intro hb<;>try omega)|fail)
   all_goals first
    |(exfalso;omega)
    |(rw [wj];exact ⟨(i+1,min (10*v+d) 1025),⟨by dsimp only;omega,hlt2,by dsimp only;omega,by dsimp only;omega,hr,hall⟩,by dsimp only;omega,sB,sB,.refl _⟩)
  ·
   have hdf:aC (bat a i)=false:=by simpa using hdg
   rw [hdf,Mu] at hall
   rw [if_pos hall] at hA
   have hno: ¬ (48≤bat a i∧bat a i≤57):=fun h=>hdg (hd.2 h)
   rw [hA]
   repeat' (first|(apply ak (d:=46);exact rfl;apply aU (j:=i);exact rfl;exact rfl;exact hlt2)|(apply ak (d:=51);exact rfl;apply aU (j:=i);exact rfl;exact rfl;exact hlt2)|(apply ak (d:=59);exact rfl;apply aU (j:=i);exact rfl;exact rfl;exact hlt2)|(apply ak (d:=56);exact rfl;apply qK;exact rfl;exact rfl;exact ⟨by omega,by omega⟩)|refine sT ?_|refine sS ?_|refine sT2 ?_|refine sN ?_|refine sM fun _=> ?_|(refine sC ?_ ?_<;>intro hb<;>try omega)|fail)
   all_goals first
    |(exfalso;omega)
    |((refine eK ?_);rfl)
 ·
  have e2:i=a.size:=by omega
  subst e2
  have e3:(ap a).drop a.size= []:=L6 (by omega)
  rw [e3,List.all_nil] at hall
  rw [e3,kJ] at hr
  rw [hall,hr] at hA
  simp only [Bool.true_eq_false,if_false] at hA
  have hsub:ap (sub a 0 A)=(ap a).take A:=qm a A
  have hC:=fun w=>vV (sub a 0 A) (by rw [bQ a hAle];omega) (by rw [bQ a hAle];omega) (fun c hc=>by
   rw [hsub] at hc
   obtain ⟨k,hk⟩:=List.mem_iff_getElem?.1 hc
   have hkl:k<A:=by
    have:=(LV.1 hk).1
    rw [LP] at this;omega
   rw [Nh hkl] at hk
   exact iQ (ap a) k c (by omega) hk) w
  rw [hsub] at hC
  generalize bk ((ap a).take A) 0=L at hC hA
  rw [hA]
  repeat' (first|(apply ak (d:=67);exact rfl;apply zS (hi:=A);exact rfl;exact rfl;exact hAle)|(apply aa (f:=366);exact rfl;exact rfl;(intro w' hm;exact hC w'))|refine sT ?_|refine sS ?_|refine sT2 ?_|refine sN ?_|refine sM fun _=> ?_|(refine sC ?_ ?_<;>intro hb<;>try omega)|fail)
  all_goals
   (refine eK ?_)
   by_cases h1:1024<L<;>by_cases h2:1024<v<;>first|(exfalso;simp only [h1,if_true,if_false] at*;omega)|(simp only [h1,h2,if_true,if_false,or_true,true_or,or_self];rfl)
def TokR (i:Nat) (o:Option (Tk × Nat)) (v:Value):Prop:=match o with
 |some (t,n)=>v= .tuple #[.agg (aZ { t with at_:=(i:Int) }).toArray,.int .i64 ((i+n:Nat):Int),.bool true]
 |none=> ∃ (t:Tk) (e:Int),v= .tuple #[.agg (aZ t).toArray,.int .i64 e,.bool false]
theorem fR {p:Int→Bool} {a:ByteArray} {i:Nat} (h:i<a.size):aB p ((ap a).drop i)=if p (bat a i) then aB p ((ap a).drop (i+1))+1 else 0:=by
 rw [ba h,aB]
theorem xH {p:Int→Bool} {l:List Int} {n:Nat} (h:n=aB p l) {c:Int} (hc:c∈l.take n):p c=true:=by
 obtain ⟨k,hk,rfl⟩:=Nl hc
 rw [LP] at hk
 rw [N9]
 exact iQ l k _ (by omega) (LF (by omega))
set_option maxHeartbeats 4000000 in
theorem vU (a:ByteArray) (ha:a.size≤256) (i:Nat) (hi:i<a.size) (hdi:aC (bat a i)=true) (w:World):
    aS Tryz.prog 318 [.string a,.int .i64 (i:Int)] w fun v H=>H= []∧TokR i ((jh ((ap a).drop i)).map fun x=>(⟨1,x.1,av,aL,0⟩,x.2)) v:=by
  refine aq Tryz.func318 rfl Tryz.ntmps318 rfl ?_
  have hl:=au a
  have hm:cf=9223372036854775807:=rfl
  obtain ⟨W1,hW1⟩: ∃ W1,aB aC ((ap a).drop i)=W1:=⟨_,rfl⟩
  have hw0:W1≠0:=by rw [← hW1,fR hi,if_pos hdi];omega
  have hwl:i+W1≤a.size:=by
    have:=bM aC ((ap a).drop i)
    rw [LL] at this
    omega
  obtain ⟨p,hp⟩: ∃ p,bN ((ap a).drop (i+W1))=p:=⟨_,rfl⟩
  have hnum:jh ((ap a).drop i)=if 4<p then none else if cf<bn (((ap a).drop i).take W1++((ap a).drop (i+W1+1)).take p++List.replicate (4 - p) 48) 0 then none else some (bn (((ap a).drop i).take W1++((ap a).drop (i+W1+1)).take p++List.replicate (4 - p) 48) 0,if p=0 then W1 else W1+1+p):=by
    unfold jh
    simp only [hW1,MK,hp]
    by_cases h4:4<p
    · rw [if_pos (.inr h4),if_pos h4]
    · rw [if_neg (by omega),if_neg h4]
      rfl
  rw [hnum]
  clear hnum
  have hD:=fun j w=>kY a (by omega) j w
  repeat' (first|refine sT ?_|refine sS ?_|refine sT2 ?_|refine sM fun _=> ?_|(refine sC ?_ ?_<;>intro hb<;>try omega)|exact cT|fail)
  rename_i g4 g7
  refine ax [0,1,4,7] rfl (fun j:Nat=> [(8,.int .i64 ((i+j:Nat):Int))]) (fun _=> [.box g7 295 (aZ ⟨1,0,av,aL,i⟩),.box g4 295 (aZ cM)]) (fun j=>j≤W1∧W1=j+aB aC ((ap a).drop (i+j))) (fun j=>W1 - j) 0 ⟨by omega,by rw [Nj,hW1];omega⟩ sB mS ?_
  rintro j ⟨hj,hx⟩
  by_cases hjw:j<W1
  · have hji:i+j<a.size:=by omega
    have hdj:aC (bat a (i+j))=true:=by
      rw [fR hji] at hx
      split at hx
      · assumption
      · omega
    have hx2:W1=(j+1)+aB aC ((ap a).drop (i+(j+1))):=by
      rw [fR hji,if_pos hdj] at hx
      rw [← M4 i j 1];omega
    have hDj:=fun w=>hD (i+j) w
    rw [hdj] at hDj
    repeat' (first|(apply aa (f:=317);exact rfl;exact rfl;(intro w' hm;exact hDj w'))|refine sT ?_|refine sS ?_|refine sT2 ?_|refine sN ?_|refine sM fun _=> ?_|(refine sC ?_ ?_<;>intro hb<;>try omega)|exact cT|fail)
    exact ⟨j+1,⟨hjw,hx2⟩,by omega,sB,sB,.refl _⟩
  have ejw:j=W1:=by omega
  subst ejw
  have hdj:aC (bat a (i+j))=false:=by
    by_cases hji:i+j<a.size
    · rw [fR hji] at hx
      split at hx
      · omega
      · rename_i h;simpa using h
    · rw [gT (by omega)];rfl
  have hDj:=fun w=>hD (i+j) w
  rw [hdj] at hDj
  have hDk:=fun w=>hD (i+j+1) w
  have hp1:i+j<a.size→bat a (i+j)=46→p=aB aC ((ap a).drop (i+j+1)):=fun h1 h2=>by
    rw [← hp,ba h1,h2];rfl
  have hp2:(i+j<a.size→bat a (i+j)≠46)→p=0:=fun h=>by
    rw [← hp]
    by_cases h1:i+j<a.size
    · rw [ba h1];exact kv (h h1)
    · rw [L6 (by omega)];rfl
  have hp0:aC (bat a (i+j+1))=false→aB aC ((ap a).drop (i+j+1))=0:=fun h=>by
    by_cases h1:i+j+1<a.size
    · rw [fR h1,if_neg (by rw [h];simp)]
    · exact nn (by omega)
  have hpl:p≠0→i+j+1+p≤a.size:=fun h=>by
    by_cases h1:i+j<a.size∧bat a (i+j)=46
    · have:=hp1 h1.1 h1.2
      have h2:=bM aC ((ap a).drop (i+j+1))
      rw [LL] at h2
      omega
    · exact absurd (hp2 fun h3 h4=>h1 ⟨h3,h4⟩) h
  obtain ⟨E,hE⟩: ∃ E,(if p=0 then j else j+1+p)=E:=⟨_,rfl⟩
  repeat' (first|(apply aa (d:=20);exact rfl;exact rfl;(intro w' hm;exact hDj w'))|(apply ak (d:=26);exact rfl;apply eO (lo:=i) (hi:=i+j);(iterate 3 exact rfl);exact ⟨by omega,by omega⟩)|(refine vB (id:=6) (ι:=ByteArray) (fun pl=> [(0,.string a),(1,.int .i64 (i:Int)),(4,.pointer (some ⟨g4,0,none⟩)),(7,.pointer (some ⟨g7,0,none⟩)),(8,.int .i64 ((i+E:Nat):Int)),(9,.string (sub a i (i+j))),(10,.string pl)]) (fun _=> [.box g7 295 (aZ ⟨1,0,av,aL,i⟩),.box g4 295 (aZ cM)]) (fun pl=>ap pl=((ap a).drop (i+j+1)).take p) ?_ ?_)|(apply ak (d:=34);exact rfl;apply aU (j:=i+j);exact rfl;exact rfl;omega)|(apply aa (d:=41);exact rfl;exact rfl;(intro w' hm;exact hDk w'))|refine sT ?_|refine sS ?_|refine sT2 ?_|refine sN ?_|refine sM fun _=> ?_|(refine sC ?_ ?_<;>intro hb<;>try omega)|exact cT|fail)
  · -- the places
    have hdd:aC (bat a (i+j+1))=true:=by assumption
    have e46:bat a (i+j)=46:=by assumption
    have hpp:=hp1 (by omega) e46
    have hp0' :p≠0:=by
      rw [hpp]
      by_cases h1:i+j+1<a.size
      · rw [fR h1,if_pos hdd];omega
      · rw [gT (by omega)] at hdd;simp [aC] at hdd
    rw [if_neg hp0'] at hE
    subst hE
    refine ax [0,1,4,7,9,10,11] rfl (fun k:Nat=> [(8,.int .i64 ((i+j+1+k:Nat):Int))]) (fun _=> [.box g7 295 (aZ ⟨1,0,av,aL,i⟩),.box g4 295 (aZ cM)]) (fun k=>k≤p∧p=k+aB aC ((ap a).drop (i+j+1+k))) (fun k=>p - k) 0 ⟨by omega,by rw [Nj,LZ];exact hpp⟩ sB mS ?_
    rintro k ⟨hk,hkx⟩
    have hpl' :=hpl hp0'
    by_cases hkp:k<p
    · have hki:i+j+1+k<a.size:=by omega
      have hdk:aC (bat a (i+j+1+k))=true:=by
        rw [fR hki] at hkx
        split at hkx
        · assumption
        · omega
      have hkx2:p=(k+1)+aB aC ((ap a).drop (i+j+1+(k+1))):=by
        rw [fR hki,if_pos hdk] at hkx
        rw [← M4 _ k 1];omega
      have hDl:=fun w=>hD (i+j+1+k) w
      rw [hdk] at hDl
      repeat' (first|(apply aa (d:=48);exact rfl;exact rfl;(intro w' hm;exact hDl w'))|refine sT ?_|refine sS ?_|refine sT2 ?_|refine sN ?_|refine sM fun _=> ?_|(refine sC ?_ ?_<;>intro hb<;>try omega)|exact cT|fail)
      exact ⟨k+1,⟨hkp,hkx2⟩,by omega,sB,sB,.refl _⟩
    have ekp:k=p:=by omega
    subst ekp
    have hdk:aC (bat a (i+j+1+k))=false:=by
      by_cases hki:i+j+1+k<a.size
      · rw [fR hki] at hkx
        split at hkx
        · omega
        · rename_i h;simpa using h
      · rw [gT (by omega)];rfl
    have hDl:=fun w=>hD (i+j+1+k) w
    rw [hdk] at hDl
    have es:ap (sub a (i+j+1) (i+j+1+k))=((ap a).drop (i+j+1)).take k:=by
      rw [dD];congr 1;omega
    rw [show i+(j+1+k)=i+j+1+k by omega]
    repeat' (first|(apply aa (d:=48);exact rfl;exact rfl;(intro w' hm;exact hDl w'))|(apply ak (d:=54);exact rfl;apply eO (lo:=i+j+1) (hi:=i+j+1+k);(iterate 3 exact rfl);exact ⟨by omega,by omega⟩)|refine sT ?_|refine sS ?_|refine sT2 ?_|refine sN ?_|refine sM fun _=> ?_|(refine sC ?_ ?_<;>intro hb<;>try omega)|exact cT|fail)
    refine cu (sub a (i+j+1) (i+j+1+k)) es sB mS
  · -- a dot without a digit
    have hdd:aC (bat a (i+j+1))=false:=by assumption
    have hpp:=(hp1 (by omega) (by assumption)).trans (hp0 hdd)
    rw [if_pos hpp] at hE
    subst hE hpp
    refine cu av rfl sB mS
  · have hpp:=hp2 (fun _=>by assumption)
    rw [if_pos hpp] at hE
    subst hE hpp
    refine cu av rfl sB mS
  · have hpp:=hp2 (fun h=>by omega)
    rw [if_pos hpp] at hE
    subst hE hpp
    refine cu av rfl sB mS
  rintro pl hpl2
  have hps:pl.size=p:=by
    rw [← au,hpl2,LP,LL,hl]
    by_cases h:p=0
    · omega
    · have:=hpl h;omega
  clear hp1 hp2 hp0 hD hDj hDk
  by_cases h4:4<p
  · rw [if_pos h4]
    repeat' (first|refine sT ?_|refine sS ?_|refine sT2 ?_|refine sN ?_|refine sM fun _=> ?_|(refine sC ?_ ?_<;>intro hb<;>try omega)|exact cT|fail)
    all_goals first
      |(exfalso;omega)
      |(refine eR (.inl rfl) rfl rfl pK rfl rfl rfl (MSub.nil _) ?_;exact ⟨rfl,⟨1,0,av,aL,i⟩,_,rfl⟩)
  rw [if_neg h4]
  repeat' (first|refine sT ?_|refine sS ?_|refine sT2 ?_|refine sN ?_|refine sM fun _=> ?_|(refine sC ?_ ?_<;>intro hb<;>try omega)|exact cT|fail)
  all_goals try (exfalso;omega)
  refine ax [0,1,4,7,8,9] rfl (fun q:ByteArray × Nat=> [(10,.string q.1)]) (fun _=> [.box g7 295 (aZ ⟨1,0,av,aL,i⟩),.box g4 295 (aZ cM)]) (fun q=>ap q.1=((ap a).drop (i+j+1)).take p++List.replicate q.2 48∧p+q.2≤4∧q.1.size=p+q.2) (fun q=>4 - q.2) (pl,0) ⟨by rw [hpl2];simp,by dsimp only;omega,hps⟩ sB mS ?_
  rintro ⟨q,z⟩ ⟨hq1,hq2,hq3⟩
  dsimp only at hq1 hq2 hq3 ⊢
  by_cases hz:p+z<4
  · obtain ⟨B,hB⟩: ∃ B,B=q++({ data:= #[48] }:ByteArray):=⟨_,rfl⟩
    have hB1:ap B=((ap a).drop (i+j+1)).take p++List.replicate (z+1) 48:=by
      rw [hB,fH,hq1,List.replicate_succ',Mk];rfl
    have hB2:B.size=p+(z+1):=by
      rw [hB,Nq,hq3];rfl
    repeat' (first|(apply ak (d:=63);exact rfl;apply iI (c:=B);exact rfl;exact rfl;exact hB.symm;(simp only [hq3];have:({ data:= #[48] }:ByteArray).size=1:=rfl;omega))|refine sT ?_|refine sS ?_|refine sT2 ?_|refine sN ?_|refine sM fun _=> ?_|(refine sC ?_ ?_<;>intro hb<;>try omega)|exact cT|fail)
    all_goals first
      |(exfalso;omega)
      |exact ⟨(B,z+1),⟨hB1,by dsimp only;omega,hB2⟩,by dsimp only;omega,sB,sB,.refl _⟩
  have ez:z=4 - p:=by omega
  subst ez
  obtain ⟨X,hX⟩: ∃ X,X=sub a i (i+j)++q:=⟨_,rfl⟩
  obtain ⟨D,hD⟩: ∃ D,D=((ap a).drop i).take j++((ap a).drop (i+j+1)).take p++List.replicate (4 - p) 48:=⟨_,rfl⟩
  have hXD:ap X=D:=by
    rw [hX,fH,dD,hq1,hD,← Mk]
    congr 3;omega
  rw [← hD]
  have hsz1:(sub a i (i+j)).size=j:=by rw [bQ a (by omega)];omega
  have hXs:X.size=j+4:=by rw [hX,Nq,hsz1,hq3];omega
  have hDl:D.length=j+4:=by rw [← hXD,au,hXs]
  have hdig: ∀ (k:Nat) c,D[k]? =some c→48≤c∧c≤57:=fun k c hk=>by
    have hc:=List.mem_of_getElem? hk
    rw [hD,Mo,Mo] at hc
    refine (dN c).1 ?_
    rcases hc with (hc|hc)|hc
    · exact xH hW1.symm hc
    · by_cases h0:p=0
      · rw [h0] at hc;simp at hc
      · obtain ⟨r,hr,hr2⟩:=lg (l:=(ap a).drop (i+j)) (by rw [hp];exact h0)
        rw [hp] at hr2
        have:(ap a).drop (i+j+1)=r:=by rw [← MK,hr];rfl
        rw [this] at hc
        exact xH hr2 hc
    · rw [List.eq_of_mem_replicate hc];rfl
  repeat' (first|(apply ak (d:=66);exact rfl;apply iI (c:=X);exact rfl;exact rfl;exact hX.symm;omega)|refine sT ?_|refine sS ?_|refine sT2 ?_|refine sN ?_|refine sM fun _=> ?_|(refine sC ?_ ?_<;>intro hb<;>try omega)|exact cT|fail)
  all_goals try (exfalso;omega)
  have hge:=mf hdig
  refine ax [0,1,4,7,8,12] rfl (fun k:Nat=> [(13,.int .i64 (k:Int))]) (fun k=> [.box g7 295 (aZ ⟨1,bn (D.take k) 0,av,aL,i⟩),.box g4 295 (aZ cM)]) (fun k=>k≤j+4∧bn (D.take k) 0≤cf) (fun k=>j+4 - k) 0 ⟨by omega,by rw [M0];decide⟩ sB mS ?_
  rintro k ⟨hk1,hk2⟩
  have hgk:=hge k
  by_cases hkl:k<j+4
  · obtain ⟨c,hc⟩: ∃ c,D[k]? =some c:=⟨_,LF (by omega)⟩
    have hcd:=hdig k c hc
    have hbc:bat X k=c:=by
      have:=fu (a:=X) (i:=k) (by omega)
      rw [hXD,hc] at this
      exact (Option.some.inj this).symm
    have hnx:=rG hc
    have hgk1:=hge (k+1)
    obtain ⟨V,hV⟩: ∃ V,bn (D.take k) 0=V:=⟨_,rfl⟩
    rw [hV] at hk2 hgk hnx ⊢
    have hq10:IntKind.i64.wrap ((9223372036854775807 - (c - 48)).tdiv 10)=(9223372036854775807 - (c - 48)) / 10:=by
      rw [NZ (by omega)]
      exact I64.wrap ⟨by omega,by omega⟩
    rw [show aZ ⟨1,V,av,aL,i⟩= [.int .u8 1,.int .i64 V,.string av,.int .i64 0,.int .i64 0,.int .i64 0,.int .i64 0,.int .i64 (i:Int)] from rfl]
    repeat' (first|(apply ak (d:=75);exact rfl;apply aU (j:=k);exact rfl;exact rfl;omega)|(rw [hbc])|(apply ak (d:=76);exact rfl;apply df (c:=c - 48);exact rfl;exact rfl;(exact dQ (by omega) (by omega)))|(apply ak (d:=77);exact rfl;apply bJ (c:=c - 48);exact rfl;exact I64.wrap ⟨by omega,by omega⟩)|(apply ak (d:=81);exact rfl;apply E6;exact rfl;exact rfl;exact ⟨by omega,by omega⟩)|(apply ak (d:=82);exact rfl;apply kN;exact rfl;exact rfl;exact (by decide);exact hq10)|(apply ak (d:=87);exact rfl;apply qK;exact rfl;exact rfl;exact ⟨by omega,by omega⟩)|(apply ak (d:=89);exact rfl;apply dZ;exact rfl;exact rfl;exact ⟨by omega,by omega⟩)|refine sT ?_|refine sS ?_|refine sT2 ?_|refine sN ?_|refine sM fun _=> ?_|(refine sC ?_ ?_<;>intro hb<;>try omega)|exact cT|fail)
    all_goals first
      |(rw [if_pos (show cf<bn D 0 by omega)];refine eR (.inl rfl) rfl rfl pK rfl rfl rfl (MSub.nil _) ?_;exact ⟨rfl,⟨1,V,av,aL,i⟩,_,rfl⟩)
      | (have hle : 10 * V + (c - 48) ≤ cf := (by omega)
         rw [← hnx] at hle
         refine ⟨k+1,⟨by omega,hle⟩,by omega,sB,sB,?_⟩
         rw [hnx]
         exact mS)
  · have ek:k=j+4:=by omega
    subst ek
    rw [Mm (by omega)] at hk2 hgk ⊢
    repeat' (first|refine sT ?_|refine sS ?_|refine sT2 ?_|refine sN ?_|refine sM fun _=> ?_|(refine sC ?_ ?_<;>intro hb<;>try omega)|exact cT|fail)
    all_goals first
      |(exfalso;omega)
      |(rw [if_neg (by omega),hE];refine eR (.inl rfl) rfl rfl pK rfl rfl rfl (MSub.nil _) ?_;exact ⟨rfl,rfl⟩)
end Go.SL

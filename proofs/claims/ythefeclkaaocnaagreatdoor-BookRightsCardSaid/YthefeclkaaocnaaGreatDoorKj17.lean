/-
  Lemmas and walks, put together: Q5 W15 W16 W17.
-/
import Derived.Test.YthefeclkaaocnaaGreatDoorKj16
set_option linter.unusedSimpArgs false
set_option linter.unusedVariables false
set_option maxRecDepth 20000
namespace Go.SL
open Go Go.Proofs
attribute [local irreducible] W WL WQ WG WA WX WLI WR WT WC VOp RW thn blk bG scp bg bi bT aQ FnIn FnP ceP
def Lv.end (y:Lv) (x:Cx) (t:Tk) (fn:Int) (n k m:Nat) (r:Out):Prop:=n≤1000∧k≤y.k∧y.out.length+k≤m+y.k∧
 ((y.a=0∧y.e=0∧y.k≤x.toks.length∧n≤y.out.length∧dC x.fin t fn n ⟨x.toks.drop y.k,y.out⟩=some r)∨(y.e≠0∧y.k≤x.toks.length+1∧r= .error (y.a,y.e)))
def Lv.arg (y:Lv) (x:Cx) (fn:Int) (n k m:Nat) (r:Out) (f:Nat):Prop:=y.f≤f∧n≤1000∧k≤y.k∧y.out.length+k≤m+y.k∧
 ((y.a=0∧y.e=0∧y.k≤x.toks.length∧n≤y.out.length∧(if (hdT x.fin (x.toks.drop y.k)).kind=11 then bE x.fin y.f (.args fn n) ⟨x.toks.drop (y.k+1),y.out⟩ else some (.ok (n,⟨x.toks.drop y.k,y.out⟩)))=some r)∨(y.e≠0∧y.k≤x.toks.length+1∧r= .error (y.a,y.e)))
theorem xd {x:Cx} {R H:List Blk} {v:Value} {f f' k m k0 m0 n:Nat} {fn:Int} {p:PS} {r r1:Out} (hf:f≤f') (hr1:yA f fn n x.fin p=some r1) (hm0:p.out.length=m0) (hn:n≤m0) (hm6:m0≤500)
  (hr2:(∃ e,r1= .error e∧r= .error e)∨(∃ n' p',r1= .ok (n',p')∧(if (hdT x.fin p'.l).kind=11 then bE x.fin f (.args fn (n+1)) p'.skip else some (.ok (n+1,p')))=some r)) (hR:RR x k0 m0 R r1 v H) (hk:k≤k0) (hm:m0+k≤m+k0):
  ∃ f2 k2 B2 cb2 o2 a2 e2,(Lv.mk f2 k2 B2 cb2 o2 a2 e2).arg x fn (n+1) k m r f' ∧f2≤f∧H=x.B k2 B2 cb2 o2 a2 e2++R:=by
 obtain ⟨_,hR⟩:=hR
 rcases hr2 with ⟨e,rfl,rfl⟩|⟨n1,p1,rfl,hr2⟩
 ·
  obtain ⟨k1,B1,cb1,o1,h1,h2,h3,h4,rfl⟩:=hR
  exact ⟨f,k1,B1,cb1,o1,e.1,e.2,⟨hf,by omega,by dsimp only;omega,by dsimp only;omega,.inr ⟨h1,h2,rfl⟩⟩,Nat.le_refl _,rfl⟩
 ·
  obtain ⟨k1,B1,cb1,h1,h2,h3,h4,rfl⟩:=hR
  have hg:=q9 hr1
  refine ⟨f,k1,B1,cb1,p1.out,0,0,⟨hf,by omega,by dsimp only;omega,by dsimp only;omega,.inl ⟨rfl,rfl,h1,by dsimp only;omega,?_⟩⟩,Nat.le_refl _,rfl⟩
  dsimp only
  rw [h2] at hr2
  have e1:p1.skip=⟨x.toks.drop (k1+1),p1.out⟩:=by simp only [PS.skip,h2,P4]
  have e2:p1=⟨x.toks.drop k1,p1.out⟩:=by obtain ⟨l,o⟩:=p1;simp only at h2;rw [h2]
  rw [e1] at hr2
  rw [← e2]
  exact hr2
set_option maxHeartbeats 4000000 in
theorem Io (f:Nat) (t:Tk) (ih: ∀ f' ≤f,oC f' (.level 1) 256 [.int .i64 1]) (x:Cx) (k:Nat) (p:PS) (B:Option Nat) (cb:Nat) (r:Out) (R:List Blk) (w0:World) (hk:k<x.toks.length) (hp:p.l=x.toks.drop k) (hout:p.out.length≤k) (ht:hdT x.fin p.l=t) (ht7:t.kind=7) (hrun:u7 f t x.fin p=some r):
    FnIn Tryz.prog 356 [.pointer (some ⟨x.g,0,none⟩),.agg (aY t).toArray] w0 (x.B (k+1) B cb p.out 0 0++R) (RR x (k+1) p.out.length R r):=by
  refine eC Tryz.func356 rfl Tryz.ntmps356 rfl ?_
  have hxt:=x.ht
  have hF:=fun w=>ud t.text w
  have h9:(hdT x.fin p.skip.l).kind=9:=by
    have hc:=x.hc.drop k
    rw [← hp] at hc
    exact hc.name (by rw [ht];exact ht7)
  have hd9: ∃ u,hdT x.fin (x.toks.drop (k+1))=u∧u.kind=9:=⟨_,rfl,by rw [← Cx.skip hp];exact h9⟩
  obtain ⟨u9,hd9,hu9⟩:=hd9
  have hlt9:=Cx.lt hd9 (by omega)
  unfold u7 at hrun
  have hfn:(aX t.text).2=0→1≤(aX t.text).1∧(aX t.text).1≤50:=by
    intro h
    have hb1:=iS cZ t.text 0 (by omega)
    rw [iQ] at hb1
    unfold aX at h ⊢
    split at h
    · cases h
    · rename_i hne
      rw [if_neg hne]
      dsimp only
      omega
  obtain ⟨fn,fe,hfe⟩: ∃ fn fe,aX t.text=(fn,fe):=⟨_,_,rfl⟩
  rw [hfe] at hrun hF hfn
  dsimp only at hF hfn
  by_cases h0:fe≠0
  · rw [if_pos h0] at hrun
    cases hrun
    repeat' (first|(apply aa (f:=370);exact rfl;exact rfl;(intro w' _;exact hF w'))|(apply aw (f:=257);exact rfl;exact rfl;exact FnIn.msub (fq x.g x.sa x.A _ x.cap (k+1) B _ cb 0 0 _ _ _ _) (MSub.pick pK (.refl _));rintro _ _ ⟨rfl,rfl⟩)|refine sT ?_|refine sS ?_|refine sN ?_|refine sM fun _=> ?_|(refine sC ?_ ?_<;>intro hb<;>try omega)|exact cT|fail)
    all_goals first
      |(exfalso;omega)
      | (refine eZ (x' := (t.at_, 10)) (k' := k + 1) (out' := p.out) (B' := B) (cb' := cb) eIO rfl (by simp) (by omega) (NJ _) (NJ _) ?_
         simp only [Cx.B,rB,NN,NF,NH]
         exact mS)
  rw [if_neg h0] at hrun
  have hfe0:fe=0:=Classical.not_not.1 h0
  subst hfe0
  obtain ⟨hf1,hf2⟩:=hfn rfl
  rw [if_neg (by rw [h9];simp)] at hrun
  have hp2:p.skip.skip.l=x.toks.drop (k+1+1):=Cx.skip (Cx.skip hp)
  obtain ⟨u,hd⟩: ∃ u,hdT x.fin (x.toks.drop (k+1+1))=u:=⟨_,rfl⟩
  rw [hp2,hd] at hrun
  have e2:p.skip.skip=⟨x.toks.drop (k+1+1),p.out⟩:=by
    have:p.skip.skip=⟨p.skip.skip.l,p.out⟩:=rfl
    rw [this,hp2]
  rw [e2] at hrun
  repeat' (first|(apply aa (f:=370);exact rfl;exact rfl;(intro w' _;exact hF w'))|(apply aw (f:=355);exact rfl;exact rfl;exact FnIn.msub (lu 9 (Ok x.hsa (by decide)) (Ok x.ht (by decide)) (by omega) (B:=B) (cb:=cb) (out:=p.out) (at_:=0) (e:=0) (g:=x.g) (A:=x.A) (cap:=x.cap) hd9 hu9 _ w0) (MSub.pick pK (MSub.pick pK (MSub.pick pK (MSub.refl _))));rintro _ _ ⟨rfl,rfl⟩)|(rename_i g3;refine Eb (id:=6) (ι:=Nat × Lv) [0,3,4] rfl (fun y=> [(6,.int .i64 (y.1:Int))]) (fun y=> .box g3 295 (aY t)::y.2.H x R) (fun y=>y.2.end x t fn y.1 (k+1+1) p.out.length r) ?_ ?_)|refine sT ?_|refine sS ?_|refine sN ?_|refine sM fun _=> ?_|(refine sC ?_ ?_<;>intro hb<;>try omega)|exact cT|fail)
  · by_cases h10:u.kind=10
    · rw [if_pos h10] at hrun
      repeat' (first|(apply ak;exact rfl;apply cU;exact rfl;exact rfl)|(apply aa (f:=258);exact rfl;exact rfl;exact fun w hm=>Cx.next hd (B:=B) (cb:=cb) (out:=p.out) (at_:=0) (e:=0) (MSub.pick pK (MSub.pick pK (MSub.pick pK (MSub.nil _)))) w hm)|(refine bf (0,⟨0,k+1+1,B,cb,p.out,0,0⟩) ?_ sB (by simp only [Lv.H,Cx.B,rB,NF,NH];exact mS))|refine sT ?_|refine sS ?_|refine sN ?_|refine sM fun _=> ?_|(refine sC ?_ ?_<;>intro hb<;>try omega)|exact cT|fail)
      all_goals first|(exfalso;omega)|exact ⟨Nat.zero_le _,Nat.le_refl _,by dsimp only;omega,.inl ⟨rfl,rfl,by dsimp only;omega,Nat.zero_le _,hrun⟩⟩
    · rw [if_neg h10] at hrun
      obtain ⟨r0,hr0,hrend⟩:=bD hrun
      cases f with
      |zero=>cases hr0
      |succ f=>
        rw [yz] at hr0
        obtain ⟨r1,hr1,hr2⟩:=bD hr0
        have hA0:=pX f fn 0 hf1 hf2 (ih f (Ql f))
        repeat' (first|(apply ak;exact rfl;apply cU;exact rfl;exact rfl)|(apply aa (f:=258);exact rfl;exact rfl;exact fun w hm=>Cx.next hd (B:=B) (cb:=cb) (out:=p.out) (at_:=0) (e:=0) (MSub.pick pK (MSub.pick pK (MSub.pick pK (MSub.nil _)))) w hm)|(apply aw (f:=371);exact rfl;exact rfl;exact FnIn.msub (hA0 x (k+1+1) ⟨x.toks.drop (k+1+1),p.out⟩ B cb r1 _ w0 (by omega) rfl (by dsimp only;omega) hr1) (MSub.pick pK (MSub.pick pK (MSub.pick pK (MSub.refl _))));rintro v1 H1 hR;obtain ⟨f2,k2,B2,cb2,o2,a2,e2,hy,_,rfl⟩:=xd (f' :=f) (k:=k+1+1) (m:=p.out.length) (Nat.le_refl _) hr1 rfl (Nat.zero_le _) (by dsimp only;omega) hr2 hR (Nat.le_refl _) (Nat.le_refl _))|refine sT ?_|refine sS ?_|refine sN ?_|refine sM fun _=> ?_|(refine sC ?_ ?_<;>intro hb<;>try omega)|exact cT|fail)
        all_goals try (exfalso;omega)
        refine ay [0,3,4] rfl (fun y:Nat × Lv=> [(6,.int .i64 (y.1:Int))]) (fun y=> .box g3 295 (aY t)::y.2.H x R) (fun y=>y.2.arg x fn y.1 (k+1+1) p.out.length r0 f) (fun y=>y.2.m) (1,⟨f2,k2,B2,cb2,o2,a2,e2⟩) hy sB (by simp only [Lv.H,Cx.B,rB,NN,NF,NH];exact mS) ?_
        clear hy hR hr1 hr2 hr0
        rintro ⟨n,f',k1,B1,cb1,o1,a,e⟩ ⟨hf',hn,h3,h4,hor⟩
        dsimp only at hf' hn h3 h4 hor
        simp only [Lv.H]
        rcases hor with ⟨rfl,rfl,h1,hno,hr2⟩|⟨h1,h2,rfl⟩
        · obtain ⟨u1,hd1⟩: ∃ u,hdT x.fin (x.toks.drop k1)=u:=⟨_,rfl⟩
          rw [hd1] at hr2
          by_cases h11:u1.kind=11
          · rw [if_pos h11] at hr2
            have hlt1:=Cx.lt hd1 (by omega)
            cases f' with
            |zero=>cases hr2
            |succ f' =>
              rw [yz] at hr2
              obtain ⟨r2,hr3,hr4⟩:=bD hr2
              have hA1:=pX f' fn n hf1 hf2 (ih f' (by omega))
              repeat' (first|(apply ak;exact rfl;apply cU;exact rfl;exact rfl)|(apply aa (f:=258);exact rfl;exact rfl;exact fun w hm=>Cx.next hd1 (B:=B1) (cb:=cb1) (out:=o1) (at_:=0) (e:=0) (MSub.pick pK (MSub.pick pK (MSub.pick pK (MSub.nil _)))) w hm)|(apply aw (f:=371);exact rfl;exact rfl;exact FnIn.msub (hA1 x (k1+1) ⟨x.toks.drop (k1+1),o1⟩ B1 cb1 r2 _ w0 hlt1 rfl (by dsimp only;omega) hr3) (MSub.pick pK (MSub.pick pK (MSub.pick pK (MSub.refl _))));rintro v1 H1 hR;obtain ⟨f2,k2,B2,cb2,o2,a2,e2,hy,hff,rfl⟩:=xd (f' :=f) (k:=k+1+1) (m:=p.out.length) (by omega) hr3 rfl hno (by dsimp only;omega) hr4 hR (by omega) (by dsimp only;omega))|refine sT ?_|refine sS ?_|refine sN ?_|refine sM fun _=> ?_|(refine sC ?_ ?_<;>intro hb<;>try omega)|exact cT|fail)
              all_goals first|(exfalso;omega)|(exfalso;simp_all;done)|skip
              refine ⟨(n+1,⟨f2,k2,B2,cb2,o2,a2,e2⟩),hy,(by simp only [Lv.m,if_true];split<;>omega),sB,sB,?_⟩
              simp only [Lv.H,Cx.B,rB,NN,NF,NH]
              exact mS
          · rw [if_neg h11] at hr2
            cases hr2
            repeat' (first|(apply ak;exact rfl;apply cU;exact rfl;exact rfl)|(apply aa (f:=258);exact rfl;exact rfl;exact fun w hm=>Cx.next hd1 (B:=B1) (cb:=cb1) (out:=o1) (at_:=0) (e:=0) (MSub.pick pK (MSub.pick pK (MSub.pick pK (MSub.nil _)))) w hm)|(refine bf (n,⟨0,k1,B1,cb1,o1,0,0⟩) ?_ sB (by simp only [Lv.H,Cx.B,rB,NN,NF,NH];exact mS))|refine sT ?_|refine sS ?_|refine sN ?_|refine sM fun _=> ?_|(refine sC ?_ ?_<;>intro hb<;>try omega)|exact cT|fail)
            all_goals first|(exfalso;omega)|(exfalso;simp_all;done)|skip
            rcases hrend with ⟨e,h,_⟩|⟨n3,p3,h,h7⟩
            · cases h
            · cases h
              exact ⟨hn,h3,h4,.inl ⟨rfl,rfl,h1,hno,h7⟩⟩
        · repeat' (first|(refine bf (n,⟨0,k1,B1,cb1,o1,a,e⟩) ?_ sB (by simp only [Lv.H,Cx.B,rB,NN,NF,NH];exact mS))|refine sT ?_|refine sS ?_|refine sN ?_|refine sM fun _=> ?_|(refine sC ?_ ?_<;>intro hb<;>try omega)|exact cT|fail)
          all_goals first|(exfalso;omega)|exact absurd (by assumption) h1|skip
          rcases hrend with ⟨e',h,h8⟩|⟨n3,p3,h,h7⟩
          · cases h
            exact ⟨hn,h3,h4,.inr ⟨h1,h2,h8⟩⟩
          · cases h
  · rintro ⟨n,f',k1,B1,cb1,o1,a,e⟩ ⟨hn,h3,h4,hor⟩
    dsimp only at hn h3 h4 hor
    simp only [Lv.H]
    clear hrun
    rcases hor with ⟨rfl,rfl,h1,hno,hend⟩|⟨h1,h2,rfl⟩
    rotate_left
    · repeat' (first|refine sT ?_|refine sS ?_|refine sN ?_|refine sM fun _=> ?_|(refine sC ?_ ?_<;>intro hb<;>try omega)|exact cT|fail)
      all_goals first
        |(exfalso;omega)
        |exact absurd (by assumption) h1
        | (refine eZ (x' := (a, e)) (k' := k1) (out' := o1) (B' := B1) (cb' := cb1) eIO rfl h1 h2 (by omega) (by omega) ?_
           simp only [Cx.B,rB,NN,NF,NH]
           exact mS)
    have hA:=fun w=>kf fn w
    have hak:=kw (fn:=fn) (by simp [da,hf1,hf2])
    have hap:=xc hf1 hf2
    rw [hak] at hap
    obtain ⟨least,most,hlm⟩: ∃ a b,bJ fn=(a,b):=⟨_,_,rfl⟩
    rw [hlm] at hak hA hap
    dsimp only at hak hA hap
    obtain ⟨u1,hd1⟩: ∃ u,hdT x.fin (x.toks.drop k1)=u:=⟨_,rfl⟩
    by_cases h10:u1.kind≠10
    · have hr' :r= .error (u1.at_,4):=by
        simp only [dC,hd1,if_pos h10] at hend
        exact (Option.some.inj hend).symm
      subst hr'
      repeat' (first|(apply aw (f:=355);exact rfl;exact rfl;exact FnIn.msub (uf 10 (Ok x.hsa (by decide)) (Ok x.ht (by decide)) (B:=B1) (cb:=cb1) (out:=o1) (at_:=0) (e:=0) (g:=x.g) (A:=x.A) (cap:=x.cap) hd1 h10 _ w0) (MSub.pick pK (MSub.pick pK (MSub.pick pK (MSub.refl _))));rintro _ _ ⟨rfl,rfl⟩)|(apply aa (f:=345);exact rfl;exact rfl;(intro w' _;exact hA w'))|(apply aw (f:=257);exact rfl;exact rfl;exact FnIn.msub (fq x.g x.sa x.A _ x.cap k1 B1 _ cb1 u1.at_ 4 _ _ _ _) (MSub.pick pK (.refl _));rintro _ _ ⟨rfl,rfl⟩)|refine sT ?_|refine sS ?_|refine sN ?_|refine sM fun _=> ?_|(refine sC ?_ ?_<;>intro hb<;>try omega)|exact cT|fail)
      all_goals first
        |(exfalso;omega)
        |(exfalso;simp_all;done)
        | (refine eZ (x' := (u1.at_, 4)) (k' := k1) (out' := o1) (B' := B1) (cb' := cb1) eIO rfl (by simp) (by omega) (by omega) (by (try simp only [ND, NG]); omega) ?_
           simp only [Cx.B,rB,ND,NG,NR,NU,Oy,NM,NN,NF,NH]
           exact mS)
    have h10:u1.kind=10:=Classical.not_not.1 h10
    have hlt1:=Cx.lt hd1 (by omega)
    by_cases hr:(n:Int)<least∨most<(n:Int)
    · have hr' :r= .error (t.at_,11):=by
        simp only [dC,hd1,h10,hak,if_pos hr] at hend
        exact (Option.some.inj hend).symm
      subst hr'
      repeat' (first|(apply aw (f:=355);exact rfl;exact rfl;exact FnIn.msub (lu 10 (Ok x.hsa (by decide)) (Ok x.ht (by decide)) (by omega) (B:=B1) (cb:=cb1) (out:=o1) (at_:=0) (e:=0) (g:=x.g) (A:=x.A) (cap:=x.cap) hd1 h10 _ w0) (MSub.pick pK (MSub.pick pK (MSub.pick pK (MSub.refl _))));rintro _ _ ⟨rfl,rfl⟩)|(apply aa (f:=345);exact rfl;exact rfl;(intro w' _;exact hA w'))|(apply aw (f:=257);exact rfl;exact rfl;exact FnIn.msub (fq x.g x.sa x.A _ x.cap (k1+1) B1 _ cb1 0 0 _ _ _ _) (MSub.pick pK (.refl _));rintro _ _ ⟨rfl,rfl⟩)|refine sT ?_|refine sS ?_|refine sN ?_|refine sM fun _=> ?_|(refine sC ?_ ?_<;>intro hb<;>try omega)|exact cT|fail)
      all_goals first
        |(exfalso;omega)
        |(exfalso;simp_all;done)
        | (refine eZ (x' := (t.at_, 11)) (k' := k1 + 1) (out' := o1) (B' := B1) (cb' := cb1) eIO rfl (by simp) (by omega) (by omega) (by (try simp only [ND, NG]); omega) ?_
           simp only [Cx.B,rB,ND,NG,NR,NU,Oy,NM,NN,NF,NH]
           exact mS)
    have hpos:0<o1.length:=by omega
    obtain ⟨xn,hx⟩: ∃ xn,o1[o1.length - 1]? =some xn:=⟨_,NE (by omega)⟩
    rw [uV (p:=⟨x.toks.drop k1,o1⟩) hx] at hend
    dsimp only at hend
    rw [hd1,hak,if_neg (by rw [h10];simp)] at hend
    dsimp only at hend
    rw [if_neg hr] at hend
    refine gx (A:=B1) (by simp only [Cx.B,rB,NN,NF,NH];exact pK) hpos fun gb hB=> ?_
    subst hB
    by_cases hkx:46≤fn∧xn.kind≠2∧xn.kind≠3
    · rw [if_pos hkx] at hend
      cases hend
      repeat' (first|(apply aw (f:=355);exact rfl;exact rfl;exact FnIn.msub (lu 10 (Ok x.hsa (by decide)) (Ok x.ht (by decide)) (by omega) (B:=some gb) (cb:=cb1) (out:=o1) (at_:=0) (e:=0) (g:=x.g) (A:=x.A) (cap:=x.cap) hd1 h10 _ w0) (MSub.pick pK (MSub.pick pK (MSub.pick pK (MSub.refl _))));rintro _ _ ⟨rfl,rfl⟩)|(apply aa (f:=345);exact rfl;exact rfl;(intro w' _;exact hA w'))|(apply gN (id:=19);kernel_rfl;kernel_rfl)|(apply aK;exact rfl;apply dM;exact rfl;exact rfl;exact hpos;(simp only [maxLen];omega))|(apply aK;exact rfl;apply aj;exact rfl;exact rfl;omega)|(apply aK;exact rfl;apply j0 (k:=0);exact fX;exact rfl;exact pK;decide;exact hx;exact rfl)|(apply aw (f:=257);exact rfl;exact rfl;exact FnIn.msub (fq x.g x.sa x.A _ x.cap (k1+1) (some gb) _ cb1 0 0 _ _ _ _) (MSub.pick pK (.refl _));rintro _ _ ⟨rfl,rfl⟩)|(apply aN;(iterate 3 exact rfl);exact pK;exact pK;exact rfl;(simp [cj,Value.oneCell']);omega;(simp only [maxLen];omega);intro g8 c8)|refine sT ?_|refine sS ?_|refine sQ ?_|refine sN ?_|refine sNQ ?_|refine sM fun _=> ?_|(refine sC ?_ ?_<;>intro hb<;>try omega)|(refine sCQ ?_ ?_<;>intro hb<;>try omega)|exact cT|fail)
      all_goals first
        |(exfalso;omega)
        |(exfalso;simp_all;done)
        | (refine eZ (x' := (t.at_, 4)) (k' := k1 + 1) (out' := o1 ++ [⟨7, bK, aM, 0, fn, n⟩]) (B' := some g8) (cb' := c8) eIO rfl (by simp) (by omega) (by omega) (by (try simp only [ND, NG]); omega) ?_
           simp only [Cx.B,rB,ND,NG,NR,NU,Oy,NM,NN,NF,NH]
           exact mS)
    · rw [if_neg hkx] at hend
      cases hend
      repeat' (first|(apply aw (f:=355);exact rfl;exact rfl;exact FnIn.msub (lu 10 (Ok x.hsa (by decide)) (Ok x.ht (by decide)) (by omega) (B:=some gb) (cb:=cb1) (out:=o1) (at_:=0) (e:=0) (g:=x.g) (A:=x.A) (cap:=x.cap) hd1 h10 _ w0) (MSub.pick pK (MSub.pick pK (MSub.pick pK (MSub.refl _))));rintro _ _ ⟨rfl,rfl⟩)|(apply aa (f:=345);exact rfl;exact rfl;(intro w' _;exact hA w'))|(apply gN (id:=19);kernel_rfl;kernel_rfl)|(apply aK;exact rfl;apply dM;exact rfl;exact rfl;exact hpos;(simp only [maxLen];omega))|(apply aK;exact rfl;apply aj;exact rfl;exact rfl;omega)|(apply aK;exact rfl;apply j0 (k:=0);exact fX;exact rfl;exact pK;decide;exact hx;exact rfl)|(apply aN;(iterate 3 exact rfl);exact pK;exact pK;exact rfl;(simp [cj,Value.oneCell']);omega;(simp only [maxLen];omega);intro g8 c8)|refine sT ?_|refine sS ?_|refine sQ ?_|refine sN ?_|refine sNQ ?_|refine sM fun _=> ?_|(refine sC ?_ ?_<;>intro hb<;>try omega)|(refine sCQ ?_ ?_<;>intro hb<;>try omega)|exact cT|fail)
      all_goals first
        |(exfalso;omega)
        |(exfalso;simp_all;done)
        | (refine jQ (k' := k1 + 1) (p' := PS.put (PS.skip ⟨x.toks.drop k1, o1⟩) ⟨7, bK, aM, 0, fn, n⟩) (B' := some g8) (cb' := c8) eIO rfl hlt1 (Cx.skip rfl) (by omega) (by simp only [PS.put, PS.skip, ND, NG]; omega) ?_
           simp only [PS.put,PS.skip,Cx.B,rB,ND,NG,NR,NU,Oy,NM,NN,NF,NH]
           exact mS)
end Go.SL
namespace Go.SL
open Go Go.Proofs
attribute [local irreducible] W WL WQ WG WA VOp thn blk bg aQ FnIn
set_option maxRecDepth 10000 in
theorem mW (c r:Int) (w:World):ax Tryz.prog 157 [.agg #[.int .i64 c,.int .i64 r]] w (.bool (valid c r)):=by
 refine aq Tryz.func157 rfl Tryz.ntmps157 rfl ?_
 repeat' (first|refine sT ?_|refine sM fun _=> ?_|(refine sC ?_ ?_<;>intro hb<;>try omega)|fail)
 all_goals ((refine rT1 ?_);((try simp only [← Int.not_lt] at*);simp_all [valid, -Int.not_lt, -Int.not_le,← Int.not_lt]))
set_option maxRecDepth 10000 in
theorem CE (r:Rct) (w:World):ax Tryz.prog 372 [.agg (bQ r).toArray] w (.agg #[.int .i64 r.c1,.int .i64 r.r1]):=by
 refine aq Tryz.func372 rfl Tryz.ntmps372 rfl ?_
 repeat' (first|refine sT ?_|refine sM fun _=> ?_|(refine sC ?_ ?_<;>intro hb<;>try omega)|fail)
 exact zz (.inl rfl) Tryz.results372 rfl pK rfl (MSub.nil _) rfl
set_option maxRecDepth 10000 in
theorem H6 (r:Rct) (w:World):ax Tryz.prog 373 [.agg (bQ r).toArray] w (.agg #[.int .i64 r.c2,.int .i64 r.r2]):=by
 refine aq Tryz.func373 rfl Tryz.ntmps373 rfl ?_
 repeat' (first|refine sT ?_|refine sM fun _=> ?_|(refine sC ?_ ?_<;>intro hb<;>try omega)|fail)
 exact zz (.inl rfl) Tryz.results373 rfl pK rfl (MSub.nil _) rfl
set_option maxRecDepth 10000 in
theorem CA (r:Rct) (w:World):ax Tryz.prog 358 [.agg (bQ r).toArray] w (.int .i64 (dU r)):=by
 refine aq Tryz.func358 rfl Tryz.ntmps358 rfl ?_
 repeat' (first|(apply aa;exact rfl;exact rfl;(intro w hm;exact CE r w))|(apply aa;exact rfl;exact rfl;(intro w hm;exact H6 r w))|(apply aa;exact rfl;exact rfl;(intro w hm;exact mW r.c1 r.r1 w))|(apply aa;exact rfl;exact rfl;(intro w hm;exact mW r.c2 r.r2 w))|refine sT ?_|refine sM fun _=> ?_|(refine sC ?_ ?_<;>intro hb<;>try omega)|fail)
 all_goals ((refine rT1 ?_);((try simp only [← Int.not_lt] at*);simp_all [dU,aF, -Int.not_lt, -Int.not_le,← Int.not_lt]))
set_option maxRecDepth 10000 in
theorem Ml (r:Rct) (w:World):ax Tryz.prog 359 [.agg (bQ r).toArray] w (.bool (IC r)):=by
 refine aq Tryz.func359 rfl Tryz.ntmps359 rfl ?_
 repeat' (first|refine sT ?_|refine sM fun _=> ?_|(refine sC ?_ ?_<;>intro hb<;>try omega)|fail)
 all_goals ((refine rT1 ?_);((try simp only [← Int.not_lt] at*);simp_all [IC, -Int.not_lt, -Int.not_le,← Int.not_lt]))
set_option maxRecDepth 10000 in
theorem zJ (n:Nd) (w:World):ax Tryz.prog 270 [.agg (cj n).toArray] w (.int .i64 (below n)):=by
 refine aq Tryz.func270 rfl Tryz.ntmps270 rfl ?_
 repeat' (first|refine sT ?_|refine sM fun _=> ?_|(refine sC ?_ ?_<;>intro hb<;>try omega)|fail)
 all_goals ((refine rT1 ?_);simp_all [below])
set_option maxRecDepth 10000 in
theorem zC (b:ByteArray) (hs:b.size≤256) (w:World):ax Tryz.prog 376 [.string b] w (.bool (m7 b)):=by
 refine aq Tryz.func376 rfl Tryz.ntmps376 rfl ?_
 have hsz:b.data.toList.length=b.size:=by simp
 repeat' (first|refine sT ?_|refine sT2 ?_|refine sM fun _=> ?_|(refine sC ?_ ?_<;>intro hb<;>try omega)|fail)
 refine fC (fun i:Nat=> [(0,.string b),(3,.int .i64 (i:Int))]) (fun _=> []) (fun i=>i≤b.size∧m7 b=(b.data.toList.drop i).all fun c=>decide (32≤c.toNat) && decide (c.toNat≤126)) (fun i=>b.size - i) 0 ⟨by omega,rfl⟩ ?_ ?_ ?_
 ·
  exact sB
 ·
  exact mS
 ·
  rintro i ⟨hi,hrec⟩
  by_cases hlt:i<b.size
  ·
   rw [NL (by omega),PP] at hrec
   have hbi:b.data.toList[i]'(by omega)=b[i]'hlt:=by simp [ByteArray.getElem_eq_getElem_data]
   rw [hbi] at hrec
   repeat' (first|(apply ak;exact rfl;apply rl;exact rfl;exact rfl;exact hlt)|(apply ak;exact rfl;apply dg;exact rfl;exact rfl;(simp only [maxLen];omega))|refine sT ?_|refine sT2 ?_|refine sM fun _=> ?_|(refine sC ?_ ?_<;>intro hb<;>try omega)|fail)
   ·
    (refine rT1 ?_)
    rw [hrec,decide_eq_false (by omega)]
    rfl
   ·
    (refine rT1 ?_)
    rw [hrec,decide_eq_false (p:=b[i].toNat≤126) (by omega),Bool.and_false]
    rfl
   ·
    refine ⟨i+1,⟨by omega,?_⟩,by omega,?_,?_⟩
    ·
     rw [hrec,decide_eq_true (by omega),decide_eq_true (by omega)]
     rfl
    ·
     exact sB
    ·
     exact mS
  ·
   have e:i=b.size:=by omega
   subst e
   repeat' (first|refine sT ?_|refine sT2 ?_|refine sM fun _=> ?_|(refine sC ?_ ?_<;>intro hb<;>try omega)|fail)
   (refine rT1 ?_)
   rw [hrec,N0 (by omega)]
   rfl
set_option maxRecDepth 10000 in
theorem zE (b:ByteArray) (w:World):ax Tryz.prog 367 [.string b] w (.int .i64 (gT b)):=by
 refine aq Tryz.func367 rfl Tryz.ntmps367 rfl ?_
 repeat' (first|(apply aa;exact rfl;exact rfl;(intro w hm;exact zC b (by omega) w))|refine sT ?_|refine sM fun _=> ?_|(refine sC ?_ ?_<;>intro hb<;>try omega)|fail)
 all_goals ((refine rT1 ?_);(first|rw [gT,decide_eq_true (by omega:256<b.size)]|rw [gT,decide_eq_false (by omega: ¬ 256<b.size)]);simp_all)
set_option maxRecDepth 10000 in
theorem wC (v:Vl) (hn: -9223372036854775808≤v.num) (w:World):ax Tryz.prog 353 [.agg (dx v).toArray] w (.int .i64 (oZ v)):=by
 refine aq Tryz.func353 rfl Tryz.ntmps353 rfl ?_
 have h1:(v.num≠ -9223372036854775808)↔ -9223372036854775807≤v.num:=by omega
 have h2:v.num / 2=0↔(v.num=0∨v.num=1):=by omega
 repeat' (first|(apply aa;exact rfl;exact rfl;(intro w hm;exact zE v.text w))|refine sT ?_|refine sM fun _=> ?_|(refine sC ?_ ?_<;>intro hb<;>try omega)|fail)
 all_goals ((refine rT1 ?_);simp only [oZ,tA,h1,h2,au];(try simp only [← Int.not_lt] at*);simp_all [-Int.not_lt, -Int.not_le,← Int.not_lt])
theorem BT {v:Vl} (h:oZ v=0) (hk:v.kind=4):1≤v.num∧v.num≤6:=by
 simp only [oZ,tA,hk] at h
 cases h1:(decide (v.text=au) && decide (1≤v.num) && decide (v.num≤6))
 ·
  simp [h1] at h
 ·
  simp only [NK,decide_eq_true_eq] at h1
  exact ⟨h1.1.2,h1.2⟩
set_option maxRecDepth 10000 in
theorem DF (v:Vl) (hn: -9223372036854775808≤v.num) (w:World):ax Tryz.prog 357 [.agg (dx v).toArray] w (.bool (EL v)):=by
 refine aq Tryz.func357 rfl Tryz.ntmps357 rfl ?_
 have hE:=BT (v:=v)
 repeat' (first|(apply aa;exact rfl;exact rfl;(intro w hm;exact wC v hn w))|refine sT ?_|refine sM fun _=> ?_|(refine sC ?_ ?_<;>intro hb<;>try omega)|fail)
 all_goals ((refine rT1 ?_);unfold EL;(try have hE' :=hE (by assumption) (by assumption));(repeat' split)<;>simp_all<;>first|omega|(by_cases h6:v.num=6<;>simp [h6]<;>omega))
theorem Ji (a b:Nd):eqN a b=eqN b a:=by
 rw [ER,ER]
 by_cases h:a=b
 ·
  subst h;rfl
 ·
  rw [decide_eq_false h,decide_eq_false fun e=>h e.symm]
theorem iN {w0:World} {s:az} {H:List Blk} {ty t' :TypeId} {x y:Operand} {a b:Nd} (hx:ev s x=some (.agg (cj b).toArray)) (hy:ev s y=some (.agg (cj a).toArray)):VOp Tryz.prog w0 s H (.binOp .eql 174 x y t') ty (.bool (eqN a b)):=by
 rw [Ji]
 exact LX hx hy
def dS (n:Nd):Bool:=kP n && eqN n (dD n)
set_option maxHeartbeats 1000000 in
theorem jv (n:Nd) (hn: -9223372036854775808≤n.v.num) (w:World):ax Tryz.prog 343 [.agg (cj n).toArray] w (.bool (dS n)):=by
 refine aq Tryz.func343 rfl Tryz.ntmps343 rfl ?_
 repeat' (first|(apply aa;exact rfl;exact rfl;(intro w hm;exact DF n.v hn w))|(apply dO;exact rfl;exact rfl;(intro w hm;exact CA n.rect w))|(apply dO;exact rfl;exact rfl;(intro w hm;exact Ml n.rect w))|(apply xy (T:=174) (fun D=> [.int .u8 n.kind,.int .u8 0,.int .i64 0,.string au,.int .i64 0,.int .i64 0,.int .i64 0,.int .i64 0,.int .i64 0,.int .u8 (bif D 5 then n.fn else 0),.int .i64 (bif D 7 then n.n else 0)]) (xs' := [.int .u8 n.kind,.int .u8 0,.int .i64 0,.string au,.int .i64 0,.int .i64 0,.int .i64 0,.int .i64 0,.int .i64 0,.int .u8 n.fn,.int .i64 n.n]);decide+kernel;decide+kernel;(first|exact .hd|exact .tl .hd);exact rfl;(intro D hD;simp only [hD 5 (by decide),hD 7 (by decide),cond_true]))|(apply ak;exact rfl;(first|(apply iN (b:=⟨n.kind,n.v,aM,0,0,0⟩);exact rfl;exact rfl)|(apply iN (b:=⟨n.kind,bK,n.rect,0,0,0⟩);exact rfl;exact rfl)|(apply iN (b:=⟨n.kind,bK,aM,0,0,0⟩);exact rfl;exact rfl)|(apply iN (b:=⟨n.kind,bK,aM,n.op,0,0⟩);exact rfl;exact rfl)|(apply iN (b:=⟨n.kind,bK,aM,0,n.fn,n.n⟩);exact rfl;exact rfl)))|(apply aK;exact rfl;(first|(apply iN (b:=⟨n.kind,n.v,aM,0,0,0⟩);exact rfl;exact rfl)|(apply iN (b:=⟨n.kind,bK,n.rect,0,0,0⟩);exact rfl;exact rfl)|(apply iN (b:=⟨n.kind,bK,aM,0,0,0⟩);exact rfl;exact rfl)|(apply iN (b:=⟨n.kind,bK,aM,n.op,0,0⟩);exact rfl;exact rfl)|(apply iN (b:=⟨n.kind,bK,aM,0,n.fn,n.n⟩);exact rfl;exact rfl)))|refine sT ?_|refine sQ ?_|refine sD ?_|refine sG ?_|refine sM fun _=> ?_|(refine sC ?_ ?_<;>intro hb<;>try omega)|(refine sCQ ?_ ?_<;>intro hb<;>try omega)|fail)
 all_goals ((refine rT1 ?_);((try simp only [← Int.not_lt] at*);simp_all [dS,kP,dD,IC, -Int.not_lt, -Int.not_le,← Int.not_lt]))
def pV (n:Nd) (i:Int) (m:Nd):Bool:=
 if n.kind≠7 then decide (m.kind≠3) else if 46≤n.fn then decide (m.kind=3)||decide (m.kind=2) else decide (m.kind≠3)||fa n.fn i
set_option maxRecDepth 10000 in
theorem CF (n:Nd) (i:Int) (m:Nd) (w:World):ax Tryz.prog 346 [.agg (cj n).toArray,.int .i64 i,.agg (cj m).toArray] w (.bool (pV n i m)):=by
 refine aq Tryz.func346 rfl Tryz.ntmps346 rfl ?_
 repeat' (first|(apply aa;exact rfl;exact rfl;(intro w hm;exact tZ n.fn i w))|refine sT ?_|refine sM fun _=> ?_|(refine sC ?_ ?_<;>intro hb<;>try omega)|exact cT|fail)
 all_goals ((refine rT1 ?_);((try simp only [← Int.not_lt] at*);simp_all [pV, -Int.not_lt, -Int.not_le,← Int.not_lt]))
theorem uQ {n:Nd} (h:cV n=0):dS n=true∧(n.kind=7→da n.fn=true∧(bJ n.fn).1≤n.n∧n.n≤(bJ n.fn).2):=by
 unfold cV at h
 split at h
 ·
  cases h
 ·
  rename_i h1
  have hf:dS n=true:=by
   unfold dS
   cases ha:kP n<;>cases hb:eqN n (dD n)<;>simp_all
  refine ⟨hf,fun h7=> ?_⟩
  rw [if_neg (by simp [h7])] at h
  cases hk:da n.fn
  ·
   rw [oX hk] at h
   simp at h
  ·
   rw [kw hk] at h
   refine ⟨rfl,?_⟩
   dsimp only at h
   rw [if_neg (by simp)] at h
   split at h
   ·
    cases h
   ·
    omega
theorem tX {fn:Int} (h:da fn=true):iq fn=decide (46≤fn):=by
 simp only [da,NK,decide_eq_true_eq] at h
 unfold iq
 rw [decide_eq_true (by omega:fn≤50),Qk]
theorem vv {fn i:Int} (h:46≤fn) (hk:da fn=true) (h0:0≤i) (h1:i<(bJ fn).2):fa fn i=true:=by
 simp only [da,NK,decide_eq_true_eq] at hk
 unfold fa
 rw [if_neg (by omega),if_neg (by omega),if_neg (by omega),if_neg (by omega),decide_eq_true h,decide_eq_true hk.2]
 rfl
theorem Dd {L:List Nd} {n:Nd} {p:Pt} (h:cV n=0) (hr:p.root<L.length) (hp:p.wide=decide (L[p.root].kind=3)) {i:Int} (h0:0≤i) (h1:i<below n):uO L n i p=pV n i L[p.root]:=by
 obtain ⟨_,h7⟩:=uQ h
 unfold uO pV z7
 rw [iB hr,hp]
 generalize L[p.root].kind=k
 by_cases hk7:n.kind=7
 ·
  obtain ⟨hk,ha,hb⟩:=h7 hk7
  have hb7:below n=n.n:=by simp [below,hk7]
  rw [if_pos hk7,if_neg (by simp [hk7]),tX hk,tq hk]
  by_cases h46:46≤n.fn
  ·
   rw [if_pos h46,vv h46 hk h0 (by omega)]
   by_cases e3:k=3
   ·
    simp [e3,hk7,h46]
   ·
    by_cases e2:k=2<;>simp [e3,e2,hk7,h46]
  ·
   rw [if_neg h46]
   by_cases e3:k=3<;>simp [e3,h46]
 ·
  rw [if_neg hk7,if_pos hk7]
  by_cases e3:k=3<;>simp [e3,hk7]
theorem oL {fn:Int} (hk:da fn=true):fS fn≠au:=by
 simp only [da,NK,decide_eq_true_eq] at hk
 obtain ⟨j,hj⟩:=Qb (by omega:0≤fn - 1)
 have e2:fS fn=cZ.getD j au:=by
  rw [fS,if_neg (by omega),show fn.toNat=j+1 by omega]
  rfl
 rw [e2]
 exact (IE j (by omega)).1
theorem rV {fn:Int} (hk:da fn=false) (h0:0≤fn):fS fn=au:=by
 simp only [da,OQ,decide_eq_false_iff_not] at hk
 rw [fS]
 split
 ·
  rfl
 ·
  rw [show fn.toNat=0 by omega]
  rfl
theorem AJ {n:Nd} (h:cV n≠0):(dS n=false∧cV n=2)∨(dS n=true∧n.kind=7∧da n.fn=false∧cV n=10)∨
  (dS n=true∧n.kind=7∧da n.fn=true∧(n.n<(bJ n.fn).1∨(bJ n.fn).2<n.n)∧cV n=11):=by
 unfold cV at h ⊢
 by_cases h1:kP n=false∨eqN n (dD n)=false
 ·
  left
  refine ⟨?_,if_pos h1⟩
  unfold dS
  rcases h1 with h1|h1<;>simp [h1]
 ·
  right
  rw [if_neg h1] at h ⊢
  have hf:dS n=true:=by
   unfold dS
   cases ha:kP n<;>cases hb:eqN n (dD n)<;>simp_all
  by_cases h7:n.kind=7
  ·
   rw [if_neg (by simp [h7])] at h ⊢
   cases hk:da n.fn
   ·
    left
    rw [oX hk] at h ⊢
    exact ⟨hf,h7,rfl,by simp⟩
   ·
    right
    rw [kw hk] at h ⊢
    dsimp only at h ⊢
    rw [if_neg (by simp)] at h ⊢
    by_cases hc:n.n<(bJ n.fn).1∨(bJ n.fn).2<n.n
    ·
     exact ⟨hf,h7,rfl,hc,if_pos hc⟩
    ·
     rw [if_neg hc] at h
     exact absurd rfl h
  ·
   rw [if_pos (by simpa using h7)] at h
   exact absurd rfl h
def pu (p:Pt):List Value:= [.int .i64 (p.root:Int),.int .i64 (p.depth:Int)]
theorem uW (p:Pt):(pu p).length=2:=rfl
def wfN (n:Nd):Prop:= -9223372036854775808≤n.v.num∧0≤n.fn∧n.fn≤255
def uu (L:List Nd) (n:Nd) (i:Nat) (st:List Pt):List Pt × Int:=
 match mA L n i st with
 | .inl e=>([],e)
 | .inr r=>(r.1,0)
theorem Ej {P:Program} {w0:World} {s:az} {H:List Blk} {ty:TypeId} {x y:Operand} {b:Nat} {t t' :TypeId} (hx:ev s x=some (.int .i64 1)) (hy:ev s y=some (.int .i64 (b:Nat))) (hb:b+1≤maxLen):VOp P w0 s H (.binOp .add t x y t') ty (.int .i64 ((b+1:Nat):Int)):=by
 have h:=dE (P:=P) (w0:=w0) (H:=H) (ty:=ty) (t:=t) (t' :=t') (a:=1) hx hy (by omega)
 rwa [PE 1 b] at h
theorem F9 (L:List Pt): ∀ u∈L.flatMap pu,u.oneCell' =true:=by
 intro u hu
 obtain ⟨n,_,h⟩:=OL.1 hu
 simp only [pu,NS,PI,or_false] at h
 rcases h with rfl|rfl<;>rfl
structure TopsOk (L:List Nd) (i:Nat) (st:List Pt):Prop where
 ok: ∀ p∈st,p.root<i∧p.depth≤32∧p.wide=decide (kQ L p.root=3)
 small:st.length≤i
set_option maxHeartbeats 2000000 in
theorem CB (L:List Nd) (i:Nat) (hi:i<L.length) (hlen:L.length≤256) (hwf:wfN L[i]) (st:List Pt) (hst:TopsOk L i st) (tv lv:Value) (w:World) (ht:Reads w tv L.length (L.flatMap cj)) (hp:Reads w lv st.length (st.flatMap pu)):
  aQ Tryz.prog 325 [tv,.int .i64 (i:Int),lv] w fun v H=> ∃ A cap,v= .tuple #[sl A (uu L L[i] i st).1.length cap,.int .i64 (uu L L[i] i st).2]∧H= [.own A 387 2 (uu L L[i] i st).1.length cap ((uu L L[i] i st).1.flatMap pu)]:=by
 have hp' :=hp
 obtain ⟨At,ct,rfl,ht1,ht2,ht3⟩:=ht
 obtain ⟨Al,cl,rfl,hl1,hl2,hl3⟩:=hp
 obtain ⟨gt,ot,rfl,hrt⟩:=ht3 (by omega)
 have hrn:=hrt.elem fX i hi
 obtain ⟨hok,hsmall⟩:=hst
 refine aq Tryz.func325 rfl Tryz.ntmps325 rfl ?_
 refine aP 387 2 ?_
 generalize hn:L[i]=n at hrn hwf
 generalize hR:uu L n i st=R
 unfold uu mA at hR
 by_cases hfe:cV n=0
 ·
  obtain ⟨hb0,hb16⟩:=wT hfe
  obtain ⟨k,hk⟩:=Qb hb0
  obtain ⟨hf1,hf7⟩:=uQ hfe
  have c1:=fun w=>hf1 ▸ jv n hwf.1 w
  have c2:=fun w=>lW n.fn hwf.2.1 hwf.2.2 w
  have c3:=fun w=>kf n.fn w
  have hne:=fun h7=>oL (hf7 h7).1
  have har:=fun h7=>(hf7 h7).2
  have c4: ∀ w,ax Tryz.prog 270 [.agg (cj n).toArray] w (.int .i64 (k:Int)):=fun w=>hk ▸ zJ n w
  rw [if_neg (by simp [hfe]),hk,OZ] at hR
  generalize bJ n.fn=ar at har c3
  repeat' (first|(apply aa;exact rfl;exact rfl;(intro w hm;exact c1 w))|(apply aa;exact rfl;exact rfl;(intro w hm;exact c2 w))|(apply aa;exact rfl;exact rfl;(intro w hm;exact c3 w))|(apply aa;exact rfl;exact rfl;(intro w hm;exact c4 w))|(apply ak;exact rfl;apply dQ;exact rfl;exact rfl;exact hne (by assumption))|(apply LP (c:= .tmp 24) [0,1,2,8];exact rfl)|(apply ak;exact rfl;apply kJ;exact rfl;exact rfl;omega;(simp only [maxLen];omega))|refine sT ?_|refine sO ?_|refine sM fun _=> ?_|(refine sC ?_ ?_<;>intro hb<;>try omega)|exact cT|fail)
  ·
   rw [if_pos (Or.inl (by omega))] at hR
   subst hR
   exact jh (.inl rfl) Tryz.results325 rfl rfl (H' := [.own none 387 2 0 0 []]) mS ⟨none,0,rfl,rfl⟩
  ·
   rename_i g
   have htl:=jq st k (by omega)
   have hlt: ¬ ((st.length:Int)<(k:Int)):=by omega
   refine ay [0,1,2,8,11,12] rfl (fun j:Nat=> [(13,.int .i64 (ck ((bp st k).take j):Int)),(14,.int .i64 (j:Int))]) (fun _=> [.box g 174 (cj n),.own none 387 2 0 0 []]) (fun j=>j≤k∧fk L n 0 (bp st k)=fk L n (j:Int) ((bp st k).drop j)) (fun j=>k - j) 0 ⟨by omega,rfl⟩ sB mS ?_
   rintro j ⟨hj,hfit⟩
   by_cases hjk:j<k
   ·
    obtain ⟨gl,ol,rfl,hrl⟩:=hl3 (by omega)
    have hjt:j<(bp st k).length:=by omega
    have hpe:(bp st k)[j]=st[st.length - k+j]'(by omega):=by simp [bp]
    have hrp:=hrl.elem uW (st.length - k+j) (by omega)
    have hds:=qi (bp st k) j hjt
    rw [NL hjt,fk] at hfit
    rw [← hpe] at hrp
    have hpm:=ik (OD hjt)
    generalize (bp st k)[j]=p at hpm hrp hds hfit
    obtain ⟨hp1,hp2,hp3⟩:=hok p hpm
    have hrr:=hrt.elem fX p.root (by omega)
    have hf:=Dd hfe (L:=L) (p:=p) (by omega) (by rw [hp3,iB]) (i:=(j:Int)) (by omega) (by omega)
    have hcall:=fun w=>CF n (j:Int) (L[p.root]'(by omega)) w
    rw [← hf] at hcall
    generalize L[p.root]'(by omega)=m at hrr hcall
    generalize hfo:uO L n (j:Int) p=fo at hcall hfit
    have hd33:=kU ((bp st k).take j) fun q hq=>(hok q (ik (OO hq))).2.1
    repeat' (first|(apply dO;exact rfl;exact rfl;(intro w hm;exact hcall w))|(apply ak;exact rfl;apply dE;exact rfl;exact rfl;(simp only [maxLen];omega))|(apply aK;exact rfl;apply dE;exact rfl;exact rfl;(simp only [maxLen];omega))|(apply ak;exact rfl;apply Ej;exact rfl;exact rfl;(simp only [maxLen];omega))|(apply ak;exact rfl;apply dg;exact rfl;exact rfl;(simp only [maxLen];omega))|(apply ak;exact rfl;apply BX;exact rfl;exact rfl)|refine sT ?_|refine sQ ?_|refine sO ?_|refine sOQ ?_|refine sD ?_|refine sM fun _=> ?_|(refine sC ?_ ?_<;>intro hb<;>try omega)|(refine sCQ ?_ ?_<;>intro hb<;>try omega)|exact cT|fail)
    ·
     rw [if_pos (Or.inr (by rw [hfit];simp_all))] at hR
     subst hR
     exact jh (.inl rfl) Tryz.results325 rfl rfl (H' := [.own none 387 2 0 0 []]) mS ⟨none,0,rfl,rfl⟩
    ·
     rw [PE 1,← hds]
     refine ⟨j+1,?_,(by first|omega|(dsimp only;omega)),sB,sB,mS⟩
     refine ⟨by omega,?_⟩
     rw [hfit,hb,O8]
     rfl
   ·
    have e:j=k:=by omega
    subst e
    have htk:(bp st j).take j=bp st j:=N9 (by omega)
    rw [htk]
    have hd33:=kU (bp st j) fun q hq=>(hok q (ik hq)).2.1
    rw [N0 (by omega),fk] at hfit
    rw [if_neg (by rw [hfit];simp;omega)] at hR
    have hcut:=hp'.cut (lo:=0) (hi:=st.length - j) (sz:=2) (by omega) (by omega)
    have hcl:(((st.flatMap pu).drop (0*2)).take ((st.length - j - 0)*2))=(st.take (st.length - j)).flatMap pu:=by
     rw [Nat.zero_mul,O4,PJ,jF uW]
    rw [hcl] at hcut
    have hll:((st.take (st.length - j)).flatMap pu).length=(st.length - j - 0)*2:=by rw [aI uW,NZ];omega
    repeat' (first|(apply dP;exact rfl;intro gb)|(apply ak;exact rfl;apply lO (lo:=0) (hi:=st.length - j);exact rfl;exact rfl;exact ⟨_,rfl⟩;omega;omega)|(apply eW (n' :=0) (c:=0) (A:=some _) (m:=st.length - j - 0);(iterate 3 exact rfl);exact pK;(intro w hm;exact hcut.of_w0 hm);exact hll;exact F9 _;omega;(simp only [maxLen];omega);intro A' cap' hA)|(apply cR;(iterate 3 exact rfl);(repeat first|exact .hd|apply Sel.tl|apply In.tl);(intro w hm;exact hm.cells_own (by (repeat first|exact .hd|apply Sel.tl|apply In.tl)));exact rfl;(simp [Value.oneCell',sl]);omega;(simp only [maxLen];omega);(intro A' cap' hA'))|refine sT ?_|refine sM fun _=> ?_|(refine sC ?_ ?_<;>intro hb<;>try omega)|exact cT|fail)
    ·
     rw [if_pos (by omega)] at hR
     subst hR
     exact jh (.inl rfl) Tryz.results325 rfl rfl (H' := [.own none 387 2 0 0 []]) mS ⟨none,0,rfl,rfl⟩
    ·
     rw [if_neg (by omega)] at hR
     subst hR
     have e1:(st.take (st.length - j)++ [(⟨i,ck (bp st j),decide (n.kind=3)⟩:Pt)]).length=0+(st.length - j - 0)+1:=by simp
     have e2:(st.take (st.length - j)++ [(⟨i,ck (bp st j),decide (n.kind=3)⟩:Pt)]).flatMap pu= []++(st.take (st.length - j)).flatMap pu++ [.int .i64 (i:Int),.int .i64 (ck (bp st j):Int)]:=by
      rw [NR];rfl
     refine jh (.inl rfl) Tryz.results325 rfl rfl (H' := [.own A' 387 2 (0+(st.length - j - 0)+1) cap' ([]++(st.take (st.length - j)).flatMap pu++ [.int .i64 (i:Int),.int .i64 (ck (bp st j):Int)])]) mS ⟨A',cap',?_⟩
     dsimp only
     rw [e1,e2]
     exact ⟨rfl,rfl⟩
 ·
  rw [if_pos hfe] at hR
  rcases AJ hfe with ⟨h1,h2⟩|⟨h1,h7,h2,h3⟩|⟨h1,h7,h2,h3,h4⟩
  ·
   have c1:=fun w=>h1 ▸ jv n hwf.1 w
   rw [h2] at hR
   subst hR
   repeat' (first|(apply ak;exact rfl;apply aj;exact rfl;exact rfl;exact hi)|(apply ak;exact rfl;apply aA;exact rfl;exact hrn;exact rfl)|(apply aa;exact rfl;exact rfl;(intro w hm;exact c1 w))|refine sT ?_|refine sM fun _=> ?_|(refine sC ?_ ?_<;>intro hb<;>try omega)|exact cT|fail)
   exact jh (.inl rfl) Tryz.results325 rfl rfl (H' := [.own none 387 2 0 0 []]) mS ⟨none,0,rfl,rfl⟩
  ·
   have c1:=fun w=>h1 ▸ jv n hwf.1 w
   have c2:=fun w=>rV h2 hwf.2.1 ▸ lW n.fn hwf.2.1 hwf.2.2 w
   rw [h3] at hR
   subst hR
   repeat' (first|(apply ak;exact rfl;apply aj;exact rfl;exact rfl;exact hi)|(apply ak;exact rfl;apply aA;exact rfl;exact hrn;exact rfl)|(apply aa;exact rfl;exact rfl;(intro w hm;exact c1 w))|(apply aa;exact rfl;exact rfl;(intro w hm;exact c2 w))|(apply ak;exact rfl;apply mL;(iterate 3 exact rfl))|refine sT ?_|refine sM fun _=> ?_|(refine sC ?_ ?_<;>intro hb<;>try omega)|exact cT|fail)
   exact jh (.inl rfl) Tryz.results325 rfl rfl (H' := [.own none 387 2 0 0 []]) mS ⟨none,0,rfl,rfl⟩
  ·
   have c1:=fun w=>h1 ▸ jv n hwf.1 w
   have c2:=fun w=>lW n.fn hwf.2.1 hwf.2.2 w
   have c3:=fun w=>kf n.fn w
   have hne:=oL h2
   rw [h4] at hR
   subst hR
   generalize bJ n.fn=ar at h3 c3
   repeat' (first|(apply ak;exact rfl;apply aj;exact rfl;exact rfl;exact hi)|(apply ak;exact rfl;apply aA;exact rfl;exact hrn;exact rfl)|(apply aa;exact rfl;exact rfl;(intro w hm;exact c1 w))|(apply aa;exact rfl;exact rfl;(intro w hm;exact c2 w))|(apply aa;exact rfl;exact rfl;(intro w hm;exact c3 w))|(apply ak;exact rfl;apply dQ;exact rfl;exact rfl;exact hne)|refine sT ?_|refine sM fun _=> ?_|(refine sC ?_ ?_<;>intro hb<;>try omega)|exact cT|fail)
   all_goals exact jh (.inl rfl) Tryz.results325 rfl rfl (H' := [.own none 387 2 0 0 []]) mS ⟨none,0,rfl,rfl⟩
end Go.SL

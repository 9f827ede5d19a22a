/-
  Lemmas and walks, put together: Q5 Q6.
-/
import Derived.Test.YtfeicpjdgjflaaaGreatDoorKv21
set_option linter.unusedSimpArgs false
set_option linter.unusedVariables false
set_option maxRecDepth 20000
set_option maxHeartbeats 16000000
namespace Go.SL
open Go Go.Proofs
attribute [local irreducible] W WL WQ WG WA WX WLI WR WT WC VOp RW thn blk bg scp aS aV bi FnAt FnIn FnP ceP
def Lv.end (y:Lv) (x:Cx) (t:Tk) (fn:Int) (n k m:Nat) (r:Out):Prop:=n≤1000∧k≤y.k∧y.out.length+k≤m+y.k∧
 ((y.a=0∧y.e=0∧y.k≤x.toks.length∧n≤y.out.length∧dX x.fin t fn n ⟨x.toks.drop y.k,y.out⟩=some r)∨(y.e≠0∧y.k≤x.toks.length+1∧r= .error (y.a,y.e)))
def Lv.arg (y:Lv) (x:Cx) (fn:Int) (n k m:Nat) (r:Out) (f:Nat):Prop:=y.f≤f∧n≤1000∧k≤y.k∧y.out.length+k≤m+y.k∧
 ((y.a=0∧y.e=0∧y.k≤x.toks.length∧n≤y.out.length∧(if (hdT x.fin (x.toks.drop y.k)).kind=11 then bK x.fin y.f (.args fn n) ⟨x.toks.drop (y.k+1),y.out⟩ else some (.ok (n,⟨x.toks.drop y.k,y.out⟩)))=some r)∨(y.e≠0∧y.k≤x.toks.length+1∧r= .error (y.a,y.e)))
theorem CH {x:Cx} {R H:List Blk} {v:Value} {f f' k m k0 m0 n:Nat} {fn:Int} {p:PS} {r r1:Out} (hf:f≤f') (hr1:El f fn n x.fin p=some r1) (hm0:p.out.length=m0) (hn:n≤m0) (hm6:m0≤500)
 (hr2:(∃ e,r1= .error e∧r= .error e)∨(∃ n' p',r1= .ok (n',p')∧(if (hdT x.fin p'.l).kind=11 then bK x.fin f (.args fn (n+1)) p'.skip else some (.ok (n+1,p')))=some r)) (hR:RR x k0 m0 R r1 v H) (hk:k≤k0) (hm:m0+k≤m+k0):
 ∃ f2 k2 B2 cb2 o2 a2 e2,(Lv.mk f2 k2 B2 cb2 o2 a2 e2).arg x fn (n+1) k m r f' ∧f2≤f∧H=x.B k2 B2 cb2 o2 a2 e2++R:=by
 obtain ⟨_,hR⟩:=hR;rcases hr2 with ⟨e,rfl,rfl⟩|⟨n1,p1,rfl,hr2⟩
 ·obtain ⟨k1,B1,cb1,o1,h1,h2,h3,h4,rfl⟩:=hR;exact ⟨f,k1,B1,cb1,o1,e.1,e.2,⟨hf,by omega,by dsimp only;omega,by dsimp only;omega,.inr ⟨h1,h2,rfl⟩⟩,Nat.le_refl _,rfl⟩
 ·obtain ⟨k1,B1,cb1,h1,h2,h3,h4,rfl⟩:=hR;have hg:=vT hr1;refine ⟨f,k1,B1,cb1,p1.out,0,0,⟨hf,by omega,by dsimp only;omega,by dsimp only;omega,.inl ⟨rfl,rfl,h1,by dsimp only;omega,?_⟩⟩,Nat.le_refl _,rfl⟩;dsimp only;rw [h2] at hr2;have e1:p1.skip=⟨x.toks.drop (k1+1),p1.out⟩:=by simp only [PS.skip,h2,Yj]
  have e2:p1=⟨x.toks.drop k1,p1.out⟩:=by obtain ⟨l,o⟩:=p1;simp only at h2;rw [h2]
  rw [e1] at hr2;rw [← e2];exact hr2
theorem OE (f:Nat) (t:Tk) (ih: ∀ f' ≤f,rp f' (.level 1) 241 [.int .i64 1]) (x:Cx) (k:Nat) (p:PS) (B:Option Nat) (cb:Nat) (r:Out) (R:List Blk) (w0:World) (hk:k<x.toks.length) (hp:p.l=x.toks.drop k) (hout:p.out.length≤k) (ht:hdT x.fin p.l=t) (ht7:t.kind=7) (hrun:zP f t x.fin p=some r):
 FnIn Tryz.prog 406 [.pointer (some ⟨x.g,0,none⟩),.agg (bw t).toArray] w0 (x.B (k+1) B cb p.out 0 0++R) (RR x (k+1) p.out.length R r):=by
 refine bE Tryz.func406 rfl Tryz.ntmps406 rfl ?_;have hxt:=x.ht;have hF:=fun w=>yp t.text w;have h9:(hdT x.fin p.skip.l).kind=9:=by
  have hc:=x.hc.drop k;rw [← hp] at hc;exact hc.name (by rw [ht];exact ht7)
 have hd9: ∃ u,hdT x.fin (x.toks.drop (k+1))=u∧u.kind=9:=⟨_,rfl,by rw [← Cx.skip hp];exact h9⟩;obtain ⟨u9,hd9,hu9⟩:=hd9;have hlt9:=Cx.lt hd9 (by omega);unfold zP at hrun;have hfn:(bo t.text).2=0→1≤(bo t.text).1∧(bo t.text).1≤50:=by
  intro h;have hb1:=kn d9 t.text 0 (by omega);rw [kf] at hb1;unfold bo at h ⊢;split at h
  ·cases h
  ·rename_i hne;rw [if_neg hne];dsimp only;omega
 obtain ⟨fn,fe,hfe⟩: ∃ fn fe,bo t.text=(fn,fe):=⟨_,_,rfl⟩;rw [hfe] at hrun hF hfn;dsimp only at hF hfn;by_cases h0:fe≠0
 ·rw [if_pos h0] at hrun;cases hrun;repeat' (first|apply ag (f:=420);exact rfl;exact rfl;intro w' _;exact hF w'|apply ak (f:=242);exact rfl;exact rfl;exact FnIn.msub (il x.g x.sa x.A _ x.cap (k+1) B _ cb 0 0 _ _ _ _) (MSub.pick pK (.refl _));rintro _ _ ⟨rfl,rfl⟩|refine zZA ?_|refine sM fun _=>?_|refine sC ?_ ?_<;>intro hb<;>try omega|exact cT|fail)
  all_goals first
   |omega
   | (refine gS (x' := (t.at_, 10)) (k' := k + 1) (out' := p.out) (B' := B) (cb' := cb) eIO rfl (by simp) (by omega) (VA _) (VA _) ?_
      simp only [Cx.B,rB,Vz,Vp,Vq];exact mS)
 rw [if_neg h0] at hrun;have hfe0:fe=0:=Classical.not_not.1 h0;subst hfe0;obtain ⟨hf1,hf2⟩:=hfn rfl;rw [if_neg (by rw [h9];simp)] at hrun;have hp2:p.skip.skip.l=x.toks.drop (k+1+1):=Cx.skip (Cx.skip hp);obtain ⟨u,hd⟩: ∃ u,hdT x.fin (x.toks.drop (k+1+1))=u:=⟨_,rfl⟩;rw [hp2,hd] at hrun;have e2:p.skip.skip=⟨x.toks.drop (k+1+1),p.out⟩:=by
  have:p.skip.skip=⟨p.skip.skip.l,p.out⟩:=rfl;rw [this,hp2]
 rw [e2] at hrun;repeat' (first|apply ag (f:=420);exact rfl;exact rfl;intro w' _;exact hF w'|apply ak (f:=405);exact rfl;exact rfl;exact FnIn.msub (nR 9 (VR x.hsa (by decide)) (VR x.ht (by decide)) (by omega) (B:=B) (cb:=cb) (out:=p.out) (at_:=0) (e:=0) (g:=x.g) (A:=x.A) (cap:=x.cap) hd9 hu9 _ w0) (MSub.pick pK (MSub.pick pK (MSub.pick pK (MSub.refl _))));rintro _ _ ⟨rfl,rfl⟩|rename_i g3;refine J8 (id:=6) (ι:=Nat × Lv) [0,3,4] rfl (fun y=> [(6,.int .i64 (y.1:Int))]) (fun y=> .box g3 339 (bw t)::y.2.H x R) (fun y=>y.2.end x t fn y.1 (k+1+1) p.out.length r) ?_ ?_|refine zZA ?_|refine sM fun _=>?_|refine sC ?_ ?_<;>intro hb<;>try omega|exact cT|fail)
 ·by_cases h10:u.kind=10
  ·rw [if_pos h10] at hrun;repeat' (first|apply ai;exact rfl;apply eu;exact rfl;exact rfl|apply ag (f:=243);exact rfl;exact rfl;exact fun w hm=>Cx.next hd (B:=B) (cb:=cb) (out:=p.out) (at_:=0) (e:=0) (MSub.pick pK (MSub.pick pK (MSub.pick pK (MSub.nil _)))) w hm|refine dH (0,⟨0,k+1+1,B,cb,p.out,0,0⟩) ?_ sB (by simp only [Lv.H,Cx.B,rB,Vp,Vq];exact mS)|refine zZA ?_|refine sM fun _=>?_|refine sC ?_ ?_<;>intro hb<;>try omega|exact cT|fail)
   all_goals first|omega|exact ⟨Nat.zero_le _,Nat.le_refl _,by dsimp only;omega,.inl ⟨rfl,rfl,by dsimp only;omega,Nat.zero_le _,hrun⟩⟩
  ·rw [if_neg h10] at hrun;obtain ⟨r0,hr0,hrend⟩:=bU hrun
   cases f with
   |zero=>cases hr0
   |succ f=>
     rw [Ek] at hr0;obtain ⟨r1,hr1,hr2⟩:=bU hr0;have hA0:=tM f fn 0 hf1 hf2 (ih f (XY f));repeat' (first|apply ai;exact rfl;apply eu;exact rfl;exact rfl|apply ag (f:=243);exact rfl;exact rfl;exact fun w hm=>Cx.next hd (B:=B) (cb:=cb) (out:=p.out) (at_:=0) (e:=0) (MSub.pick pK (MSub.pick pK (MSub.pick pK (MSub.nil _)))) w hm|apply ak (f:=421);exact rfl;exact rfl;exact FnIn.msub (hA0 x (k+1+1) ⟨x.toks.drop (k+1+1),p.out⟩ B cb r1 _ w0 (by omega) rfl (by dsimp only;omega) hr1) (MSub.pick pK (MSub.pick pK (MSub.pick pK (MSub.refl _))));rintro v1 H1 hR;obtain ⟨f2,k2,B2,cb2,o2,a2,e2,hy,_,rfl⟩:=CH (f' :=f) (k:=k+1+1) (m:=p.out.length) (Nat.le_refl _) hr1 rfl (Nat.zero_le _) (by dsimp only;omega) hr2 hR (Nat.le_refl _) (Nat.le_refl _)|refine zZA ?_|refine sM fun _=>?_|refine sC ?_ ?_<;>intro hb<;>try omega|exact cT|fail)
     all_goals try omega
     refine ay [0,3,4] rfl (fun y:Nat × Lv=> [(6,.int .i64 (y.1:Int))]) (fun y=> .box g3 339 (bw t)::y.2.H x R) (fun y=>y.2.arg x fn y.1 (k+1+1) p.out.length r0 f) (fun y=>y.2.m) (1,⟨f2,k2,B2,cb2,o2,a2,e2⟩) hy sB (by simp only [Lv.H,Cx.B,rB,Vz,Vp,Vq];exact mS) ?_;clear hy hR hr1 hr2 hr0;rintro ⟨n,f',k1,B1,cb1,o1,a,e⟩ ⟨hf',hn,h3,h4,hor⟩;dsimp only at hf' hn h3 h4 hor;simp only [Lv.H];rcases hor with ⟨rfl,rfl,h1,hno,hr2⟩|⟨h1,h2,rfl⟩
     ·obtain ⟨u1,hd1⟩: ∃ u,hdT x.fin (x.toks.drop k1)=u:=⟨_,rfl⟩;rw [hd1] at hr2;by_cases h11:u1.kind=11
      ·rw [if_pos h11] at hr2;have hlt1:=Cx.lt hd1 (by omega)
       cases f' with
       |zero=>cases hr2
       |succ f' =>
         rw [Ek] at hr2;obtain ⟨r2,hr3,hr4⟩:=bU hr2;have hA1:=tM f' fn n hf1 hf2 (ih f' (by omega));repeat' (first|apply ai;exact rfl;apply eu;exact rfl;exact rfl|apply ag (f:=243);exact rfl;exact rfl;exact fun w hm=>Cx.next hd1 (B:=B1) (cb:=cb1) (out:=o1) (at_:=0) (e:=0) (MSub.pick pK (MSub.pick pK (MSub.pick pK (MSub.nil _)))) w hm|apply ak (f:=421);exact rfl;exact rfl;exact FnIn.msub (hA1 x (k1+1) ⟨x.toks.drop (k1+1),o1⟩ B1 cb1 r2 _ w0 hlt1 rfl (by dsimp only;omega) hr3) (MSub.pick pK (MSub.pick pK (MSub.pick pK (MSub.refl _))));rintro v1 H1 hR;obtain ⟨f2,k2,B2,cb2,o2,a2,e2,hy,hff,rfl⟩:=CH (f' :=f) (k:=k+1+1) (m:=p.out.length) (by omega) hr3 rfl hno (by dsimp only;omega) hr4 hR (by omega) (by dsimp only;omega)|refine zZA ?_|refine sM fun _=>?_|refine sC ?_ ?_<;>intro hb<;>try omega|exact cT|fail)
         all_goals first|omega|exfalso;simp_all;done|skip
         refine ⟨(n+1,⟨f2,k2,B2,cb2,o2,a2,e2⟩),hy,(by simp only [Lv.m,if_true];split<;>omega),sB,sB,?_⟩;simp only [Lv.H,Cx.B,rB,Vz,Vp,Vq];exact mS
      ·rw [if_neg h11] at hr2;cases hr2;repeat' (first|apply ai;exact rfl;apply eu;exact rfl;exact rfl|apply ag (f:=243);exact rfl;exact rfl;exact fun w hm=>Cx.next hd1 (B:=B1) (cb:=cb1) (out:=o1) (at_:=0) (e:=0) (MSub.pick pK (MSub.pick pK (MSub.pick pK (MSub.nil _)))) w hm|refine dH (n,⟨0,k1,B1,cb1,o1,0,0⟩) ?_ sB (by simp only [Lv.H,Cx.B,rB,Vz,Vp,Vq];exact mS)|refine zZA ?_|refine sM fun _=>?_|refine sC ?_ ?_<;>intro hb<;>try omega|exact cT|fail)
       all_goals first|omega|exfalso;simp_all;done|skip
       rcases hrend with ⟨e,h,_⟩|⟨n3,p3,h,h7⟩
       ·cases h
       ·cases h;exact ⟨hn,h3,h4,.inl ⟨rfl,rfl,h1,hno,h7⟩⟩
     ·repeat' first|refine dH (n,⟨0,k1,B1,cb1,o1,a,e⟩) ?_ sB (by simp only [Lv.H,Cx.B,rB,Vz,Vp,Vq];exact mS)|refine zZA ?_|refine sM fun _=>?_|refine sC ?_ ?_<;>intro hb<;>try omega|exact cT|fail
      all_goals first|omega|exact absurd (by assumption) h1|skip
      rcases hrend with ⟨e',h,h8⟩|⟨n3,p3,h,h7⟩
      ·cases h;exact ⟨hn,h3,h4,.inr ⟨h1,h2,h8⟩⟩
      ·cases h
 ·rintro ⟨n,f',k1,B1,cb1,o1,a,e⟩ ⟨hn,h3,h4,hor⟩;dsimp only at hn h3 h4 hor;simp only [Lv.H];clear hrun;rcases hor with ⟨rfl,rfl,h1,hno,hend⟩|⟨h1,h2,rfl⟩
  rotate_left
  ·repeat' first|refine zZA ?_|refine sM fun _=>?_|refine sC ?_ ?_<;>intro hb<;>try omega|exact cT|fail
   all_goals first
    |omega
    |exact absurd (by assumption) h1
    | (refine gS (x' := (a, e)) (k' := k1) (out' := o1) (B' := B1) (cb' := cb1) eIO rfl h1 h2 (by omega) (by omega) ?_
       simp only [Cx.B,rB,Vz,Vp,Vq];exact mS)
  have hA:=fun w=>mH fn w;have hak:=mY (fn:=fn) (by simp [dF,hf1,hf2]);have hap:=CG hf1 hf2;rw [hak] at hap;obtain ⟨least,most,hlm⟩: ∃ a b,cg fn=(a,b):=⟨_,_,rfl⟩;rw [hlm] at hak hA hap;dsimp only at hak hA hap;obtain ⟨u1,hd1⟩: ∃ u,hdT x.fin (x.toks.drop k1)=u:=⟨_,rfl⟩;by_cases h10:u1.kind≠10
  ·have hr' :r= .error (u1.at_,4):=by
    simp only [dX,hd1,if_pos h10] at hend;exact (Option.some.inj hend).symm
   subst hr';repeat' (first|apply ak (f:=405);exact rfl;exact rfl;exact FnIn.msub (yw 10 (VR x.hsa (by decide)) (VR x.ht (by decide)) (B:=B1) (cb:=cb1) (out:=o1) (at_:=0) (e:=0) (g:=x.g) (A:=x.A) (cap:=x.cap) hd1 h10 _ w0) (MSub.pick pK (MSub.pick pK (MSub.pick pK (MSub.refl _))));rintro _ _ ⟨rfl,rfl⟩|apply ag (f:=391);exact rfl;exact rfl;intro w' _;exact hA w'|apply ak (f:=242);exact rfl;exact rfl;exact FnIn.msub (il x.g x.sa x.A _ x.cap k1 B1 _ cb1 u1.at_ 4 _ _ _ _) (MSub.pick pK (.refl _));rintro _ _ ⟨rfl,rfl⟩|refine zZA ?_|refine sM fun _=>?_|refine sC ?_ ?_<;>intro hb<;>try omega|exact cT|fail)
   all_goals first
    |omega
    |exfalso;simp_all;done
    | (refine gS (x' := (u1.at_, 4)) (k' := k1) (out' := o1) (B' := B1) (cb' := cb1) eIO rfl (by simp) (by omega) (by omega) (by (try simp only [Vn, Vs]); omega) ?_
       simp only [Cx.B,rB,Vn,Vs,VF,VE,VZ,VB,Vz,Vp,Vq];exact mS)
  have h10:u1.kind=10:=Classical.not_not.1 h10;have hlt1:=Cx.lt hd1 (by omega);by_cases hr:(n:Int)<least∨most<(n:Int)
  ·have hr' :r= .error (t.at_,11):=by
    simp only [dX,hd1,h10,hak,if_pos hr] at hend;exact (Option.some.inj hend).symm
   subst hr';repeat' (first|apply ak (f:=405);exact rfl;exact rfl;exact FnIn.msub (nR 10 (VR x.hsa (by decide)) (VR x.ht (by decide)) (by omega) (B:=B1) (cb:=cb1) (out:=o1) (at_:=0) (e:=0) (g:=x.g) (A:=x.A) (cap:=x.cap) hd1 h10 _ w0) (MSub.pick pK (MSub.pick pK (MSub.pick pK (MSub.refl _))));rintro _ _ ⟨rfl,rfl⟩|apply ag (f:=391);exact rfl;exact rfl;intro w' _;exact hA w'|apply ak (f:=242);exact rfl;exact rfl;exact FnIn.msub (il x.g x.sa x.A _ x.cap (k1+1) B1 _ cb1 0 0 _ _ _ _) (MSub.pick pK (.refl _));rintro _ _ ⟨rfl,rfl⟩|refine zZA ?_|refine sM fun _=>?_|refine sC ?_ ?_<;>intro hb<;>try omega|exact cT|fail)
   all_goals first
    |omega
    |exfalso;simp_all;done
    | (refine gS (x' := (t.at_, 11)) (k' := k1 + 1) (out' := o1) (B' := B1) (cb' := cb1) eIO rfl (by simp) (by omega) (by omega) (by (try simp only [Vn, Vs]); omega) ?_
       simp only [Cx.B,rB,Vn,Vs,VF,VE,VZ,VB,Vz,Vp,Vq];exact mS)
  have hpos:0<o1.length:=by omega
  obtain ⟨xn,hx⟩: ∃ xn,o1[o1.length - 1]? =some xn:=⟨_,Vo (by omega)⟩;rw [zy (p:=⟨x.toks.drop k1,o1⟩) hx] at hend;dsimp only at hend;rw [hd1,hak,if_neg (by rw [h10];simp)] at hend;dsimp only at hend;rw [if_neg hr] at hend;refine ba (A:=B1) (by simp only [Cx.B,rB,Vz,Vp,Vq];exact pK) hpos fun gb hB=> ?_;subst hB;by_cases hkx:46≤fn∧xn.kind≠2∧xn.kind≠3
  ·rw [if_pos hkx] at hend;cases hend;repeat' (first|apply ak (f:=405);exact rfl;exact rfl;exact FnIn.msub (nR 10 (VR x.hsa (by decide)) (VR x.ht (by decide)) (by omega) (B:=some gb) (cb:=cb1) (out:=o1) (at_:=0) (e:=0) (g:=x.g) (A:=x.A) (cap:=x.cap) hd1 h10 _ w0) (MSub.pick pK (MSub.pick pK (MSub.pick pK (MSub.refl _))));rintro _ _ ⟨rfl,rfl⟩|apply ag (f:=391);exact rfl;exact rfl;intro w' _;exact hA w'|apply rS (id:=19);kernel_rfl;kernel_rfl|apply aY;exact rfl;apply fE;exact rfl;exact rfl;exact hpos;simp only [maxLen];omega|apply aY;exact rfl;apply aa;exact rfl;exact rfl;omega|apply aY;exact rfl;apply mB (k:=0);exact cR;exact rfl;exact pK;decide;exact hx;exact rfl|apply ak (f:=242);exact rfl;exact rfl;exact FnIn.msub (il x.g x.sa x.A _ x.cap (k1+1) (some gb) _ cb1 0 0 _ _ _ _) (MSub.pick pK (.refl _));rintro _ _ ⟨rfl,rfl⟩|apply aG;(iterate 3 exact rfl);exact pK;exact pK;exact rfl;simp [bu,Value.oneCell'];omega;simp only [maxLen];omega;intro g8 c8|refine zZR ?_|refine sM fun _=>?_|refine sC ?_ ?_<;>intro hb<;>try omega|refine sCQ ?_ ?_<;>intro hb<;>try omega|exact cT|fail)
   all_goals first
    |omega
    |exfalso;simp_all;done
    | (refine gS (x' := (t.at_, 4)) (k' := k1 + 1) (out' := o1 ++ [⟨7, bX, aZ, 0, fn, n⟩]) (B' := some g8) (cb' := c8) eIO rfl (by simp) (by omega) (by omega) (by (try simp only [Vn, Vs]); omega) ?_
       simp only [Cx.B,rB,Vn,Vs,VF,VE,VZ,VB,Vz,Vp,Vq];exact mS)
  ·rw [if_neg hkx] at hend;cases hend;repeat' (first|apply ak (f:=405);exact rfl;exact rfl;exact FnIn.msub (nR 10 (VR x.hsa (by decide)) (VR x.ht (by decide)) (by omega) (B:=some gb) (cb:=cb1) (out:=o1) (at_:=0) (e:=0) (g:=x.g) (A:=x.A) (cap:=x.cap) hd1 h10 _ w0) (MSub.pick pK (MSub.pick pK (MSub.pick pK (MSub.refl _))));rintro _ _ ⟨rfl,rfl⟩|apply ag (f:=391);exact rfl;exact rfl;intro w' _;exact hA w'|apply rS (id:=19);kernel_rfl;kernel_rfl|apply aY;exact rfl;apply fE;exact rfl;exact rfl;exact hpos;simp only [maxLen];omega|apply aY;exact rfl;apply aa;exact rfl;exact rfl;omega|apply aY;exact rfl;apply mB (k:=0);exact cR;exact rfl;exact pK;decide;exact hx;exact rfl|apply aG;(iterate 3 exact rfl);exact pK;exact pK;exact rfl;simp [bu,Value.oneCell'];omega;simp only [maxLen];omega;intro g8 c8|refine zZR ?_|refine sM fun _=>?_|refine sC ?_ ?_<;>intro hb<;>try omega|refine sCQ ?_ ?_<;>intro hb<;>try omega|exact cT|fail)
   all_goals first
    |omega
    |exfalso;simp_all;done
    | (refine lU (k' := k1 + 1) (p' := PS.put (PS.skip ⟨x.toks.drop k1, o1⟩) ⟨7, bX, aZ, 0, fn, n⟩) (B' := some g8) (cb' := c8) eIO rfl hlt1 (Cx.skip rfl) (by omega) (by simp only [PS.put, PS.skip, Vn, Vs]; omega) ?_
       simp only [PS.put,PS.skip,Cx.B,rB,Vn,Vs,VF,VE,VZ,VB,Vz,Vp,Vq];exact mS)
theorem FV (f:Nat) (ih: ∀ f' ≤f,rp f' (.level 1) 241 [.int .i64 1]):rp (f+1) .prim 388 []:=by
 intro x k p B cb r R w0 hk hp hout hrun;refine bE Tryz.func388 rfl Tryz.ntmps388 rfl ?_;have hxt:=x.ht;dsimp only at hrun;obtain ⟨t,ht⟩: ∃ t,hdT x.fin p.l=t:=⟨_,rfl⟩;have hd:hdT x.fin (x.toks.drop k)=t:=hp ▸ ht;have hN:=fun w hm=>Cx.next hd (B:=B) (cb:=cb) (out:=p.out) (at_:=0) (e:=0) (w0:=w0) (H:=x.B k B cb p.out 0 0++R) ⟨R,.refl _⟩ w hm;by_cases h7:t.kind=7
 ·rw [BN _ _ _ (by rw [ht];exact h7),ht] at hrun;have hlt:=Cx.lt hd (by omega);have hC:=OE f t ih x k p B cb r;repeat' (first|apply ag (f:=243);exact rfl;exact rfl;exact hN|apply ak (f:=406);exact rfl;exact rfl;exact FnIn.msub (hC _ w0 hlt hp hout ht h7 hrun) (MSub.pick pK (MSub.pick pK (MSub.pick pK (MSub.refl _))));rintro v1 H1 ⟨rfl,hR⟩|refine zZA ?_|refine sM fun _=>?_|refine sC ?_ ?_<;>intro hb<;>try omega|fail)
  all_goals try omega
  cases r with
  |error e=>
    obtain ⟨k1,B1,cb1,o1,j1,j2,j3,j4,rfl⟩:=hR;refine gS (k' :=k1) (out' :=o1) (B' :=B1) (cb' :=cb1) eIO rfl j1 j2 (by omega) (by omega) ?_;simp only [Cx.B,rB,Vz,Vp,Vq];exact mS
  |ok y=>
    obtain ⟨n1,p1⟩:=y;obtain ⟨k1,B1,cb1,j1,j2,j3,j4,rfl⟩:=hR;refine lU (k' :=k1) (p' :=p1) (B' :=B1) (cb' :=cb1) eIO rfl j1 j2 (by omega) (by omega) ?_;simp only [Cx.B,rB,Vz,Vp,Vq];exact mS
 rw [bK] at hrun;dsimp only at hrun;rw [ht] at hrun;by_cases h14:1≤t.kind∧t.kind≤4
 ·rw [if_pos h14] at hrun;have hlt:=Cx.lt hd (by omega);cases hrun;rcases (by omega:t.kind=1∨t.kind=2∨t.kind=3∨t.kind=4) with hc|hc|hc|hc
  ·have hl:o7 t=⟨1,⟨1,t.num,aB⟩,aZ,0,0,0⟩:=by simp [o7,hc]
   rw [hl];repeat' (first|apply ag (f:=243);exact rfl;exact rfl;exact hN|refine zZA ?_|refine sM fun _=>?_|refine sC ?_ ?_<;>intro hb<;>try omega|fail)
   all_goals try omega
   refine kX 14 rfl (by kernel_rfl) ?_;((with_reducible apply aX (i:=0));exact rfl;exact rfl;(iterate 3 decide+kernel);exact nP;intro _ _;exact vP);((with_reducible apply aX (i:=1));exact rfl;exact rfl;(iterate 3 decide+kernel);exact nP;intro _ _;exact vP);((with_reducible apply aX (i:=2));exact rfl;exact rfl;(iterate 3 decide+kernel);exact nP;intro _ _;exact vP);((with_reducible apply aX (i:=3));exact rfl;exact rfl;(iterate 3 decide+kernel);exact nP;intro _ _;exact vP);((with_reducible apply aX (i:=5));exact rfl;exact rfl;(iterate 3 decide+kernel);exact nP;intro _ _;exact vP);repeat' (first|apply dO (i:=4) (j:=6);exact rfl;exact rfl;decide+kernel|apply dO (i:=4) (j:=7);exact rfl;exact rfl;decide+kernel|apply dO (i:=4) (j:=8);exact rfl;exact rfl;decide+kernel|apply dO (i:=4) (j:=9);exact rfl;exact rfl;decide+kernel|apply aM (i:=4);exact rfl;decide+kernel|apply aM (i:=5);exact rfl;decide+kernel|apply aM (i:=6);exact rfl;decide+kernel|apply aM (i:=7);exact rfl;decide+kernel|apply aM (i:=8);exact rfl;decide+kernel|apply aM (i:=9);exact rfl;decide+kernel|apply aM (i:=10);exact rfl;decide+kernel|apply aM (i:=11);exact rfl;decide+kernel|apply aM (i:=12);exact rfl;decide+kernel|apply aM (i:=13);exact rfl;decide+kernel|apply kV;decide+kernel|apply aG;(iterate 3 exact rfl);exact pK;exact pK;exact rfl;simp [bu,Value.oneCell'];omega;simp only [maxLen];omega;intro g8 c8|refine zZA ?_|refine sM fun _=>?_|refine sC ?_ ?_<;>intro hb<;>try omega|fail)
   all_goals first
    |omega
    | (refine lU (k' := k + 1) (p' := p.skip.put ⟨1, ⟨1, t.num, aB⟩, aZ, 0, 0, 0⟩) (B' := some g8) (cb' := c8) eIO rfl hlt (Cx.skip hp) (XY k) (by simp only [PS.put, PS.skip, Vn, Vs]; omega) ?_
       simp only [PS.put,PS.skip,Cx.B,rB,Vn,Vs,VF,VE,VZ,VB,Vz,Vp,Vq];exact mS)
  ·have hl:o7 t=⟨1,⟨3,0,t.text⟩,aZ,0,0,0⟩:=by simp [o7,hc]
   rw [hl];repeat' (first|apply ag (f:=243);exact rfl;exact rfl;exact hN|refine zZA ?_|refine sM fun _=>?_|refine sC ?_ ?_<;>intro hb<;>try omega|fail)
   all_goals try omega
   refine kX 14 rfl (by kernel_rfl) ?_;((with_reducible apply aX (i:=0));exact rfl;exact rfl;(iterate 3 decide+kernel);exact nP;intro _ _;exact vP);((with_reducible apply aX (i:=1));exact rfl;exact rfl;(iterate 3 decide+kernel);exact nP;intro _ _;exact vP);((with_reducible apply aX (i:=2));exact rfl;exact rfl;(iterate 3 decide+kernel);exact nP;intro _ _;exact vP);((with_reducible apply aX (i:=3));exact rfl;exact rfl;(iterate 3 decide+kernel);exact nP;intro _ _;exact vP);((with_reducible apply aX (i:=5));exact rfl;exact rfl;(iterate 3 decide+kernel);exact nP;intro _ _;exact vP);repeat' (first|apply dO (i:=4) (j:=6);exact rfl;exact rfl;decide+kernel|apply dO (i:=4) (j:=7);exact rfl;exact rfl;decide+kernel|apply dO (i:=4) (j:=8);exact rfl;exact rfl;decide+kernel|apply dO (i:=4) (j:=9);exact rfl;exact rfl;decide+kernel|apply aM (i:=4);exact rfl;decide+kernel|apply aM (i:=5);exact rfl;decide+kernel|apply aM (i:=6);exact rfl;decide+kernel|apply aM (i:=7);exact rfl;decide+kernel|apply aM (i:=8);exact rfl;decide+kernel|apply aM (i:=9);exact rfl;decide+kernel|apply aM (i:=10);exact rfl;decide+kernel|apply aM (i:=11);exact rfl;decide+kernel|apply aM (i:=12);exact rfl;decide+kernel|apply aM (i:=13);exact rfl;decide+kernel|apply kV;decide+kernel|apply aG;(iterate 3 exact rfl);exact pK;exact pK;exact rfl;simp [bu,Value.oneCell'];omega;simp only [maxLen];omega;intro g8 c8|refine zZA ?_|refine sM fun _=>?_|refine sC ?_ ?_<;>intro hb<;>try omega|fail)
   all_goals first
    |omega
    | (refine lU (k' := k + 1) (p' := p.skip.put ⟨1, ⟨3, 0, t.text⟩, aZ, 0, 0, 0⟩) (B' := some g8) (cb' := c8) eIO rfl hlt (Cx.skip hp) (XY k) (by simp only [PS.put, PS.skip, Vn, Vs]; omega) ?_
       simp only [PS.put,PS.skip,Cx.B,rB,Vn,Vs,VF,VE,VZ,VB,Vz,Vp,Vq];exact mS)
  ·have hl:o7 t=⟨1,⟨2,t.num,aB⟩,aZ,0,0,0⟩:=by simp [o7,hc]
   rw [hl];repeat' (first|apply ag (f:=243);exact rfl;exact rfl;exact hN|refine zZA ?_|refine sM fun _=>?_|refine sC ?_ ?_<;>intro hb<;>try omega|fail)
   all_goals try omega
   refine kX 14 rfl (by kernel_rfl) ?_;((with_reducible apply aX (i:=0));exact rfl;exact rfl;(iterate 3 decide+kernel);exact nP;intro _ _;exact vP);((with_reducible apply aX (i:=1));exact rfl;exact rfl;(iterate 3 decide+kernel);exact nP;intro _ _;exact vP);((with_reducible apply aX (i:=2));exact rfl;exact rfl;(iterate 3 decide+kernel);exact nP;intro _ _;exact vP);((with_reducible apply aX (i:=3));exact rfl;exact rfl;(iterate 3 decide+kernel);exact nP;intro _ _;exact vP);((with_reducible apply aX (i:=5));exact rfl;exact rfl;(iterate 3 decide+kernel);exact nP;intro _ _;exact vP);repeat' (first|apply dO (i:=4) (j:=6);exact rfl;exact rfl;decide+kernel|apply dO (i:=4) (j:=7);exact rfl;exact rfl;decide+kernel|apply dO (i:=4) (j:=8);exact rfl;exact rfl;decide+kernel|apply dO (i:=4) (j:=9);exact rfl;exact rfl;decide+kernel|apply aM (i:=4);exact rfl;decide+kernel|apply aM (i:=5);exact rfl;decide+kernel|apply aM (i:=6);exact rfl;decide+kernel|apply aM (i:=7);exact rfl;decide+kernel|apply aM (i:=8);exact rfl;decide+kernel|apply aM (i:=9);exact rfl;decide+kernel|apply aM (i:=10);exact rfl;decide+kernel|apply aM (i:=11);exact rfl;decide+kernel|apply aM (i:=12);exact rfl;decide+kernel|apply aM (i:=13);exact rfl;decide+kernel|apply kV;decide+kernel|apply aG;(iterate 3 exact rfl);exact pK;exact pK;exact rfl;simp [bu,Value.oneCell'];omega;simp only [maxLen];omega;intro g8 c8|refine zZA ?_|refine sM fun _=>?_|refine sC ?_ ?_<;>intro hb<;>try omega|fail)
   all_goals first
    |omega
    | (refine lU (k' := k + 1) (p' := p.skip.put ⟨1, ⟨2, t.num, aB⟩, aZ, 0, 0, 0⟩) (B' := some g8) (cb' := c8) eIO rfl hlt (Cx.skip hp) (XY k) (by simp only [PS.put, PS.skip, Vn, Vs]; omega) ?_
       simp only [PS.put,PS.skip,Cx.B,rB,Vn,Vs,VF,VE,VZ,VB,Vz,Vp,Vq];exact mS)
  ·have hl:o7 t=⟨1,⟨4,t.num,aB⟩,aZ,0,0,0⟩:=by simp [o7,hc]
   rw [hl];repeat' (first|apply ag (f:=243);exact rfl;exact rfl;exact hN|refine zZA ?_|refine sM fun _=>?_|refine sC ?_ ?_<;>intro hb<;>try omega|fail)
   all_goals try omega
   refine kX 14 rfl (by kernel_rfl) ?_;((with_reducible apply aX (i:=0));exact rfl;exact rfl;(iterate 3 decide+kernel);exact nP;intro _ _;exact vP);((with_reducible apply aX (i:=1));exact rfl;exact rfl;(iterate 3 decide+kernel);exact nP;intro _ _;exact vP);((with_reducible apply aX (i:=2));exact rfl;exact rfl;(iterate 3 decide+kernel);exact nP;intro _ _;exact vP);((with_reducible apply aX (i:=3));exact rfl;exact rfl;(iterate 3 decide+kernel);exact nP;intro _ _;exact vP);((with_reducible apply aX (i:=5));exact rfl;exact rfl;(iterate 3 decide+kernel);exact nP;intro _ _;exact vP);repeat' (first|apply dO (i:=4) (j:=6);exact rfl;exact rfl;decide+kernel|apply dO (i:=4) (j:=7);exact rfl;exact rfl;decide+kernel|apply dO (i:=4) (j:=8);exact rfl;exact rfl;decide+kernel|apply dO (i:=4) (j:=9);exact rfl;exact rfl;decide+kernel|apply aM (i:=4);exact rfl;decide+kernel|apply aM (i:=5);exact rfl;decide+kernel|apply aM (i:=6);exact rfl;decide+kernel|apply aM (i:=7);exact rfl;decide+kernel|apply aM (i:=8);exact rfl;decide+kernel|apply aM (i:=9);exact rfl;decide+kernel|apply aM (i:=10);exact rfl;decide+kernel|apply aM (i:=11);exact rfl;decide+kernel|apply aM (i:=12);exact rfl;decide+kernel|apply aM (i:=13);exact rfl;decide+kernel|apply kV;decide+kernel|apply aG;(iterate 3 exact rfl);exact pK;exact pK;exact rfl;simp [bu,Value.oneCell'];omega;simp only [maxLen];omega;intro g8 c8|refine zZA ?_|refine sM fun _=>?_|refine sC ?_ ?_<;>intro hb<;>try omega|fail)
   all_goals first
    |omega
    | (refine lU (k' := k + 1) (p' := p.skip.put ⟨1, ⟨4, t.num, aB⟩, aZ, 0, 0, 0⟩) (B' := some g8) (cb' := c8) eIO rfl hlt (Cx.skip hp) (XY k) (by simp only [PS.put, PS.skip, Vn, Vs]; omega) ?_
       simp only [PS.put,PS.skip,Cx.B,rB,Vn,Vs,VF,VE,VZ,VB,Vz,Vp,Vq];exact mS)
 rw [if_neg h14] at hrun;by_cases h5:t.kind=5
 ·rw [if_pos h5] at hrun;have hlt:=Cx.lt hd (by omega);cases hrun;repeat' (first|apply ag (f:=243);exact rfl;exact rfl;exact hN|refine zZA ?_|refine sM fun _=>?_|refine sC ?_ ?_<;>intro hb<;>try omega|fail)
  all_goals try omega
  refine kX 13 rfl (by kernel_rfl) ?_;((with_reducible apply aX (i:=0));exact rfl;exact rfl;(iterate 3 decide+kernel);exact nP;intro _ _;exact vP);((with_reducible apply aX (i:=1));exact rfl;exact rfl;(iterate 3 decide+kernel);exact nP;intro _ _;exact vP);((with_reducible apply aX (i:=2));exact rfl;exact rfl;(iterate 3 decide+kernel);exact nP;intro _ _;exact vP);((with_reducible apply aX (i:=3));exact rfl;exact rfl;(iterate 3 decide+kernel);exact nP;intro _ _;exact vP);((with_reducible apply aX (i:=5));exact rfl;exact rfl;(iterate 3 decide+kernel);exact nP;intro _ _;exact vP);repeat' (first|apply dO (i:=4) (j:=6);exact rfl;exact rfl;decide+kernel|apply dO (i:=4) (j:=7);exact rfl;exact rfl;decide+kernel|apply dO (i:=4) (j:=8);exact rfl;exact rfl;decide+kernel|apply aM (i:=4);exact rfl;decide+kernel|apply aM (i:=5);exact rfl;decide+kernel|apply aM (i:=6);exact rfl;decide+kernel|apply aM (i:=7);exact rfl;decide+kernel|apply aM (i:=8);exact rfl;decide+kernel|apply aM (i:=9);exact rfl;decide+kernel|apply aM (i:=10);exact rfl;decide+kernel|apply aM (i:=11);exact rfl;decide+kernel|apply aM (i:=12);exact rfl;decide+kernel|apply kV;decide+kernel|apply aG;(iterate 3 exact rfl);exact pK;exact pK;exact rfl;simp [bu,Value.oneCell'];omega;simp only [maxLen];omega;intro g8 c8|refine zZA ?_|refine sM fun _=>?_|refine sC ?_ ?_<;>intro hb<;>try omega|fail)
  all_goals first
   |omega
   | (refine lU (k' := k + 1) (p' := p.skip.put ⟨2, bX, t.rect, 0, 0, 0⟩) (B' := some g8) (cb' := c8) eIO rfl hlt (Cx.skip hp) (XY k) (by simp only [PS.put, PS.skip, Vn, Vs]; omega) ?_
      simp only [PS.put,PS.skip,Cx.B,rB,Vn,Vs,VF,VE,VZ,VB,Vz,Vp,Vq];exact mS)
 rw [if_neg h5] at hrun;by_cases h9:t.kind=9
 ·rw [if_pos h9] at hrun;have hlt:=Cx.lt hd (by omega);obtain ⟨r1,hr1,⟨e,rfl,rfl⟩|⟨n1,p1,rfl,hr2⟩⟩:=bU hrun
  ·repeat' first|apply ag (f:=243);exact rfl;exact rfl;exact hN|apply ak (f:=241);exact rfl;exact rfl;exact FnIn.msub (ih f (VA _) x (k+1) p.skip B cb _ _ w0 hlt (Cx.skip hp) (X7 hout) hr1) (MSub.pick pK (MSub.pick pK (MSub.pick pK (MSub.refl _))));rintro _ _ ⟨rfl,k1,B1,cb1,o1,j1,j2,j3,j4,rfl⟩;replace j4:o1.length+(k+1)≤p.out.length+k1:=j4;obtain ⟨u,hd1⟩: ∃ u,hdT x.fin (x.toks.drop k1)=u:=⟨_,rfl⟩;by_cases h10:u.kind=10|apply ak (f:=405);exact rfl;exact rfl;exact FnIn.msub (nR 10 (VR x.hsa (by decide)) (VR x.ht (by decide)) (by omega) (B:=B1) (cb:=cb1) (out:=o1) (at_:=e.1) (e:=e.2) (g:=x.g) (A:=x.A) (cap:=x.cap) hd1 h10 _ w0) (MSub.pick pK (MSub.pick pK (MSub.pick pK (MSub.refl _))));have hlt1:=Cx.lt hd1 (by omega);rintro _ _ ⟨rfl,rfl⟩|apply ak (f:=405);exact rfl;exact rfl;exact FnIn.msub (yw 10 (VR x.hsa (by decide)) (VR x.ht (by decide)) (B:=B1) (cb:=cb1) (out:=o1) (at_:=e.1) (e:=e.2) (g:=x.g) (A:=x.A) (cap:=x.cap) hd1 h10 _ w0) (MSub.pick pK (MSub.pick pK (MSub.pick pK (MSub.refl _))));rw [if_neg j1,if_neg j1];rintro _ _ ⟨rfl,rfl⟩|refine zZA ?_|refine sM fun _=>?_|refine sC ?_ ?_<;>intro hb<;>try omega|fail
   all_goals first
    |omega
    | (refine gS (k' := k1 + 1) (out' := o1) (B' := B1) (cb' := cb1) eIO rfl j1 (by omega) (by omega) (by omega) ?_
       simp only [Cx.B,rB,Vz,Vp,Vq];exact mS
       done)
    | (refine gS (k' := k1) (out' := o1) (B' := B1) (cb' := cb1) eIO rfl j1 (by omega) (by omega) (by omega) ?_
       simp only [Cx.B,rB,Vz,Vp,Vq];exact mS)
  ·repeat' first|apply ag (f:=243);exact rfl;exact rfl;exact hN|apply ak (f:=241);exact rfl;exact rfl;exact FnIn.msub (ih f (VA _) x (k+1) p.skip B cb _ _ w0 hlt (Cx.skip hp) (X7 hout) hr1) (MSub.pick pK (MSub.pick pK (MSub.pick pK (MSub.refl _))));rintro _ _ ⟨rfl,k1,B1,cb1,j1,j2,j3,j4,rfl⟩;replace j4:p1.out.length+(k+1)≤p.out.length+k1:=j4;obtain ⟨u,hd1⟩: ∃ u,hdT x.fin (x.toks.drop k1)=u:=⟨_,rfl⟩;by_cases h10:u.kind=10|apply ak (f:=405);exact rfl;exact rfl;exact FnIn.msub (nR 10 (VR x.hsa (by decide)) (VR x.ht (by decide)) (by omega) (B:=B1) (cb:=cb1) (out:=p1.out) (at_:=0) (e:=0) (g:=x.g) (A:=x.A) (cap:=x.cap) hd1 h10 _ w0) (MSub.pick pK (MSub.pick pK (MSub.pick pK (MSub.refl _))));have hlt1:=Cx.lt hd1 (by omega);rintro _ _ ⟨rfl,rfl⟩|apply ak (f:=405);exact rfl;exact rfl;exact FnIn.msub (yw 10 (VR x.hsa (by decide)) (VR x.ht (by decide)) (B:=B1) (cb:=cb1) (out:=p1.out) (at_:=0) (e:=0) (g:=x.g) (A:=x.A) (cap:=x.cap) hd1 h10 _ w0) (MSub.pick pK (MSub.pick pK (MSub.pick pK (MSub.refl _))));rintro _ _ ⟨rfl,rfl⟩|refine zZA ?_|refine sM fun _=>?_|refine sC ?_ ?_<;>intro hb<;>try omega|fail
   all_goals try omega
   ·rw [j2,hd1,if_neg (by rw [h10];simp)] at hr2;cases hr2;refine lU (k' :=k1+1) (p' :=p1.skip) (B' :=B1) (cb' :=cb1) eIO rfl hlt1 (Cx.skip j2) (by omega) (by simp only [PS.skip];omega) ?_;simp only [PS.skip,Cx.B,rB,Vz,Vp,Vq];exact mS
   ·rw [j2,hd1,if_pos h10] at hr2;cases hr2;refine gS (x' :=(u.at_,4)) (k' :=k1) (out' :=p1.out) (B' :=B1) (cb' :=cb1) eIO rfl (by simp) (by omega) (by omega) (by omega) ?_;simp only [Cx.B,rB,Vz,Vp,Vq];exact mS
 rw [if_neg h9,if_neg h7] at hrun;cases hrun;repeat' (first|apply ag (f:=243);exact rfl;exact rfl;exact hN|apply ak (f:=242);exact rfl;exact rfl;exact FnIn.msub (il x.g x.sa x.A _ x.cap (k+1) B _ cb 0 0 _ _ _ _) (MSub.pick pK (.refl _));rintro _ _ ⟨rfl,rfl⟩|refine zZA ?_|refine sM fun _=>?_|refine sC ?_ ?_<;>intro hb<;>try omega|fail)
 all_goals first
  |omega
  | (refine gS (x' := (t.at_, 4)) (k' := k + 1) (out' := p.out) (B' := B) (cb' := cb) eIO rfl (by simp) (by omega) (by omega) (by omega) ?_
     simp only [Cx.B,rB,Vz,Vp,Vq];exact mS)
theorem Iz (f:Nat):(∀ q:Int,1≤q→q≤5→rp f (.level q) 241 [.int .i64 q])∧rp f .sign 308 []∧rp f .pct 363 []∧rp f .prim 388 []:=by
 induction f using Nat.strongRecOn with
 |_ f ih=>
  cases f with
  |zero=>
   refine ⟨fun k _ _=> ?_,?_,?_,?_⟩;all_goals exact fun x k p B cb r R w0 _ _ _ h=>by cases h
  |succ f=>
   refine ⟨fun q h1 h5=>L5 f q h1 h5 (fun h4 f' hf' =>(ih f' (by omega)).1 (q+1) (by omega) (by omega)) (ih f (by omega)).2.1,OD f (ih f (by omega)).2.1 (ih f (by omega)).2.2.1,FW f (ih f (by omega)).2.2.2,FV f fun f' hf' =>(ih f' (by omega)).1 1 (by omega) (by omega)⟩
end Go.SL

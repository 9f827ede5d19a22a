/-
  Lemmas and walks, put together: R12 Q7 Q9.
-/
import Derived.Test.YtoanpdoacdpgeaaGreatDoorKn41
import Derived.Test.YtoanpdoacdpgeaaGreatDoorKn42
set_option linter.unusedSimpArgs false
set_option linter.unusedVariables false
set_option maxRecDepth 20000
namespace Go.SL
open Go Go.Proofs
attribute [local irreducible] W WL WQ WG WA WX WLI WR WT WC VOp RW thn blk bE scp ba bo bL aP FnIn FnP ceP
theorem TokR.form {i:Nat} {o:Option (Tk × Nat)} {v:Value} (h:TokR i o v): ∃ (t:Tk) (n:Int) (b:Bool),v= .tuple #[.agg (bh t).toArray,.int .i64 n,.bool b]:=by
 cases o with
 |none=>
  obtain ⟨t,e,rfl⟩:=h
  exact ⟨t,e,false,rfl⟩
 |some x=>
  obtain ⟨t,n⟩:=x
  exact ⟨_,_,_,h⟩
set_option maxHeartbeats 2000000 in
theorem y8 (a:ByteArray) (ha:a.size≤256) (i:Nat) (hi:i<a.size) (w:World):aP Tryz.prog 239 [.string a,.int .i64 (i:Int)] w fun v H=>H= []∧TokR i (bC ((ap a).drop i)) v:=by
 refine aq Tryz.func239 rfl Tryz.ntmps239 rfl ?_
 have hl:=av a
 have hD:=fun w=>lL a (by omega) i w
 have hL:=fun w=>kN a (by omega) i w
 have hN:=fun h w=>w9 a ha i hi h w
 have hT:=fun w=>BU a ha i hi w
 have hWd:=fun h w=>BT a ha i hi h w
 have hS:=fun w=>BV a ha i hi w
 unfold bC
 rw [l4,show ((ap a).drop i).tail=(ap a).drop (i+1) by rw [Pu]]
 by_cases h1:aH (bat a i)=true
 ·
  rw [if_pos h1]
  rw [h1] at hD
  replace hN:=hN h1
  repeat' (first|(apply aa (f:=281);exact rfl;exact rfl;(intro w' hm;exact hD w'))|(apply aC (f:=282);exact rfl;exact rfl;(intro w' hm;exact hN w');(rintro _ _ ⟨rfl,h⟩;obtain ⟨t,n,b,rfl⟩:=h.form))|refine sT ?_|refine sS ?_|refine sT2 ?_|refine sN ?_|refine sM fun _=> ?_|(refine sC ?_ ?_<;>intro hb<;>try omega)|fail)
  all_goals ((refine cD ?_);exact ⟨rfl,by assumption⟩)
 rw [if_neg h1]
 replace h1:aH (bat a i)=false:=by simpa using h1
 rw [h1] at hD
 by_cases h2:bat a i=34
 ·
  rw [if_pos h2]
  repeat' (first|(apply aa (f:=281);exact rfl;exact rfl;(intro w' hm;exact hD w'))|(apply aC (f:=283);exact rfl;exact rfl;(intro w' hm;exact hT w');(rintro _ _ ⟨rfl,h⟩;obtain ⟨t,n,b,rfl⟩:=h.form))|(apply ak (d:=20);exact rfl;apply aZ (j:=i);exact rfl;exact rfl;omega)|refine sT ?_|refine sS ?_|refine sT2 ?_|refine sN ?_|refine sM fun _=> ?_|(refine sC ?_ ?_<;>intro hb<;>try omega)|fail)
  all_goals
   first
   |(exact absurd h2 (by assumption))
   |((refine cD ?_);exact ⟨rfl,by assumption⟩)
 rw [if_neg h2]
 by_cases h3:bO (bat a i)=true
 ·
  rw [if_pos h3]
  rw [h3] at hL
  replace hWd:=hWd h3
  repeat' (first|(apply aa (f:=281);exact rfl;exact rfl;(intro w' hm;exact hD w'))|(apply aa (f:=284);exact rfl;exact rfl;(intro w' hm;exact hL w'))|(apply aC (f:=285);exact rfl;exact rfl;(intro w' hm;exact hWd w');(rintro _ _ ⟨rfl,h⟩;obtain ⟨t,n,b,rfl⟩:=h.form))|(apply ak (d:=20);exact rfl;apply aZ (j:=i);exact rfl;exact rfl;omega)|refine sT ?_|refine sS ?_|refine sT2 ?_|refine sN ?_|refine sM fun _=> ?_|(refine sC ?_ ?_<;>intro hb<;>try omega)|fail)
  all_goals
   first
   |(exact absurd (by assumption) h2)
   |((refine cD ?_);exact ⟨rfl,by assumption⟩)
 rw [if_neg h3]
 replace h3:bO (bat a i)=false:=by simpa using h3
 rw [h3] at hL
 repeat' (first|(apply aa (f:=281);exact rfl;exact rfl;(intro w' hm;exact hD w'))|(apply aa (f:=284);exact rfl;exact rfl;(intro w' hm;exact hL w'))|(apply aC (f:=286);exact rfl;exact rfl;(intro w' hm;exact hS w');(rintro _ _ ⟨rfl,h⟩;obtain ⟨t,n,b,rfl⟩:=h.form))|(apply ak (d:=20);exact rfl;apply aZ (j:=i);exact rfl;exact rfl;omega)|refine sT ?_|refine sS ?_|refine sT2 ?_|refine sN ?_|refine sM fun _=> ?_|(refine sC ?_ ?_<;>intro hb<;>try omega)|fail)
 all_goals
  first
  |(exact absurd (by assumption) h2)
  |((refine cD ?_);exact ⟨rfl,by assumption⟩)
set_option maxHeartbeats 4000000 in
theorem w8 (a:ByteArray) (w:World):
    aP Tryz.prog 194 [.string a] w fun v H=> ∃ A cap,v=Dx A cap (bM bC (ap a))∧H= [.own A 228 8 (bM bC (ap a)).1.length cap ((bM bC (ap a)).1.flatMap bh)]:=by
  refine aq Tryz.func194 rfl Tryz.ntmps194 rfl ?_
  have hl:=av a
  unfold bM
  refine aD 228 8 ?_
  by_cases hlen:256<(ap a).length
  · rw [if_pos hlen]
    repeat' (first|refine sT ?_|refine sS ?_|refine sT2 ?_|refine sM fun _=> ?_|(refine sC ?_ ?_<;>intro hb<;>try omega)|fail)
    all_goals try (exfalso;omega)
    exact mM (.inl rfl) rfl rfl rfl rfl (.refl _) ⟨none,0,rfl,rfl⟩
  rw [if_neg hlen]
  repeat' (first|refine sT ?_|refine sS ?_|refine sT2 ?_|refine sM fun _=> ?_|(refine sC ?_ ?_<;>intro hb<;>try omega)|fail)
  all_goals try (exfalso;omega)
  refine ax [0] rfl (fun i:Nat=> [(5,.int .i64 (i:Int))]) (fun _=> [.own none 228 8 0 0 []]) (fun i=>i≤a.size∧ ∀ j,j<i→bz (bat a j)=true) (fun i=>a.size - i) 0 ⟨by omega,fun j h=>by omega⟩ sB mS ?_
  rintro i ⟨hi,hpl⟩
  by_cases hlt:i<a.size
  · repeat' (first|(apply ak (d:=22);exact rfl;apply aZ (j:=i);exact rfl;exact rfl;omega)|(apply ak (d:=27);exact rfl;apply aZ (j:=i);exact rfl;exact rfl;omega)|refine sT ?_|refine sS ?_|refine sT2 ?_|refine sN ?_|refine sM fun _=> ?_|(refine sC ?_ ?_<;>intro hb<;>try omega)|fail)
    all_goals first
      |(exfalso;omega)
      | (have hf : (ap a).findIdx? (fun c => !bz c) = some i := by
           refine l6 hlt ?_ fun j hj=>by rw [hpl j hj];rfl
           simp only [bz,Bool.not_eq_true',Oj,decide_eq_false_iff_not]
           omega
         rw [hf]
         exact mM (.inl rfl) rfl rfl rfl rfl (.refl _) ⟨none,0,rfl,rfl⟩)
      | (refine ⟨i + 1, ?_, (by first | omega | (dsimp only; omega)), sB, sB, mS⟩
         refine ⟨hlt,fun j hj=> ?_⟩
         rcases (by omega:j<i∨j=i) with h|rfl
         · exact hpl j h
         · simp only [bz,Nm,decide_eq_true_eq]
           omega)
  have e:i=a.size:=by omega
  subst e
  have hf:(ap a).findIdx? (fun c=> !bz c)=none:=kR fun j hj=>by rw [hpl j hj];rfl
  rw [hf]
  dsimp only
  repeat' (first|refine sT ?_|refine sS ?_|refine sT2 ?_|refine sN ?_|refine sM fun _=> ?_|(refine sC ?_ ?_<;>intro hb<;>try omega)|fail)
  all_goals try (exfalso;omega)
  generalize hT:bn bC (ap a) (ap a).length 0=T
  refine ax [0] rfl (fun x:Nat × List Tk × Option Nat × Nat=> [(6,sl x.2.2.1 x.2.1.length x.2.2.2),(7,.int .i64 (x.1:Int))]) (fun x=> [.own x.2.2.1 228 8 x.2.1.length x.2.2.2 (x.2.1.flatMap bh)])
    (fun x=>x.1≤a.size∧x.2.1.length≤x.1∧T=(bn bC (ap a) (a.size - x.1) x.1).map (x.2.1++ ·)) (fun x=>a.size - x.1) (0,[],none,0) ⟨by omega,by simp,by rw [← hT,hl];cases bn bC (ap a) a.size 0<;>rfl⟩ sB mS ?_
  rintro ⟨i,toks,A,cap⟩ ⟨hi2,hi3,hi4⟩
  dsimp only at hi2 hi3 hi4 ⊢
  by_cases hlt2:i<a.size
  · obtain ⟨f,hf1⟩: ∃ f,a.size - i=f+1:=⟨a.size - i - 1,by omega⟩
    rw [hf1] at hi4
    simp only [bn] at hi4
    have hdr:=bk hlt2
    have hK:=y8 a (by omega) i hlt2
    generalize hld:(ap a).drop i=ld at hi4 hdr hK
    rw [hdr] at hi4
    dsimp only at hi4
    by_cases h32:bat a i=32
    · rw [if_pos h32] at hi4
      repeat' (first|(apply ak (d:=37);exact rfl;apply aZ (j:=i);exact rfl;exact rfl;omega)|refine sT ?_|refine sS ?_|refine sT2 ?_|refine sN ?_|refine sM fun _=> ?_|(refine sC ?_ ?_<;>intro hb<;>try omega)|fail)
      all_goals try (exfalso;omega)
      refine ⟨(i+1,toks,A,cap),?_,(by first|omega|(dsimp only;omega)),sB,sB,mS⟩
      exact ⟨hlt2,by dsimp only;omega,by dsimp only;rw [show a.size - (i+1)=f by omega];exact hi4⟩
    · rw [if_neg h32,← hdr] at hi4
      have hldl:ld.length=a.size - i:=by rw [← hld,Nq,hl]
      cases ho:bC ld with
      |none=>
        rw [ho] at hi4 hK
        dsimp only [Except.map] at hi4
        rw [hi4]
        refine aD 228 8 ?_
        repeat' (first|(apply ak (d:=37);exact rfl;apply aZ (j:=i);exact rfl;exact rfl;omega)|(apply aC (f:=239);exact rfl;exact rfl;(intro w' hm;exact hK w');(rintro _ _ ⟨rfl,t,n,rfl⟩))|refine sT ?_|refine sS ?_|refine sT2 ?_|refine sN ?_|refine sM fun _=> ?_|(refine sC ?_ ?_<;>intro hb<;>try omega)|fail)
        all_goals try (exfalso;omega)
        exact mM (.inl rfl) rfl rfl rfl rfl (H' := [.own none 228 8 0 0 []]) mS ⟨none,0,rfl,rfl⟩
      |some x=>
        obtain ⟨t,m⟩:=x
        rw [ho] at hi4 hK
        dsimp only at hi4
        have hfit:=lD ld t m ho
        have hm0:0<m:=hfit.1
        repeat' (first|(apply ak (d:=37);exact rfl;apply aZ (j:=i);exact rfl;exact rfl;omega)|(apply aC (f:=239);exact rfl;exact rfl;(intro w' hm;exact hK w');(rintro _ _ ⟨rfl,rfl⟩))|(apply aG;(iterate 3 exact rfl);exact pK;exact pK;exact rfl;(simp [bh,Value.oneCell']);omega;(simp only [maxLen];omega);intro g8 c8)|refine sT ?_|refine sS ?_|refine sT2 ?_|refine sN ?_|refine sM fun _=> ?_|(refine sC ?_ ?_<;>intro hb<;>try omega)|fail)
        all_goals try (exfalso;omega)
        refine ⟨(i+m,toks++ [{ t with at_:=(i:Int) }],some g8,c8),⟨by dsimp only;omega,by simp;omega,?_⟩,(by dsimp only;omega),?_,sB,?_⟩
        · dsimp only
          rw [hi4,oC lD f (a.size - (i+m)) f (i+m) (by omega) (by omega) (by omega)]
          cases bn bC (ap a) (a.size - (i+m)) (i+m)<;>simp [Except.map]
        · simp only [Na,Nh]
          exact sB
        · simp only [Na,Nh,Nt,Np,NE,Nl]
          exact mS
  · have e:i=a.size:=by omega
    subst e
    rw [show a.size - a.size=0 by omega] at hi4
    simp only [bn,Except.map,Nl] at hi4
    rw [hi4]
    repeat' (first|refine sT ?_|refine sS ?_|refine sT2 ?_|refine sN ?_|refine sM fun _=> ?_|(refine sC ?_ ?_<;>intro hb<;>try omega)|fail)
    all_goals try (exfalso;omega)
    exact mM (.inl rfl) rfl rfl rfl rfl (H' := [.own A 228 8 toks.length cap (toks.flatMap bh)]) mS ⟨A,cap,rfl,rfl⟩
theorem wX {tk:List Int→Option (Tk × Nat)} {a:ByteArray} (h:(bM tk (ap a)).2.2=0):a.size≤256:=by
 unfold bM at h
 split at h
 ·
  cases h
 ·
  rename_i h1
  rw [av] at h1
  omega
set_option maxHeartbeats 4000000 in
theorem uR (a:ByteArray) (w:World) (r:List Nd × Int × Int) (hr:r=cY (bM bC (ap a)) (a.size:Int)):
  aP Tryz.prog 147 [.string a] w fun v H=> ∃ A cap,v=Dw A cap r∧H= [.own A 293 11 r.1.length cap (r.1.flatMap cv)]:=by
 refine aq Tryz.func147 rfl Tryz.ntmps147 rfl ?_
 have hT:=fun w' =>w8 a w'
 have htl:=qo bC (ap a)
 have hch:=uN (ap a)
 have hnum:=yL (ap a)
 have hsz:=wX (tk:=bC) (a:=a)
 obtain ⟨⟨toks,at0,e0⟩,hx⟩: ∃ x,bM bC (ap a)=x:=⟨_,rfl⟩
 rw [hx] at hr htl hch hnum hsz
 simp only [hx,Dx] at hT
 dsimp only at htl hch hnum hsz
 refine aD 293 11 ?_
 refine aD 293 11 ?_
 by_cases he0:e0≠0
 ·
  have hr' :r=([],at0,e0):=by rw [hr];simp [cY,he0]
  subst hr'
  repeat' (first|(apply aC (f:=194);exact rfl;exact rfl;exact fun w' _=>hT w';rintro _ _ ⟨A,cap,rfl,rfl⟩)|refine sT ?_|refine sS ?_|refine sN ?_|refine sM fun _=> ?_|(refine sC ?_ ?_<;>intro hb<;>try omega)|fail)
  all_goals first
   |(exfalso;omega)
   |exact mM eIO rfl rfl rfl rfl (H' := [.own none 293 11 0 0 []]) mS ⟨none,0,rfl,rfl⟩
 have he0:e0=0:=Classical.not_not.1 he0
 subst he0
 replace hsz:=hsz rfl
 obtain ⟨r1,hr1,_⟩:=vK (a.size:Int) (20*toks.length+40) (.level 1) ⟨toks,[]⟩ ⟨by omega,by omega⟩ (by simp [Job.c])
 have hL:=(BR (20*toks.length+40)).1 1 (by decide) (by decide)
 obtain ⟨ff,hff⟩: ∃ ff,20*toks.length+40=ff:=⟨_,rfl⟩
 rw [hff] at hr1 hL
 cases r1 with
 |error e=>
  have hr' :r=([],e.1,e.2):=by rw [hr];simp [cY,hff,hr1]
  subst hr'
  repeat' (first|(apply aC (f:=194);exact rfl;exact rfl;exact fun w' _=>hT w';rintro _ _ ⟨A,cap,rfl,rfl⟩)|(apply aw (f:=195);exact rfl;exact rfl;rename_i g;exact FnIn.msub (hL ⟨g,a,A,cap,toks,hsz,htl,hch⟩ 0 ⟨toks,[]⟩ none 0 _ _ w (Nat.zero_le _) rfl (Nat.le_refl 0) hr1) (MSub.pick pK (MSub.pick pK (MSub.pick pK (MSub.refl _))));rintro _ _ ⟨rfl,k1,B1,cb1,o1,j1,j2,j3,j4,rfl⟩;dsimp only at j2;obtain ⟨u,hd1⟩: ∃ u,hdT (a.size:Int) (toks.drop k1)=u:=⟨_,rfl⟩)|(apply ak;exact rfl;apply cP;exact rfl;exact rfl)|(apply aa (f:=197);exact rfl;exact rfl;exact fun w' hm=>Cx.next (x:=⟨_,a,A,cap,toks,hsz,htl,hch⟩) hd1 (B:=B1) (cb:=cb1) (out:=o1) (at_:=e.1) (e:=e.2) (MSub.pick pK (MSub.pick pK (MSub.pick pK (MSub.nil _)))) w' hm)|(apply aw (f:=196);exact rfl;exact rfl;exact FnIn.msub (fa _ a A toks.length cap k1 B1 o1.length cb1 e.1 e.2 _ _ _ _) (MSub.pick pK (.refl _));rw [if_neg j1,if_neg j1];rintro _ _ ⟨rfl,rfl⟩)|refine sT ?_|refine sS ?_|refine sQ ?_|refine sN ?_|refine sNQ ?_|refine sD ?_|refine sM fun _=> ?_|(refine sC ?_ ?_<;>intro hb<;>try omega)|(refine sCQ ?_ ?_<;>intro hb<;>try omega)|fail)
  all_goals first
   |(exfalso;omega)
   |exact absurd (by assumption) j1
   |exact mM eIO rfl rfl rfl rfl (H' := [.own none 293 11 0 0 []]) mS ⟨none,0,rfl,rfl⟩
 |ok y=>
  obtain ⟨n,p'⟩:=y
  have hwf:=DB _ _ _ _ _ _ hr1 (⟨hnum,fun _ h=>by cases h⟩:Wf ⟨toks,[]⟩)
  have hD:=fun (tv:Value) (w' :World) (h:Reads w' tv p'.out.length (p'.out.flatMap cv))=>zg p'.out hwf.2 tv w' h
  have hde:(l8 p'.out).2=jX p'.out:=by
   unfold l8
   split
   ·
    rfl
   ·
    rename_i h;simp at h;simp [h]
  obtain ⟨dd,de,hdd⟩: ∃ a b,l8 p'.out=(a,b):=⟨_,_,rfl⟩
  rw [hdd] at hD hde
  dsimp only at hD hde
  repeat' (first|(apply aC (f:=194);exact rfl;exact rfl;exact fun w' _=>hT w';rintro _ _ ⟨A,cap,rfl,rfl⟩)|(apply aw (f:=195);exact rfl;exact rfl;rename_i g;exact FnIn.msub (hL ⟨g,a,A,cap,toks,hsz,htl,hch⟩ 0 ⟨toks,[]⟩ none 0 _ _ w (Nat.zero_le _) rfl (Nat.le_refl 0) hr1) (MSub.pick pK (MSub.pick pK (MSub.pick pK (MSub.refl _))));rintro _ _ ⟨rfl,k1,B1,cb1,j1,j2,j3,j4,rfl⟩;dsimp only at j1 j2;obtain ⟨u,hd1⟩: ∃ u,hdT (a.size:Int) (toks.drop k1)=u:=⟨_,rfl⟩)|(apply ak;exact rfl;apply cP;exact rfl;exact rfl)|(apply aa (f:=197);exact rfl;exact rfl;exact fun w' hm=>Cx.next (x:=⟨_,a,A,cap,toks,hsz,htl,hch⟩) hd1 (B:=B1) (cb:=cb1) (out:=p'.out) (at_:=0) (e:=0) (MSub.pick pK (MSub.pick pK (MSub.pick pK (MSub.nil _)))) w' hm)|(apply aw (f:=196);exact rfl;exact rfl;exact FnIn.msub (fa _ a A toks.length cap k1 B1 p'.out.length cb1 0 0 _ _ _ _) (MSub.pick pK (.refl _));rintro _ _ ⟨rfl,rfl⟩)|(apply aa (f:=198);exact rfl;exact rfl;(intro w' hm';exact hD _ w' (Reads.of_own (A:=B1) hm' pK)))|refine sT ?_|refine sS ?_|refine sQ ?_|refine sN ?_|refine sNQ ?_|refine sD ?_|refine sM fun _=> ?_|(refine sC ?_ ?_<;>intro hb<;>try omega)|(refine sCQ ?_ ?_<;>intro hb<;>try omega)|fail)
  all_goals try (exfalso;omega)
  ·
   have hk1:k1<toks.length:=by
    have:(k1:Int)<(toks.length:Int):=by assumption
    omega
   have hu0:u.kind≠0:=fun h=>by
    have h2:=(hch.drop k1).kind (fin:=(a.size:Int))
    rw [hd1] at h2
    have:=congrArg List.length (h2.1 h)
    rw [Nq,O4] at this
    omega
   have hr' :r=([],u.at_,4):=by rw [hr];simp [cY,hff,hr1,j2,hd1,hu0]
   subst hr'
   exact mM eIO rfl rfl rfl rfl (H' := [.own none 293 11 0 0 []]) mS ⟨none,0,rfl,rfl⟩
  all_goals
   have hk1:toks.length≤k1:=by
    have:(toks.length:Int)≤(k1:Int):=by assumption
    omega
   have hu0:u.kind=0:=by rw [← hd1,rz hk1];rfl
  ·
   have hr' :r=([],0,de):=by
    have hb' :de≠0:=by assumption
    rw [hr];rw [hde] at hb' ⊢;simp [cY,hff,hr1,j2,hd1,hu0,hb']
   subst hr'
   exact mM eIO rfl rfl rfl rfl (H' := [.own none 293 11 0 0 []]) mS ⟨none,0,rfl,rfl⟩
  ·
   have hr' :r=(p'.out,0,0):=by
    have hb' :jX p'.out=0:=hde ▸ Classical.not_not.1 (by assumption)
    rw [hr];simp [cY,hff,hr1,j2,hd1,hu0,hb']
   subst hr'
   exact mM eIO rfl rfl rfl rfl (H' := [.own B1 293 11 p'.out.length cb1 (p'.out.flatMap cv)]) mS ⟨B1,cb1,rfl,rfl⟩
set_option maxHeartbeats 2000000 in
theorem y9 (b:ByteArray) (w:World):aP Tryz.prog 108 [.string b] w fun v H=> ∃ A cap,v=ofV A cap (ofP b)∧H= [.own A 293 11 (ofP b).1.tree.length cap ((ofP b).1.tree.flatMap cv)]:=by
 refine aq Tryz.func108 rfl Tryz.ntmps108 rfl ?_
 refine aD 293 11 ?_
 rw [LK]
 unfold ofR
 by_cases hlen:256<b.size
 ·
  rw [if_pos hlen]
  repeat' (first|refine sT ?_|refine sS ?_|refine sT2 ?_|refine sM fun _=> ?_|(refine sC ?_ ?_<;>intro hb<;>try omega)|fail)
  all_goals first
   |(exfalso;omega)
   |exact fB eIO rfl rfl pK rfl rfl rfl (H' := [.own none 293 11 0 0 []]) mS ⟨none,0,rfl,rfl⟩
 rw [if_neg hlen]
 repeat' (first|refine sT ?_|refine sS ?_|refine sT2 ?_|refine sM fun _=> ?_|(refine sC ?_ ?_<;>intro hb<;>try omega)|fail)
 all_goals try (exfalso;omega)
 rename_i g2
 refine ax [0,2] rfl (fun i:Nat=> [(5,.int .i64 (i:Int))]) (fun _=> [.box g2 130 [.bool false,.int .u8 0,.int .i64 0,.string au,.slice none 0 0],.own none 293 11 0 0 []]) (fun i=>i≤b.size∧ ∀ j,j<i→bz (bat b j)=true) (fun i=>b.size - i) 0 ⟨by omega,fun j h=>by omega⟩ sB mS ?_
 rintro i ⟨hi,hpl⟩
 by_cases hlt:i<b.size
 ·
  by_cases hc:bz (bat b i)=true
  ·
   have hc' :=hc
   simp only [bz,Nm,decide_eq_true_eq] at hc'
   repeat' (first|(apply ak (d:=21);exact rfl;apply aZ (j:=i);exact rfl;exact rfl;omega)|(apply ak (d:=26);exact rfl;apply aZ (j:=i);exact rfl;exact rfl;omega)|refine sT ?_|refine sS ?_|refine sT2 ?_|refine sN ?_|refine sM fun _=> ?_|(refine sC ?_ ?_<;>intro hb<;>try omega)|fail)
   all_goals try (exfalso;omega)
   refine ⟨i+1,?_,(by first|omega|(dsimp only;omega)),sB,sB,mS⟩
   refine ⟨hlt,fun j hj=> ?_⟩
   rcases (by omega:j<i∨j=i) with h|rfl
   ·
    exact hpl j h
   ·
    exact hc
  ·
   have hc' :=hc
   simp only [bz,Nm,decide_eq_true_eq] at hc'
   have hf:(ap b).findIdx? (fun c=> !bz c)=some i:=l6 hlt (by simp [hc]) fun j hj=>by rw [hpl j hj];rfl
   rw [hf]
   repeat' (first|(apply ak (d:=21);exact rfl;apply aZ (j:=i);exact rfl;exact rfl;omega)|(apply ak (d:=26);exact rfl;apply aZ (j:=i);exact rfl;exact rfl;omega)|refine sT ?_|refine sS ?_|refine sT2 ?_|refine sN ?_|refine sM fun _=> ?_|(refine sC ?_ ?_<;>intro hb<;>try omega)|fail)
   all_goals first
    |(exfalso;omega)
    |exact fB eIO rfl rfl pK rfl rfl rfl (H' := [.own none 293 11 0 0 []]) mS ⟨none,0,rfl,rfl⟩
 ·
  have e:i=b.size:=by omega
  subst e
  have hf:(ap b).findIdx? (fun c=> !bz c)=none:=kR fun j hj=>by rw [hpl j hj];rfl
  rw [hf]
  dsimp only
  have hhd:(ap b).headD 0=bat b 0:=by have:=l4 (a:=b) (i:=0);rwa [OC] at this
  rw [hhd]
  have hC:=fun w=>zh b (by omega) w
  by_cases h61:bat b 0≠61
  ·
   rw [if_pos h61]
   by_cases h0:b=au
   ·
    repeat' (first|(apply ak (d:=32);exact rfl;apply lA;exact rfl;exact rfl;exact h0)|(apply aa;exact rfl;exact rfl;(intro w hm;exact hC w))|refine sT ?_|refine sS ?_|refine sT2 ?_|refine sN ?_|refine sM fun _=> ?_|(refine sC ?_ ?_<;>intro hb<;>try omega)|fail)
    all_goals first
     |(exfalso;omega)
     |exact fB eIO rfl rfl pK rfl rfl rfl (H' := [.own none 293 11 0 0 []]) mS ⟨none,0,rfl,rfl⟩
   ·
    have hpos:0<b.size:=by
     rcases N9 b.size with h|h
     ·
      exact absurd (ByteArray.ext (Array.eq_empty_of_size_eq_zero h)) h0
     ·
      exact h
    repeat' (first|(apply ak (d:=32);exact rfl;apply dJ;exact rfl;exact rfl;exact h0)|(apply ak (d:=35);exact rfl;apply aZ (j:=0);exact rfl;exact rfl;exact hpos)|(apply aa;exact rfl;exact rfl;(intro w hm;exact hC w))|refine sT ?_|refine sS ?_|refine sT2 ?_|refine sN ?_|refine sM fun _=> ?_|(refine sC ?_ ?_<;>intro hb<;>try omega)|fail)
    all_goals first
     |(exfalso;omega)
     |exact fB eIO rfl rfl pK rfl rfl rfl (H' := [.own none 293 11 0 0 []]) mS ⟨none,0,rfl,rfl⟩
  ·
   rw [if_neg h61]
   have h61:bat b 0=61:=Classical.not_not.1 h61
   have hpos:0<b.size:=by
    rcases N9 b.size with h|h
    ·
     rw [iy (by omega)] at h61;cases h61
    ·
     exact h
   have h0:b≠au:=by
    rintro rfl
    exact absurd hpos (by decide)
   have hF:=fun (w' :World)=>uR (sub b 1 b.size) w' _ rfl
   obtain ⟨⟨t,at0,e0⟩,hr⟩: ∃ x,cY (bM bC (ap (sub b 1 b.size))) ((sub b 1 b.size).size:Int)=x:=⟨_,rfl⟩
   simp only [hr,Dw] at hF
   rw [hr]
   dsimp only
   by_cases he:e0≠0
   ·
    rw [if_pos he]
    repeat' (first|(apply ak (d:=32);exact rfl;apply dJ;exact rfl;exact rfl;exact h0)|(apply ak (d:=35);exact rfl;apply aZ (j:=0);exact rfl;exact rfl;exact hpos)|(apply ak (d:=43);exact rfl;apply rQ (lo:=1);exact rfl;exact rfl;omega)|(apply aC (f:=147);exact rfl;exact rfl;(intro w' hm';exact hF w');rintro _ _ ⟨A,cap,rfl,rfl⟩)|(apply ak;exact rfl;apply rX;exact rfl;exact rfl)|refine sT ?_|refine sS ?_|refine sT2 ?_|refine sN ?_|refine sM fun _=> ?_|(refine sC ?_ ?_<;>intro hb<;>try omega)|fail)
    all_goals first
     |(exfalso;omega)
     |exact fB eIO rfl rfl pK rfl rfl rfl (H' := [.own none 293 11 0 0 []]) mS ⟨none,0,rfl,rfl⟩
   ·
    rw [if_neg he]
    repeat' (first|(apply ak (d:=32);exact rfl;apply dJ;exact rfl;exact rfl;exact h0)|(apply ak (d:=35);exact rfl;apply aZ (j:=0);exact rfl;exact rfl;exact hpos)|(apply ak (d:=43);exact rfl;apply rQ (lo:=1);exact rfl;exact rfl;omega)|(apply aC (f:=147);exact rfl;exact rfl;(intro w' hm';exact hF w');rintro _ _ ⟨A,cap,rfl,rfl⟩)|(apply ak;exact rfl;apply rX;exact rfl;exact rfl)|refine sT ?_|refine sS ?_|refine sT2 ?_|refine sN ?_|refine sM fun _=> ?_|(refine sC ?_ ?_<;>intro hb<;>try omega)|fail)
    all_goals first
     |(exfalso;omega)
     |exact fB eIO rfl rfl pK rfl rfl rfl (H' := [.own A 293 11 t.length cap (t.flatMap cv)]) mS ⟨A,cap,rfl,rfl⟩
set_option maxHeartbeats 2000000 in
theorem ze (L:List Et) (tv:Value) (w:World) (ht:Reads w tv L.length (L.flatMap aB)) (i:Nat) (hlt:i<L.length):
  ay Tryz.prog 119 [tv,.int .i64 (i:Int)] w (.int .i64 (jK (iE L i) L[i])):=by
 obtain ⟨Al,cl,rfl,hl1,hl2,hl3⟩:=ht
 refine aq Tryz.func119 rfl Tryz.ntmps119 rfl ?_
 obtain ⟨gl,ol,rfl,hrl⟩:=hl3 (by omega)
 have he:=hrl.elem bg i hlt
 have hprev: ∀ h:0<i,Ro w gl (ol+(i - 1)*3) (aB L[i - 1]):=fun h=>hrl.elem bg (i - 1) (by omega)
 have hbef: ∀ h:0<i,iE L i=some L[i - 1].at_:=fun h=>by unfold iE;rw [if_neg (by omega),Nc (by omega)];rfl
 have hbef0:i=0→iE L i=none:=fun h=>by unfold iE;rw [if_pos h]
 generalize L[i]=e at he ⊢
 obtain ⟨fo,hfo⟩: ∃ fo,jK (iE L i) e=fo:=⟨_,rfl⟩
 rw [hfo]
 have hV: ∀ w',ay Tryz.prog 151 [.agg (cw e.at_).toArray] w' (.bool e.at_.valid):=fun w' =>lK e.at_.col e.at_.row w'
 have hO:=fun (w' :World)=>y9 e.input w'
 have hofV: ∀ (A:Option Nat) (cap:Nat),ofV A cap (ofP e.input)= .tuple #[.agg (xN (ofP e.input).1 (sl A (ofP e.input).1.tree.length cap)).toArray,.int .i64 (ofP e.input).2.1,.int .i64 (ofP e.input).2.2]:=fun _ _=>rfl
 simp only [hofV] at hO
 unfold jK at hfo
 generalize ofP e.input=o at hO hfo
 obtain ⟨⟨f1,f2,f3⟩,oa,oe⟩:=o
 simp only [xN] at hO
 generalize e.at_.valid=vd at hV hfo
 have hle: ∀ (w' :World),True:=fun _=>trivial
 by_cases h0:0<i
 ·
  have hp:=hprev h0
  rw [hbef h0] at hfo
  generalize L[i - 1]=b at hp hfo
  have hL:=fun w' =>sK b.at_ e.at_ w'
  replace hfo:(if vd=false then (3:Int) else if eQ b.at_ e.at_=false then 12 else if e.input=au then 2 else oe)=fo:=hfo
  generalize eQ b.at_ e.at_=ls at hL hfo
  repeat' (first|(apply ak (d:=10);exact rfl;apply aj;exact rfl;exact rfl;exact hlt)|(apply ak (d:=12);exact rfl;apply eH (off:=0) (ys:=cw e.at_) he;(iterate 3 exact rfl))|(apply aS (d:=20);exact rfl;apply dG;exact rfl;exact rfl;exact h0;(simp only [maxLen] at*;omega))|(apply aS (d:=21);exact rfl;apply aj (j:=i - 1);exact rfl;exact rfl;omega)|(apply aS (d:=23);exact rfl;apply eH (off:=0) (ys:=cw b.at_) hp;(iterate 3 exact rfl))|(apply aS (d:=26);exact rfl;apply aj (j:=i);exact rfl;exact rfl;exact hlt)|(apply aS (d:=28);exact rfl;apply eH (off:=0) (ys:=cw e.at_) he;(iterate 3 exact rfl))|(apply ak (d:=34);exact rfl;apply aj;exact rfl;exact rfl;exact hlt)|(apply ak (d:=36);exact rfl;apply dB (off:=2);exact rfl;exact he;exact rfl)|(apply ak (d:=41);exact rfl;apply aj;exact rfl;exact rfl;exact hlt)|(apply ak (d:=43);exact rfl;apply dB (off:=2);exact rfl;exact he;exact rfl)|(apply aa;exact rfl;exact rfl;(intro w hm;exact hV w))|(apply eF;exact rfl;exact rfl;(intro w hm;exact hL w))|(apply aC (f:=108);exact rfl;exact rfl;(intro w' hm;exact hO w');rintro _ _ ⟨A,cap,rfl,rfl⟩)|refine sT ?_|refine sS ?_|refine sQ ?_|refine sN ?_|refine sNQ ?_|refine sD ?_|refine sM fun _=> ?_|(refine sC ?_ ?_<;>intro hb<;>try omega)|(refine sCQ ?_ ?_<;>intro hb<;>try omega)|fail)
  all_goals (refine cG eIO rfl rfl (.nil _) ?_;simp_all [au];done)
 ·
  rw [hbef0 (by omega)] at hfo
  repeat' (first|(apply ak (d:=10);exact rfl;apply aj;exact rfl;exact rfl;exact hlt)|(apply ak (d:=12);exact rfl;apply eH (off:=0) (ys:=cw e.at_) he;(iterate 3 exact rfl))|(apply ak (d:=34);exact rfl;apply aj;exact rfl;exact rfl;exact hlt)|(apply ak (d:=36);exact rfl;apply dB (off:=2);exact rfl;exact he;exact rfl)|(apply ak (d:=41);exact rfl;apply aj;exact rfl;exact rfl;exact hlt)|(apply ak (d:=43);exact rfl;apply dB (off:=2);exact rfl;exact he;exact rfl)|(apply aa;exact rfl;exact rfl;(intro w hm;exact hV w))|(apply aC (f:=108);exact rfl;exact rfl;(intro w' hm;exact hO w');rintro _ _ ⟨A,cap,rfl,rfl⟩)|refine sT ?_|refine sS ?_|refine sQ ?_|refine sN ?_|refine sNQ ?_|refine sD ?_|refine sM fun _=> ?_|(refine sC ?_ ?_<;>intro hb<;>try omega)|(refine sCQ ?_ ?_<;>intro hb<;>try omega)|fail)
  all_goals first
   |(exfalso;omega)
   |(refine cG eIO rfl rfl (.nil _) ?_;simp_all [au];done)
theorem uS (L:List Et) (tv:Value) (w:World) (ht:Reads w tv L.length (L.flatMap aB)) (hlen:L.length≤1000000):
    ay Tryz.prog 63 [tv] w (.tuple #[.int .i64 (gG L).1,.int .i64 (gG L).2]):=by
  have hF:=fun (w' :World) (H' :List Blk) (hm:Mem w w' H') (i:Nat) (hi:i<L.length)=>ze L tv w' (ht.of_w0 hm) i hi
  obtain ⟨Al,cl,rfl,hl1,hl2,hl3⟩:=ht
  refine aq Tryz.func63 rfl Tryz.ntmps63 rfl ?_
  repeat' (first|refine sT ?_|refine sS ?_|refine sM fun _=> ?_|(refine sC ?_ ?_<;>intro hb<;>try omega)|fail)
  refine ax [0] rfl (fun i:Nat=> [(4,.int .i64 (i:Int))]) (fun _=> []) (fun i=>i≤L.length∧gG L=f6 i (iE L i) (L.drop i)) (fun i=>L.length - i) 0 ⟨by omega,rfl⟩ sB (.refl _) ?_
  rintro i ⟨hi,hck⟩
  by_cases hlt:i<L.length
  · have hF:=fun w' H' hm=>hF w' H' hm i hlt
    have hnext:iE L (i+1)=some L[i].at_:=by unfold iE;rw [if_neg (by omega),OU,Nc hlt];rfl
    rw [Nn hlt,f6,← hnext] at hck
    generalize jK (iE L i) L[i]=e at hF hck
    repeat' (first|(apply aa (f:=119);exact rfl;exact rfl;(intro w' hm;exact hF w' _ hm))|refine sT ?_|refine sS ?_|refine sN ?_|refine sM fun _=> ?_|(refine sC ?_ ?_<;>intro hb<;>try omega)|fail)
    all_goals first
      |(exfalso;omega)
      |(refine iJ eIO rfl rfl rfl (.nil _) ?_;rw [hck,if_pos (by assumption)];done)
      | (rw [if_neg (by assumption)] at hck
         refine ⟨i+1,⟨hlt,hck⟩,by omega,?_,?_,.nil _⟩
         · exact sB
         · exact sB)
  · have e2:i=L.length:=by omega
    subst e2
    rw [NF,f6] at hck
    repeat' (first|refine sT ?_|refine sS ?_|refine sM fun _=> ?_|(refine sC ?_ ?_<;>intro hb<;>try omega)|fail)
    all_goals first
      |(exfalso;omega)
      |(refine iJ eIO rfl rfl rfl (.nil _) ?_;rw [hck])
end Go.SL

/-
  Lemmas and walks, put together: Q7 Oq Q8 Q9 W33 W34 Lu Gu Q10 Q11.
-/
import Derived.Test.YthefeclkaaocnaaGreatDoorKf24
set_option linter.unusedSimpArgs false
set_option linter.unusedVariables false
set_option maxRecDepth 20000
namespace Go.SL
open Go Go.Proofs
attribute [local irreducible] W WL WQ WG WA WX WLI WR WT WC VOp RW thn blk bF scp ba aZ bC FnAt FnIn FnP ceP
theorem BK {tk:List Int→Option (Tk × Nat)} {a:ByteArray} (h:(bH tk (ap a)).2.2=0):a.size≤256:=by
 unfold bH at h
 split at h
 ·
  cases h
 ·
  rename_i h1
  rw [aw] at h1
  omega
set_option maxHeartbeats 4000000 in
theorem zj (a:ByteArray) (w:World) (r:List Nd × Int × Int) (hr:r=bX (bH bO (ap a)) (a.size:Int)):
  FnAt Tryz.prog 210 [.string a] w fun v H=> ∃ A cap,v=Ji A cap r∧H= [.own A 174 11 r.1.length cap (r.1.flatMap bR)]:=by
 refine ax Tryz.func210 rfl Tryz.ntmps210 rfl ?_
 have hT:=fun w' =>BR a w'
 have htl:=oN bO (ap a)
 have hch:=ze (ap a)
 have hnum:=uZ (ap a)
 have hsz:=BK (tk:=bO) (a:=a)
 obtain ⟨⟨toks,at0,e0⟩,hx⟩: ∃ x,bH bO (ap a)=x:=⟨_,rfl⟩
 rw [hx] at hr htl hch hnum hsz
 simp only [hx,Jj] at hT
 dsimp only at htl hch hnum hsz
 refine aW 174 11 ?_
 refine aW 174 11 ?_
 by_cases he0:e0≠0
 ·
  have hr' :r=([],at0,e0):=by rw [hr];simp [bX,he0]
  subst hr'
  repeat' (first|(apply aF (f:=255);exact rfl;exact rfl;exact fun w' _=>hT w';rintro _ _ ⟨A,cap,rfl,rfl⟩)|refine sT ?_|refine sS ?_|refine sN ?_|refine sM fun _=> ?_|(refine sC ?_ ?_<;>intro hb<;>try omega)|fail)
  all_goals first
   |(exfalso;omega)
   |exact qu eIO rfl rfl rfl rfl (H' := [.own none 174 11 0 0 []]) mS ⟨none,0,rfl,rfl⟩
 have he0:e0=0:=Classical.not_not.1 he0
 subst he0
 replace hsz:=hsz rfl
 obtain ⟨r1,hr1,_⟩:=ug (a.size:Int) (20*toks.length+40) (.level 1) ⟨toks,[]⟩ ⟨by omega,by omega⟩ (by simp [Job.c])
 have hL:=(G0 (20*toks.length+40)).1 1 (by decide) (by decide)
 obtain ⟨ff,hff⟩: ∃ ff,20*toks.length+40=ff:=⟨_,rfl⟩
 rw [hff] at hr1 hL
 cases r1 with
 |error e=>
  have hr' :r=([],e.1,e.2):=by rw [hr];simp [bX,hff,hr1]
  subst hr'
  repeat' (first|(apply aF (f:=255);exact rfl;exact rfl;exact fun w' _=>hT w';rintro _ _ ⟨A,cap,rfl,rfl⟩)|(apply au (f:=256);exact rfl;exact rfl;rename_i g;exact FnIn.msub (hL ⟨g,a,A,cap,toks,hsz,htl,hch⟩ 0 ⟨toks,[]⟩ none 0 _ _ w (Nat.zero_le _) rfl (Nat.le_refl 0) hr1) (MSub.pick pK (MSub.pick pK (MSub.pick pK (MSub.refl _))));rintro _ _ ⟨rfl,k1,B1,cb1,o1,j1,j2,j3,j4,rfl⟩;dsimp only at j2;obtain ⟨u,hd1⟩: ∃ u,hdT (a.size:Int) (toks.drop k1)=u:=⟨_,rfl⟩)|(apply ak;exact rfl;apply dW;exact rfl;exact rfl)|(apply aa (f:=258);exact rfl;exact rfl;exact fun w' hm=>Cx.next (x:=⟨_,a,A,cap,toks,hsz,htl,hch⟩) hd1 (B:=B1) (cb:=cb1) (out:=o1) (at_:=e.1) (e:=e.2) (MSub.pick pK (MSub.pick pK (MSub.pick pK (MSub.nil _)))) w' hm)|(apply au (f:=257);exact rfl;exact rfl;exact FnIn.msub (gF _ a A toks.length cap k1 B1 o1.length cb1 e.1 e.2 _ _ _ _) (MSub.pick pK (.refl _));rw [if_neg j1,if_neg j1];rintro _ _ ⟨rfl,rfl⟩)|refine sT ?_|refine sS ?_|refine sQ ?_|refine sN ?_|refine sNQ ?_|refine sD ?_|refine sM fun _=> ?_|(refine sC ?_ ?_<;>intro hb<;>try omega)|(refine sCQ ?_ ?_<;>intro hb<;>try omega)|fail)
  all_goals first
   |(exfalso;omega)
   |exact absurd (by assumption) j1
   |exact qu eIO rfl rfl rfl rfl (H' := [.own none 174 11 0 0 []]) mS ⟨none,0,rfl,rfl⟩
 |ok y=>
  obtain ⟨n,p'⟩:=y
  have hwf:=BP _ _ _ _ _ _ hr1 (⟨hnum,fun _ h=>by cases h⟩:Wf ⟨toks,[]⟩)
  have hD:=fun (tv:Value) (w' :World) (h:Reads w' tv p'.out.length (p'.out.flatMap bR))=>vk p'.out hwf.2 tv w' h
  have hde:(l4 p'.out).2=dI p'.out:=by
   unfold l4
   split
   ·
    rfl
   ·
    rename_i h;simp at h;simp [h]
  obtain ⟨dd,de,hdd⟩: ∃ a b,l4 p'.out=(a,b):=⟨_,_,rfl⟩
  rw [hdd] at hD hde
  dsimp only at hD hde
  repeat' (first|(apply aF (f:=255);exact rfl;exact rfl;exact fun w' _=>hT w';rintro _ _ ⟨A,cap,rfl,rfl⟩)|(apply au (f:=256);exact rfl;exact rfl;rename_i g;exact FnIn.msub (hL ⟨g,a,A,cap,toks,hsz,htl,hch⟩ 0 ⟨toks,[]⟩ none 0 _ _ w (Nat.zero_le _) rfl (Nat.le_refl 0) hr1) (MSub.pick pK (MSub.pick pK (MSub.pick pK (MSub.refl _))));rintro _ _ ⟨rfl,k1,B1,cb1,j1,j2,j3,j4,rfl⟩;dsimp only at j1 j2;obtain ⟨u,hd1⟩: ∃ u,hdT (a.size:Int) (toks.drop k1)=u:=⟨_,rfl⟩)|(apply ak;exact rfl;apply dW;exact rfl;exact rfl)|(apply aa (f:=258);exact rfl;exact rfl;exact fun w' hm=>Cx.next (x:=⟨_,a,A,cap,toks,hsz,htl,hch⟩) hd1 (B:=B1) (cb:=cb1) (out:=p'.out) (at_:=0) (e:=0) (MSub.pick pK (MSub.pick pK (MSub.pick pK (MSub.nil _)))) w' hm)|(apply au (f:=257);exact rfl;exact rfl;exact FnIn.msub (gF _ a A toks.length cap k1 B1 p'.out.length cb1 0 0 _ _ _ _) (MSub.pick pK (.refl _));rintro _ _ ⟨rfl,rfl⟩)|(apply aa (f:=259);exact rfl;exact rfl;(intro w' hm';exact hD _ w' (Reads.of_own (A:=B1) hm' pK)))|refine sT ?_|refine sS ?_|refine sQ ?_|refine sN ?_|refine sNQ ?_|refine sD ?_|refine sM fun _=> ?_|(refine sC ?_ ?_<;>intro hb<;>try omega)|(refine sCQ ?_ ?_<;>intro hb<;>try omega)|fail)
  all_goals try (exfalso;omega)
  ·
   have hk1:k1<toks.length:=by
    have:(k1:Int)<(toks.length:Int):=by assumption
    omega
   have hu0:u.kind≠0:=fun h=>by
    have h2:=(hch.drop k1).kind (fin:=(a.size:Int))
    rw [hd1] at h2
    have:=congrArg List.length (h2.1 h)
    rw [Ug,U2] at this
    omega
   have hr' :r=([],u.at_,4):=by rw [hr];simp [bX,hff,hr1,j2,hd1,hu0]
   subst hr'
   exact qu eIO rfl rfl rfl rfl (H' := [.own none 174 11 0 0 []]) mS ⟨none,0,rfl,rfl⟩
  all_goals
   have hk1:toks.length≤k1:=by
    have:(toks.length:Int)≤(k1:Int):=by assumption
    omega
   have hu0:u.kind=0:=by rw [← hd1,wH hk1];rfl
  ·
   have hr' :r=([],0,de):=by
    have hb' :de≠0:=by assumption
    rw [hr];rw [hde] at hb' ⊢;simp [bX,hff,hr1,j2,hd1,hu0,hb']
   subst hr'
   exact qu eIO rfl rfl rfl rfl (H' := [.own none 174 11 0 0 []]) mS ⟨none,0,rfl,rfl⟩
  ·
   have hr' :r=(p'.out,0,0):=by
    have hb' :dI p'.out=0:=hde ▸ Classical.not_not.1 (by assumption)
    rw [hr];simp [bX,hff,hr1,j2,hd1,hu0,hb']
   subst hr'
   exact qu eIO rfl rfl rfl rfl (H' := [.own B1 174 11 p'.out.length cb1 (p'.out.flatMap bR)]) mS ⟨B1,cb1,rfl,rfl⟩
end Go.SL
namespace Go.SL
open Go
def ofR (b:ByteArray):Mn × Int × Int:=
 if 256<b.size then (tN,0,5)
 else match (ap b).findIdx? (fun c=> !bS c) with
  |some i=>(tN,(i:Int),4)
  |none=>
   if (ap b).headD 0≠61 then (⟨false,yO b,[]⟩,0,0)
   else match bX (bH bO (ap (sub b 1 b.size))) ((sub b 1 b.size).size:Int) with
    |(t,at_,e)=>if e≠0 then (tN,IntKind.i64.wrap (at_+1),e) else (⟨true,bV,t⟩,0,0)
theorem Cv {b:ByteArray} (h: ¬ 256<b.size) (hp:(ap b).findIdx? (fun c=> !bS c)=none):jT b=0:=by
 rw [VQ] at hp
 unfold jT
 rw [oY]
 have:(ap b).all bS=true:=by
  rw [UT]
  intro c hc
  simpa using hp c hc
 simp [h,this]
theorem Nr (b:ByteArray):ofP b=ofR b:=by
 unfold ofP ofR
 by_cases h1:256<b.size
 ·
  rw [if_pos h1,if_pos h1]
 rw [if_neg h1,if_neg h1]
 cases hf:(ap b).findIdx? (fun c=> !bS c) with
 |some i=>rfl
 |none=>
  dsimp only
  have hq:ap eqB= [61]:=rfl
  have hs:eqB.size=1:=rfl
  have h61:(ap b).take 1= [61]↔(ap b).headD 0=61:=by cases ap b<;>simp
  have hcut:lf b eqB=if (ap b).headD 0=61 then (sub b 1 b.size,true) else (b,false):=by
   unfold lf
   rw [hq,hs]
   by_cases h:(ap b).headD 0=61
   ·
    rw [if_pos (h61.2 h),if_pos h]
   ·
    rw [if_neg (fun h' =>h (h61.1 h')),if_neg h]
  rw [hcut]
  by_cases h2:(ap b).headD 0=61
  ·
   rw [if_pos h2,if_neg (by simp),if_neg (show ¬ ((ap b).headD 0≠61) from fun h=>h h2),GD]
  ·
   rw [if_neg h2,if_pos rfl,if_pos h2,LB (Cv h1 hf)]
end Go.SL
namespace Go.SL
open Go Go.Proofs
attribute [local irreducible] W WL WQ WG WA WX WLI WR WT WC VOp RW thn blk bF scp ba aZ bC FnAt FnIn FnP ceP
theorem GY {p:Int→Bool} {l:List Int} (h:aG p l=l.length): ∀ c∈l,p c=true:=by
 intro c hc
 have:c∈l.take (aG p l):=by rw [h,Ux];exact hc
 exact mz this
theorem Qb (l0:List Int): -9223372036854775808≤(iB l0).1:=by
 unfold iB
 extract_lets neg l n rest frac p5
 split
 ·
  show (-9223372036854775808:Int)≤0
  omega
 ·
  rename_i v _hc
  have h0:0≤bQ (l.take n++p5.take 4) 0:=by
   refine uk _ (fun c hc=> ?_) (Vw _)
   rcases Ub.1 hc with hc|hc
   ·
    have:=mz (p:=aJ) hc
    rw [fI] at this
    exact this.1
   ·
    have hc:=U1 hc
    rcases Ub.1 hc with hc|hc
    ·
     by_cases hf:frac=true
     ·
      rw [if_pos hf] at hc
      simp only [frac,TU,decide_eq_true_eq] at hf
      have hl:rest.tail.length=rest.length - 1:=Wo
      have:=GY (p:=aJ) (l:=rest.tail) (by omega) c hc
      rw [fI] at this
      exact this.1
     ·
      rw [if_neg hf] at hc
      cases hc
    ·
     simp only [TS,Vr,or_false,or_self] at hc
     omega
  have hv0:0≤v:=by
   show 0≤bQ (l.take n++p5.take 4) 0+(if 53≤p5.getD 4 0 then 1 else 0)
   split<;>omega
  split
  ·
   show (-9223372036854775808:Int)≤0
   omega
  ·
   rename_i hv
   simp only [cZ] at hv
   split
   ·
    show (-9223372036854775808:Int)≤ -v
    omega
   ·
    show (-9223372036854775808:Int)≤v
    omega
set_option maxHeartbeats 2000000 in
theorem Eo (b:ByteArray) (hb:b.size≤1000000) (w:World):aD Tryz.prog 209 [.string b] w (.agg (dV (yO b)).toArray):=by
  refine ax Tryz.func209 rfl Tryz.ntmps209 rfl ?_
  by_cases h0:b=az
  · subst h0
    repeat' (first|refine sT ?_|refine sS ?_|refine sT2 ?_|refine sM fun _=> ?_|(refine sC ?_ ?_<;>intro hb<;>try omega)|fail)
    all_goals first
      |((refine eRC ?_);rfl)
      |(exfalso;rename_i hb;exact hb rfl)
  have hpos:0<b.size:=by
    rcases VD b.size with h|h
    · exact absurd (ByteArray.ext (Wm h)) h0
    · exact h
  have hU:=fun w=>lB b hb w
  have hC:=fun w=>HG b hb w
  have hD:=fun w=>KF b hb w
  have hge:=Qb (ap b)
  have hM:=fun w=>HC _ hge w
  have hF:=fun c w=>ry c w
  have hTr:=fun c w=>Ef c w
  have hhd:(ap b).headD 0=bat b 0:=by have:=pH (a:=b) (i:=0);rwa [UZ] at this
  have hsub:sub b 1 b.size=mkB (ap b).tail:=by
    refine Nz ?_
    rw [fg,List.drop_one,UE]
    rw [Wo,aw];exact TQ _
  unfold yO
  rw [if_neg h0,hhd]
  obtain ⟨u,hu⟩: ∃ u,upB b=u:=⟨_,rfl⟩
  obtain ⟨⟨cn,ce⟩,hce⟩: ∃ u,jb b=u:=⟨_,rfl⟩
  obtain ⟨⟨dn,de⟩,hde⟩: ∃ u,iB (ap b)=u:=⟨_,rfl⟩
  rw [hu] at hU ⊢
  rw [hce] at hC ⊢
  rw [hde] at hD hM hge ⊢
  dsimp only at hC hD hM hge ⊢
  by_cases h1:bat b 0=39
  · rw [if_pos h1]
    repeat' (first|(apply ak (d:=7);exact rfl;apply eX;exact rfl;exact rfl;exact h0)|(apply ak (d:=10);exact rfl;apply bh (j:=0);exact rfl;exact rfl;exact hpos)|(apply ak (d:=13);exact rfl;apply wZ (lo:=1);exact rfl;exact rfl;omega)|refine sT ?_|refine sS ?_|refine sT2 ?_|refine sM fun _=> ?_|(refine sC ?_ ?_<;>intro hb<;>try omega)|fail)
    all_goals first
      |(exfalso;omega)
      |((refine eRC ?_);rw [hsub];rfl)
  rw [if_neg h1]
  by_cases h2:u=oL
  · rw [if_pos (.inl h2),decide_eq_true h2]
    repeat' (first|(apply ak (d:=7);exact rfl;apply eX;exact rfl;exact rfl;exact h0)|(apply ak (d:=10);exact rfl;apply bh (j:=0);exact rfl;exact rfl;exact hpos)|(apply aa;exact rfl;exact rfl;(intro w hm;exact hU w))|(apply ak (d:=17);exact rfl;apply oJ;exact rfl;exact rfl;exact h2)|(apply ak (d:=25);exact rfl;apply oJ;exact rfl;exact rfl;exact h2)|(apply aa (f:=250);exact rfl;exact rfl;(intro w' _;exact hTr true w'))|refine sT ?_|refine sS ?_|refine sT2 ?_|refine sM fun _=> ?_|(refine sC ?_ ?_<;>intro hb<;>try omega)|fail)
    all_goals first
      |(exfalso;omega)
      |((refine eRC ?_);rfl)
  by_cases h3:u=lZ
  · rw [if_pos (.inr h3),decide_eq_false h2]
    repeat' (first|(apply ak (d:=7);exact rfl;apply eX;exact rfl;exact rfl;exact h0)|(apply ak (d:=10);exact rfl;apply bh (j:=0);exact rfl;exact rfl;exact hpos)|(apply aa;exact rfl;exact rfl;(intro w hm;exact hU w))|(apply ak (d:=17);exact rfl;apply eX;exact rfl;exact rfl;exact h2)|(apply ak (d:=21);exact rfl;apply oJ;exact rfl;exact rfl;exact h3)|(apply ak (d:=25);exact rfl;apply eX;exact rfl;exact rfl;exact h2)|(apply aa (f:=250);exact rfl;exact rfl;(intro w' _;exact hTr false w'))|refine sT ?_|refine sS ?_|refine sT2 ?_|refine sM fun _=> ?_|(refine sC ?_ ?_<;>intro hb<;>try omega)|fail)
    all_goals first
      |(exfalso;omega)
      |((refine eRC ?_);rfl)
  rw [if_neg (by simp [h2,h3])]
  repeat' (first|(apply ak (d:=7);exact rfl;apply eX;exact rfl;exact rfl;exact h0)|(apply ak (d:=10);exact rfl;apply bh (j:=0);exact rfl;exact rfl;exact hpos)|(apply aa;exact rfl;exact rfl;(intro w hm;exact hU w))|(apply ak (d:=17);exact rfl;apply eX;exact rfl;exact rfl;exact h2)|(apply ak (d:=21);exact rfl;apply eX;exact rfl;exact rfl;exact h3)|(apply aa;exact rfl;exact rfl;(intro w hm;exact hC w))|(apply aa;exact rfl;exact rfl;(intro w hm;exact hD w))|(apply aa;exact rfl;exact rfl;(intro w hm;exact hM w))|(apply aa (f:=252);exact rfl;exact rfl;(intro w' _;exact hF _ w'))|refine sT ?_|refine sS ?_|refine sT2 ?_|refine sM fun _=> ?_|(refine sC ?_ ?_<;>intro hb<;>try omega)|fail)
  all_goals first
    |(exfalso;omega)
    | ((refine eRC ?_)
       (repeat (first|rw [if_pos (by first|assumption|omega)]|rw [if_neg (by first|assumption|omega)]))
       rfl)
set_option maxHeartbeats 2000000 in
theorem Ei (b:ByteArray) (w:World):FnAt Tryz.prog 159 [.string b] w fun v H=> ∃ A cap,v=ofV A cap (ofP b)∧H= [.own A 174 11 (ofP b).1.tree.length cap ((ofP b).1.tree.flatMap bR)]:=by
 refine ax Tryz.func159 rfl Tryz.ntmps159 rfl ?_
 refine aW 174 11 ?_
 rw [Nr]
 unfold ofR
 by_cases hlen:256<b.size
 ·
  rw [if_pos hlen]
  repeat' (first|refine sT ?_|refine sS ?_|refine sT2 ?_|refine sM fun _=> ?_|(refine sC ?_ ?_<;>intro hb<;>try omega)|fail)
  all_goals first
   |(exfalso;omega)
   |exact gN eIO rfl rfl pK rfl rfl rfl (H' := [.own none 174 11 0 0 []]) mS ⟨none,0,rfl,rfl⟩
 rw [if_neg hlen]
 repeat' (first|refine sT ?_|refine sS ?_|refine sT2 ?_|refine sM fun _=> ?_|(refine sC ?_ ?_<;>intro hb<;>try omega)|fail)
 all_goals try (exfalso;omega)
 rename_i g2
 refine ay [0,2] rfl (fun i:Nat=> [(5,.int .i64 (i:Int))]) (fun _=> [.box g2 192 [.bool false,.int .u8 0,.int .i64 0,.string az,.slice none 0 0],.own none 174 11 0 0 []]) (fun i=>i≤b.size∧ ∀ j,j<i→bS (bat b j)=true) (fun i=>b.size - i) 0 ⟨by omega,fun j h=>by omega⟩ sB mS ?_
 rintro i ⟨hi,hpl⟩
 by_cases hlt:i<b.size
 ·
  by_cases hc:bS (bat b i)=true
  ·
   have hc' :=hc
   simp only [bS,TU,decide_eq_true_eq] at hc'
   repeat' (first|(apply ak (d:=21);exact rfl;apply bh (j:=i);exact rfl;exact rfl;omega)|(apply ak (d:=26);exact rfl;apply bh (j:=i);exact rfl;exact rfl;omega)|refine sT ?_|refine sS ?_|refine sT2 ?_|refine sN ?_|refine sM fun _=> ?_|(refine sC ?_ ?_<;>intro hb<;>try omega)|fail)
   all_goals try (exfalso;omega)
   refine ⟨i+1,?_,(by first|omega|(dsimp only;omega)),sB,sB,mS⟩
   refine ⟨hlt,fun j hj=> ?_⟩
   rcases (by omega:j<i∨j=i) with h|rfl
   ·
    exact hpl j h
   ·
    exact hc
  ·
   have hc' :=hc
   simp only [bS,TU,decide_eq_true_eq] at hc'
   have hf:(ap b).findIdx? (fun c=> !bS c)=some i:=pO hlt (by simp [hc]) fun j hj=>by rw [hpl j hj];rfl
   rw [hf]
   repeat' (first|(apply ak (d:=21);exact rfl;apply bh (j:=i);exact rfl;exact rfl;omega)|(apply ak (d:=26);exact rfl;apply bh (j:=i);exact rfl;exact rfl;omega)|refine sT ?_|refine sS ?_|refine sT2 ?_|refine sN ?_|refine sM fun _=> ?_|(refine sC ?_ ?_<;>intro hb<;>try omega)|fail)
   all_goals first
    |(exfalso;omega)
    |exact gN eIO rfl rfl pK rfl rfl rfl (H' := [.own none 174 11 0 0 []]) mS ⟨none,0,rfl,rfl⟩
 ·
  have e:i=b.size:=by omega
  subst e
  have hf:(ap b).findIdx? (fun c=> !bS c)=none:=nI fun j hj=>by rw [hpl j hj];rfl
  rw [hf]
  dsimp only
  have hhd:(ap b).headD 0=bat b 0:=by have:=pH (a:=b) (i:=0);rwa [UZ] at this
  rw [hhd]
  have hC:=fun w=>Eo b (by omega) w
  by_cases h61:bat b 0≠61
  ·
   rw [if_pos h61]
   by_cases h0:b=az
   ·
    repeat' (first|(apply ak (d:=32);exact rfl;apply oJ;exact rfl;exact rfl;exact h0)|(apply aa;exact rfl;exact rfl;(intro w hm;exact hC w))|refine sT ?_|refine sS ?_|refine sT2 ?_|refine sN ?_|refine sM fun _=> ?_|(refine sC ?_ ?_<;>intro hb<;>try omega)|fail)
    all_goals first
     |(exfalso;omega)
     |exact gN eIO rfl rfl pK rfl rfl rfl (H' := [.own none 174 11 0 0 []]) mS ⟨none,0,rfl,rfl⟩
   ·
    have hpos:0<b.size:=by
     rcases VD b.size with h|h
     ·
      exact absurd (ByteArray.ext (Wm h)) h0
     ·
      exact h
    repeat' (first|(apply ak (d:=32);exact rfl;apply eX;exact rfl;exact rfl;exact h0)|(apply ak (d:=35);exact rfl;apply bh (j:=0);exact rfl;exact rfl;exact hpos)|(apply aa;exact rfl;exact rfl;(intro w hm;exact hC w))|refine sT ?_|refine sS ?_|refine sT2 ?_|refine sN ?_|refine sM fun _=> ?_|(refine sC ?_ ?_<;>intro hb<;>try omega)|fail)
    all_goals first
     |(exfalso;omega)
     |exact gN eIO rfl rfl pK rfl rfl rfl (H' := [.own none 174 11 0 0 []]) mS ⟨none,0,rfl,rfl⟩
  ·
   rw [if_neg h61]
   have h61:bat b 0=61:=Classical.not_not.1 h61
   have hpos:0<b.size:=by
    rcases VD b.size with h|h
    ·
     rw [jG (by omega)] at h61;cases h61
    ·
     exact h
   have h0:b≠az:=by
    rintro rfl
    exact absurd hpos (by decide)
   have hF:=fun (w' :World)=>zj (sub b 1 b.size) w' _ rfl
   obtain ⟨⟨t,at0,e0⟩,hr⟩: ∃ x,bX (bH bO (ap (sub b 1 b.size))) ((sub b 1 b.size).size:Int)=x:=⟨_,rfl⟩
   simp only [hr,Ji] at hF
   rw [hr]
   dsimp only
   by_cases he:e0≠0
   ·
    rw [if_pos he]
    repeat' (first|(apply ak (d:=32);exact rfl;apply eX;exact rfl;exact rfl;exact h0)|(apply ak (d:=35);exact rfl;apply bh (j:=0);exact rfl;exact rfl;exact hpos)|(apply ak (d:=43);exact rfl;apply wZ (lo:=1);exact rfl;exact rfl;omega)|(apply aF (f:=210);exact rfl;exact rfl;(intro w' hm';exact hF w');rintro _ _ ⟨A,cap,rfl,rfl⟩)|(apply ak;exact rfl;apply xc;exact rfl;exact rfl)|refine sT ?_|refine sS ?_|refine sT2 ?_|refine sN ?_|refine sM fun _=> ?_|(refine sC ?_ ?_<;>intro hb<;>try omega)|fail)
    all_goals first
     |(exfalso;omega)
     |exact gN eIO rfl rfl pK rfl rfl rfl (H' := [.own none 174 11 0 0 []]) mS ⟨none,0,rfl,rfl⟩
   ·
    rw [if_neg he]
    repeat' (first|(apply ak (d:=32);exact rfl;apply eX;exact rfl;exact rfl;exact h0)|(apply ak (d:=35);exact rfl;apply bh (j:=0);exact rfl;exact rfl;exact hpos)|(apply ak (d:=43);exact rfl;apply wZ (lo:=1);exact rfl;exact rfl;omega)|(apply aF (f:=210);exact rfl;exact rfl;(intro w' hm';exact hF w');rintro _ _ ⟨A,cap,rfl,rfl⟩)|(apply ak;exact rfl;apply xc;exact rfl;exact rfl)|refine sT ?_|refine sS ?_|refine sT2 ?_|refine sN ?_|refine sM fun _=> ?_|(refine sC ?_ ?_<;>intro hb<;>try omega)|fail)
    all_goals first
     |(exfalso;omega)
     |exact gN eIO rfl rfl pK rfl rfl rfl (H' := [.own A 174 11 t.length cap (t.flatMap bR)]) mS ⟨A,cap,rfl,rfl⟩
set_option maxHeartbeats 2000000 in
theorem El (L:List Et) (tv:Value) (w:World) (ht:Reads w tv L.length (L.flatMap du)) (i:Nat) (hlt:i<L.length):
  aD Tryz.prog 126 [tv,.int .i64 (i:Int)] w (.int .i64 (fF (jO L i) L[i])):=by
 obtain ⟨Al,cl,rfl,hl1,hl2,hl3⟩:=ht
 refine ax Tryz.func126 rfl Tryz.ntmps126 rfl ?_
 obtain ⟨gl,ol,rfl,hrl⟩:=hl3 (by omega)
 have he:=hrl.elem fk i hlt
 have hprev: ∀ h:0<i,Ro w gl (ol+(i - 1)*3) (du L[i - 1]):=fun h=>hrl.elem fk (i - 1) (by omega)
 have hbef: ∀ h:0<i,jO L i=some L[i - 1].at_:=fun h=>by unfold jO;rw [if_neg (by omega),TJ (by omega)];rfl
 have hbef0:i=0→jO L i=none:=fun h=>by unfold jO;rw [if_pos h]
 generalize L[i]=e at he ⊢
 obtain ⟨fo,hfo⟩: ∃ fo,fF (jO L i) e=fo:=⟨_,rfl⟩
 rw [hfo]
 have hV: ∀ w',aD Tryz.prog 157 [.agg (aC e.at_).toArray] w' (.bool e.at_.valid):=fun w' =>lA e.at_.col e.at_.row w'
 have hO:=fun (w' :World)=>Ei e.input w'
 have hofV: ∀ (A:Option Nat) (cap:Nat),ofV A cap (ofP e.input)= .tuple #[.agg (CK (ofP e.input).1 (sl A (ofP e.input).1.tree.length cap)).toArray,.int .i64 (ofP e.input).2.1,.int .i64 (ofP e.input).2.2]:=fun _ _=>rfl
 simp only [hofV] at hO
 unfold fF at hfo
 generalize ofP e.input=o at hO hfo
 obtain ⟨⟨f1,f2,f3⟩,oa,oe⟩:=o
 simp only [CK] at hO
 generalize e.at_.valid=vd at hV hfo
 have hle: ∀ (w' :World),True:=fun _=>trivial
 by_cases h0:0<i
 ·
  have hp:=hprev h0
  rw [hbef h0] at hfo
  generalize L[i - 1]=b at hp hfo
  have hL:=fun w' =>xH b.at_ e.at_ w'
  replace hfo:(if vd=false then (3:Int) else if bn b.at_ e.at_=false then 12 else if e.input=az then 2 else oe)=fo:=hfo
  generalize bn b.at_ e.at_=ls at hL hfo
  repeat' (first|(apply ak (d:=10);exact rfl;apply aj;exact rfl;exact rfl;exact hlt)|(apply ak (d:=12);exact rfl;apply dC (off:=0) (ys:=aC e.at_) he;(iterate 3 exact rfl))|(apply aO (d:=20);exact rfl;apply di;exact rfl;exact rfl;exact h0;(simp only [maxLen] at*;omega))|(apply aO (d:=21);exact rfl;apply aj (j:=i - 1);exact rfl;exact rfl;omega)|(apply aO (d:=23);exact rfl;apply dC (off:=0) (ys:=aC b.at_) hp;(iterate 3 exact rfl))|(apply aO (d:=26);exact rfl;apply aj (j:=i);exact rfl;exact rfl;exact hlt)|(apply aO (d:=28);exact rfl;apply dC (off:=0) (ys:=aC e.at_) he;(iterate 3 exact rfl))|(apply ak (d:=34);exact rfl;apply aj;exact rfl;exact rfl;exact hlt)|(apply ak (d:=36);exact rfl;apply eH (off:=2);exact rfl;exact he;exact rfl)|(apply ak (d:=41);exact rfl;apply aj;exact rfl;exact rfl;exact hlt)|(apply ak (d:=43);exact rfl;apply eH (off:=2);exact rfl;exact he;exact rfl)|(apply aa;exact rfl;exact rfl;(intro w hm;exact hV w))|(apply cY;exact rfl;exact rfl;(intro w hm;exact hL w))|(apply aF (f:=159);exact rfl;exact rfl;(intro w' hm;exact hO w');rintro _ _ ⟨A,cap,rfl,rfl⟩)|refine sT ?_|refine sS ?_|refine sQ ?_|refine sN ?_|refine sNQ ?_|refine sD ?_|refine sM fun _=> ?_|(refine sC ?_ ?_<;>intro hb<;>try omega)|(refine sCQ ?_ ?_<;>intro hb<;>try omega)|fail)
  all_goals (refine cA eIO rfl rfl (.nil _) ?_;simp_all [az];done)
 ·
  rw [hbef0 (by omega)] at hfo
  repeat' (first|(apply ak (d:=10);exact rfl;apply aj;exact rfl;exact rfl;exact hlt)|(apply ak (d:=12);exact rfl;apply dC (off:=0) (ys:=aC e.at_) he;(iterate 3 exact rfl))|(apply ak (d:=34);exact rfl;apply aj;exact rfl;exact rfl;exact hlt)|(apply ak (d:=36);exact rfl;apply eH (off:=2);exact rfl;exact he;exact rfl)|(apply ak (d:=41);exact rfl;apply aj;exact rfl;exact rfl;exact hlt)|(apply ak (d:=43);exact rfl;apply eH (off:=2);exact rfl;exact he;exact rfl)|(apply aa;exact rfl;exact rfl;(intro w hm;exact hV w))|(apply aF (f:=159);exact rfl;exact rfl;(intro w' hm;exact hO w');rintro _ _ ⟨A,cap,rfl,rfl⟩)|refine sT ?_|refine sS ?_|refine sQ ?_|refine sN ?_|refine sNQ ?_|refine sD ?_|refine sM fun _=> ?_|(refine sC ?_ ?_<;>intro hb<;>try omega)|(refine sCQ ?_ ?_<;>intro hb<;>try omega)|fail)
  all_goals first
   |(exfalso;omega)
   |(refine cA eIO rfl rfl (.nil _) ?_;simp_all [az];done)
theorem zk (L:List Et) (tv:Value) (w:World) (ht:Reads w tv L.length (L.flatMap du)) (hlen:L.length≤1000000):
    aD Tryz.prog 66 [tv] w (.tuple #[.int .i64 (fP L).1,.int .i64 (fP L).2]):=by
  have hF:=fun (w' :World) (H' :List Blk) (hm:Mem w w' H') (i:Nat) (hi:i<L.length)=>El L tv w' (ht.of_w0 hm) i hi
  obtain ⟨Al,cl,rfl,hl1,hl2,hl3⟩:=ht
  refine ax Tryz.func66 rfl Tryz.ntmps66 rfl ?_
  repeat' (first|refine sT ?_|refine sS ?_|refine sM fun _=> ?_|(refine sC ?_ ?_<;>intro hb<;>try omega)|fail)
  refine ay [0] rfl (fun i:Nat=> [(4,.int .i64 (i:Int))]) (fun _=> []) (fun i=>i≤L.length∧fP L=cQ i (jO L i) (L.drop i)) (fun i=>L.length - i) 0 ⟨by omega,rfl⟩ sB (.refl _) ?_
  rintro i ⟨hi,hck⟩
  by_cases hlt:i<L.length
  · have hF:=fun w' H' hm=>hF w' H' hm i hlt
    have hnext:jO L (i+1)=some L[i].at_:=by unfold jO;rw [if_neg (by omega),VJ,TJ hlt];rfl
    rw [TN hlt,cQ,← hnext] at hck
    generalize fF (jO L i) L[i]=e at hF hck
    repeat' (first|(apply aa (f:=126);exact rfl;exact rfl;(intro w' hm;exact hF w' _ hm))|refine sT ?_|refine sS ?_|refine sN ?_|refine sM fun _=> ?_|(refine sC ?_ ?_<;>intro hb<;>try omega)|fail)
    all_goals first
      |(exfalso;omega)
      |(refine dc eIO rfl rfl rfl (.nil _) ?_;rw [hck,if_pos (by assumption)];done)
      | (rw [if_neg (by assumption)] at hck
         refine ⟨i+1,⟨hlt,hck⟩,by omega,?_,?_,.nil _⟩
         · exact sB
         · exact sB)
  · have e2:i=L.length:=by omega
    subst e2
    rw [UB,cQ] at hck
    repeat' (first|refine sT ?_|refine sS ?_|refine sM fun _=> ?_|(refine sC ?_ ?_<;>intro hb<;>try omega)|fail)
    all_goals first
      |(exfalso;omega)
      |(refine dc eIO rfl rfl rfl (.nil _) ?_;rw [hck])
end Go.SL
namespace Go.SL
open Go Go.Proofs
attribute [local irreducible] W WL WQ WG WA VOp thn blk bF ba FnAt FnIn Sr
theorem xL (r:Rct):aH r=true↔1≤r.c1∧r.c1≤1024∧1≤r.r1∧r.r1≤1024∧1≤r.c2∧r.c2≤1024∧1≤r.r2∧r.r2≤1024∧r.c1≤r.c2∧r.r1≤r.r2:=by
 simp only [aH,valid,TU,decide_eq_true_eq]
 omega
theorem Km (r:Rct) (u:Us):og r u=true↔aH u.rect=true∧aH r=true∧u.rect.c1≤r.c2∧r.c1≤u.rect.c2∧u.rect.r1≤r.r2∧r.r1≤u.rect.r2:=by
 have h:og r u= [u.rect,r,gX u.rect r].all aH:=by
  unfold og dZ
  cases [u.rect,r,gX u.rect r].all aH<;>simp
 rw [h]
 simp only [VA,List.all_nil,Wg,TU,xL]
 generalize u.rect=a
 unfold gX
 dsimp only
 repeat' split
 all_goals omega
theorem rV (L:List Nd): ∀ (r:List Nd) (i:Nat) (st:List Pt) (vs:List mU),(fH L r i st vs).1=0→ ∀ n∈r,bE n=0
 | [],_,_,_=>fun _ _ h=>by cases h
 |n::r,i,st,vs=>by
  intro h
  rw [fH] at h
  have hn:bE n=0:=by
   by_cases hf:bE n=0
   ·
    exact hf
   ·
    unfold jI at h
    rw [if_pos hf] at h
    exact h
  cases hs:jI L n i st with
  |inl e=>
   rw [hs] at h
   dsimp only at h
   unfold jI at hs
   rw [if_neg (by omega)] at hs
   split at hs
   ·
    injection hs with hs;omega
   ·
    split at hs
    ·
     injection hs with hs;omega
    ·
     cases hs
  |inr y=>
   obtain ⟨st',kids,d⟩:=y
   rw [hs] at h
   intro m hm
   rcases TS.1 hm with rfl|hm
   ·
    exact hn
   ·
    exact rV L r _ _ _ h m hm
theorem tI {L:List Nd} (h:dI L=0): ∀ n∈L,bE n=0:=by
 refine rV L L 0 [] [] ?_
 unfold dI jV at h
 split at h
 ·
  cases h
 split at h
 ·
  cases h
 split at h
 ·
  rename_i h3
  exact absurd h h3
 ·
  rename_i h3
  omega
theorem Fw {n:Nd} (h:bE n=0) (hr:eP n=true):aH n.rect=true:=by
 unfold bE at h
 split at h
 ·
  cases h
 rename_i hk
 have hk1:fD n=true:=by
  cases hh:fD n
  ·
   exact absurd (Or.inl hh) hk
  ·
   rfl
 simp only [eP,Vo,decide_eq_true_eq] at hr
 unfold fD at hk1
 rw [if_neg (by omega),if_pos hr] at hk1
 simp only [TU,decide_eq_true_eq] at hk1
 have h1:=hk1.1
 unfold dY at h1
 cases hq:aH n.rect
 ·
  rw [hq] at h1;cases h1
 ·
  rfl
theorem xM {r:Rct}:dY r≠0↔aH r=false:=by unfold dY;cases aH r<;>simp
end Go.SL
namespace Go.SL
open Go
theorem lU: ∀ (L:List Nd) (i:Nat),∀ u∈bZ L i,∃ n∈L,eP n=true∧u.rect=n.rect
 | [],_,u,h=>by cases h
 |n::r,i,u,h=>by
  rw [bZ] at h
  cases hr:eP n with
  |false=>
   rw [hr,cond_false] at h
   obtain ⟨m,hm,h1,h2⟩:=lU r (i+1) u h
   exact ⟨m,TM _ hm,h1,h2⟩
  |true=>
   rw [hr,cond_true] at h
   rcases TS.1 h with rfl|h
   ·
    refine ⟨n,TI,hr,?_⟩
    unfold iY
    cases r with
    |nil=>rfl
    |cons m q=>dsimp only;split<;>rfl
   ·
    obtain ⟨m,hm,h1,h2⟩:=lU r (i+1) u h
    exact ⟨m,TM _ hm,h1,h2⟩
theorem Kh {L:List Nd} (h:dI L=0): ∀ u∈eu L,aH u.rect=true:=fun u hu=>by
 obtain ⟨n,hn,h1,h2⟩:=lU L 0 u hu
 rw [h2]
 exact Fw (tI h n hn) h1
structure EntOk (e:Rf × List Nd × List Us):Prop where
 at_:e.1.valid=true
 tree:dI e.2.1=0
 uses:e.2.2=eu e.2.1
 len:e.2.1.length≤256
theorem EntOk.rect {e:Rf × List Nd × List Us} (h:EntOk e): ∀ u∈e.2.2,aH u.rect=true:=by
 rw [h.uses];exact Kh h.tree
structure GrOk (G:Gr):Prop where
 sort:SortG G
 ent: ∀ e∈G,EntOk e
theorem yf:GrOk []:=⟨z1,fun _ h=>by cases h⟩
theorem GrOk.set {G:Gr} (h:GrOk G) (a:Rf) (b:ByteArray):GrOk (fQ G a b).1:=by
 refine ⟨Kv h.sort a b,?_⟩
 unfold fQ
 split
 ·
  exact h.ent
 ·
  rename_i hv
  split
  ·
   exact h.ent
  ·
   rename_i he
   split
   ·
    exact fun e he=>h.ent e (o9.1 he).1
   ·
    rename_i hf
    intro e hm
    rcases mI.1 hm with rfl|⟨hm,_⟩
    ·
     exact ⟨by simpa using hv,xW (by simpa using he) (by simpa using hf),rfl,Cg b⟩
    ·
     exact h.ent e hm
theorem DW (G:Gr) (a:Rf) (b:ByteArray):(fQ G a b).1.length≤G.length+1:=by
 unfold fQ
 split
 ·
  exact VS _
 ·
  split
  ·
   exact VS _
  ·
   split
   ·
    exact Uo (VC _ _) (VS _)
   ·
    simp only [v7,TG,TZ]
    have:(G.filter fun e=>bn e.1 a).length+(G.filter fun e=>bn a e.1).length≤G.length:=by
     induction G with
     |nil=>simp
     |cons e r ih=>
      simp only [Vf,TZ]
      cases h1:bn e.1 a
      ·
       cases h2:bn a e.1<;>simp<;>omega
      ·
       rw [lM h1];simp;omega
    omega
theorem zI {c r:Int}:valid c r=true↔1≤c∧c≤1024∧1≤r∧r≤1024:=by
 simp only [valid,TU,decide_eq_true_eq]
 omega
theorem Eu {c r:Int}:aH (fR c r)=valid c r:=by
 rw [Uy,xL,zI]
 simp only [fR]
 omega
theorem Lb {u:Us} {a:Rf} (hu:aH u.rect=true) (ha:a.valid=true):cj u.rect a=og (fR a.col a.row) u:=by
 rw [Uy,Km,Eu]
 have hv:valid a.col a.row=true:=ha
 simp only [cj,TU,decide_eq_true_eq,fR,hu,hv,true_and]
 omega
theorem KX {G:Gr} (h:SortG G) {e:Rf × List Nd × List Us} (he:e∈G):lK G e.1=some e.2:=(rF h).2 he
theorem zR {G:Gr} (h:SortG G) {e:Rf × List Nd × List Us} (he:e∈G):aK G e.1=e.2.2:=by rw [aK,KX h he];rfl
theorem gH {G:Gr} {c:Rf}:c∈aq G↔ ∃ e∈G,e.1=c:=by simp [aq]
theorem AF {G:Gr} (h:SortG G) {r:Rct} (hr:aH r=true) {c:Rf} (hc:c∈aq G):c∈eJ G r↔cM (aK G c) r=true:=by
 obtain ⟨e,he,rfl⟩:=gH.1 hc
 rw [eJ,if_neg (by rw [xM,hr];simp),zR h he]
 simp only [Ul,Vb]
 constructor
 ·
  rintro ⟨f,⟨hf,h1⟩,h2⟩
  have:=nT (fun e:Rf × List Nd × List Us=>e.1) h.nodup hf he h2
  rw [← this];exact h1
 ·
  intro h1
  exact ⟨e,⟨he,h1⟩,rfl⟩
theorem xd {G:Gr} {r:Rct}: ∀ c∈eJ G r,c∈aq G:=by
 intro c hc
 unfold eJ at hc
 split at hc
 ·
  cases hc
 ·
  simp only [Ul,Vb] at hc
  obtain ⟨e,⟨he,_⟩,h⟩:=hc
  exact gH.2 ⟨e,he,h⟩
theorem Kj {G:Gr} {r:Rct}:(eJ G r).length≤G.length:=by
 unfold eJ
 split
 ·
  exact TW _
 ·
  rw [Uf];exact VC _ _
theorem GOk.all {R:List Blk} {E:List En} {clock:Nat} {G:Gr} (h:GOk R E clock G):yU E=G.flatMap fun e=>e.2.2.map fun u=>(e.1,u):=by
 rw [yU,h.forms,aq,List.flatMap_map]
 have: ∀ L:Gr,(∀ e∈L,e∈G)→L.flatMap (fun e=>jz E e.1)=L.flatMap fun e=>e.2.2.map fun u=>(e.1,u):=by
  intro L
  induction L with
  |nil=>intro _;rfl
  |cons e r ih=>
   intro hL
   rw [T9,T9,ih fun f hf=>hL f (TM _ hf),jz,h.uses,zR h.sort (hL e TI)]
 exact this G fun _ h=>h
theorem AQ (r:Rct) (a:Rf): ∀ (us:List Us) (out:List Rf),out.getLast? =some a→(us.map fun u=>(a,u)).foldl (bT r) out=out
 | [],_,_=>rfl
 |u::q,out,h=>by
  rw [Ud,UK]
  have:bT r out (a,u)=out:=by
   rw [ni,h]
   simp
  rw [this]
  exact AQ r a q out h
theorem E7 (r:Rct) (a:Rf): ∀ (us:List Us) (out:List Rf),out.getLast? ≠some a→(us.map fun u=>(a,u)).foldl (bT r) out=if cM us r then out++ [a] else out
 | [],out,_=>rfl
 |u::q,out,h=>by
  rw [Ud,UK,cM,List.any_cons]
  have hs:bT r out (a,u)=if og r u then out++ [a] else out:=by
   rw [ni]
   cases ho:out.getLast? with
   |none=>simp
   |some b=>
    have:b≠a:=by rintro rfl;exact h ho
    simp [this]
  rw [hs]
  cases ht:og r u with
  |true=>
   simp only [if_true,Bool.true_or]
   exact AQ r a q _ (by simp)
  |false=>
   simp only [Ur,if_false,Bool.false_or]
   exact E7 r a q out h
theorem rI (r:Rct): ∀ (L:Gr) (out:List Rf),SortG L→(∀ e∈L,out.getLast? ≠some e.1)→(L.flatMap fun e=>e.2.2.map fun u=>(e.1,u)).foldl (bT r) out=out++(L.filter fun e=>cM e.2.2 r).map fun e=>e.1
 | [],out,_,_=>by simp
 |e::q,out,hs,hl=>by
  obtain ⟨h1,h2⟩:=Un.1 hs
  rw [T9,U8,E7 r e.1 e.2.2 out (hl e TI),Vf]
  cases ht:cM e.2.2 r with
  |true=>
   rw [if_pos rfl,if_pos rfl,rI r q _ h2,Ud,TY,WO]
   intro f hf
   rw [List.getLast?_append,List.getLast?_singleton,Option.some_or]
   intro he
   exact jL (h1 f hf) (Option.some.inj he)
  |false=>
   rw [if_neg (by simp),if_neg (by simp),rI r q _ h2]
   exact fun f hf=>hl f (TM _ hf)
theorem GOk.users {R:List Blk} {E:List En} {clock:Nat} {G:Gr} (h:GOk R E clock G) (r:Rct):tV E r=eJ G r:=by
 unfold tV eJ
 split
 ·
  rfl
 ·
  rw [h.all,rI r G [] h.sort (fun _ _=>by simp),TL]
theorem GOk.allLen {R:List Blk} {E:List En} {clock:Nat} {G:Gr} (h:GOk R E clock G) (hG:GrOk G):(yU E).length≤256*G.length:=by
 rw [h.all]
 have: ∀ L:Gr,(∀ e∈L,EntOk e)→(L.flatMap fun e=>e.2.2.map fun u=>(e.1,u)).length≤256*L.length:=by
  intro L
  induction L with
  |nil=>intro _;simp
  |cons e r ih=>
   intro hL
   have h1:=ih fun f hf=>hL f (TM _ hf)
   have h2:=hL e TI
   have h3:e.2.2.length≤256:=by
    rw [h2.uses]
    exact Uo (gC _ _) h2.len
   rw [T9,TG,Uf,TZ]
   omega
 exact this G hG.ent
end Go.SL
namespace Go.SL
open Go Go.Proofs
attribute [local irreducible] W WL WQ WG WA WX WLI WR WT WC VOp RW thn blk bF scp ba aZ bC FnAt FnIn FnP ceP
def nX (e:En):List Value:= [.int .i64 e.at_.col,.int .i64 e.at_.row,e.tv,e.uv]
theorem FB (e:En):(nX e).length=4:=rfl
def rgB (g:Nat) (A:Option Nat) (cap:Nat) (L:List En):List Blk:= [.box g 220 [sl A L.length cap],.own A 255 4 L.length cap (L.flatMap nX)]
structure RGOk (R:List Blk) (L:List En) (G:Gr):Prop where
 en: ∀ e∈L,EnOk R e
 rel:L.map En.abs=G
theorem RGOk.len {R:List Blk} {L:List En} {G:Gr} (h:RGOk R L G):L.length=G.length:=by rw [← h.rel,Uf]
def eZ (a:Rf) (x:En) (st:List En × Bool) (e:En):List En × Bool:=
 let st1:=if st.2=false∧bn a e.at_=true then (st.1++ [x],true) else st
 (if e.at_≠a then st1.1++ [e] else st1.1,st1.2)
def Iw (x:En) (st:List En × Bool):List En:=if st.2 then st.1 else st.1++ [x]
def zi (a:Rf) (x:En) (d:Bool) (L:List En):List En:=Iw x (L.foldl (eZ a x) ([],d))
theorem yq (a:Rf) (x:En): ∀ (L:List En) (O:List En),L.foldl (eZ a x) (O,true)=(O++L.filter (fun e=>decide (e.at_≠a)),true)
 | [],O=>by simp
 |e::r,O=>by
  rw [UK]
  have:eZ a x (O,true) e=(if e.at_≠a then O++ [e] else O,true):=by simp [eZ]
  rw [this,yq a x r,Vf]
  by_cases h:e.at_≠a
  ·
   simp [h]
  ·
   simp [h]
theorem MN (a:Rf) (x:En) (L:List En):(zi a x true L).map En.abs=yM (L.map En.abs) a:=by
 unfold zi
 rw [yq]
 simp only [Iw,if_true,TL,yM,List.filter_map]
 rfl
theorem yo {a:Rf} {x:En}: ∀ (L:List En) (O:List En),SortG (L.map En.abs)→
  Iw x (L.foldl (eZ a x) (O,false))=O++(L.filter (fun e=>bn e.at_ a)++x::L.filter fun e=>bn a e.at_)
 | [],O,_=>by simp [Iw]
 |e::r,O,hs=>by
  rw [Ud] at hs
  obtain ⟨h1,h2⟩:=Un.1 hs
  rw [UK,Vf,Vf]
  cases hl:bn a e.at_ with
  |true=>
   have hne:e.at_≠a:=(jL hl).symm
   have hge:bn e.at_ a=false:=lM hl
   have hst:eZ a x (O,false) e=(O++ [x]++ [e],true):=by simp [eZ,hl,hne]
   have hall: ∀ f∈r,bn a f.at_=true:=fun f hf=>pz hl (h1 f.abs (Ul.2 ⟨f,hf,rfl⟩))
   have e1:r.filter (fun f=>decide (f.at_≠a))=r:=List.filter_eq_self.2 fun f hf=>by simpa using (jL (hall f hf)).symm
   have e2:r.filter (fun f=>bn f.at_ a)= []:=List.filter_eq_nil_iff.2 fun f hf=>by rw [lM (hall f hf)];simp
   have e3:r.filter (fun f=>bn a f.at_)=r:=List.filter_eq_self.2 hall
   rw [hst,yq,hge,e1,e2,e3]
   simp [Iw]
  |false=>
   by_cases hne:e.at_=a
   ·
    have hst:eZ a x (O,false) e=(O,false):=by simp [eZ,hne,qj]
    have hle:bn e.at_ a=false:=by rw [hne];exact qj a
    rw [hst,yo r O h2,hle]
    simp
   ·
    have hst:eZ a x (O,false) e=(O++ [e],false):=by simp [eZ,hl,hne]
    have hle:bn e.at_ a=true:=by
     rcases EU hne with h|h
     ·
      exact h
     ·
      rw [hl] at h;cases h
    rw [hst,yo r _ h2,hle]
    simp
theorem MM {a:Rf} {x:En} (hx:x.at_=a) {L:List En} (hs:SortG (L.map En.abs)):(zi a x false L).map En.abs=v7 (L.map En.abs) a (x.tree,x.uses):=by
 unfold zi
 rw [yo L [] hs,TL,UG,Ud,v7,List.filter_map,List.filter_map]
 subst hx
 rfl
theorem Kr {a:Rf} {x:En} {st:List En × Bool} {e f:En} (h:f∈(eZ a x st e).1):f∈st.1∨f=x∨f=e:=by
 have h1: ∀ q:List En,f∈(if e.at_≠a then q++ [e] else q)→f∈q∨f=e:=by
  intro q hq
  split at hq
  ·
   rcases Ub.1 hq with hq|hq
   ·
    exact .inl hq
   ·
    exact .inr (TX.1 hq)
  ·
   exact .inl hq
 unfold eZ at h
 dsimp only at h
 rcases h1 _ h with h|h
 ·
  split at h
  ·
   rcases Ub.1 h with h|h
   ·
    exact .inl h
   ·
    exact .inr (.inl (TX.1 h))
  ·
   exact .inl h
 ·
  exact .inr (.inr h)
theorem yn {a:Rf} {x:En}: ∀ (L:List En) (st:List En × Bool) {f:En},f∈(L.foldl (eZ a x) st).1→f∈st.1∨f=x∨f∈L
 | [],_,_,h=> .inl h
 |e::r,st,f,h=>by
  rw [UK] at h
  rcases yn r _ h with h|h|h
  ·
   rcases Kr h with h|h|h
   ·
    exact .inl h
   ·
    exact .inr (.inl h)
   ·
    exact .inr (.inr (h ▸ TI))
  ·
   exact .inr (.inl h)
  ·
   exact .inr (.inr (TM _ h))
theorem ML {a:Rf} {x:En} {d:Bool} {L:List En} {f:En} (h:f∈zi a x d L):f=x∨f∈L:=by
 unfold zi Iw at h
 split at h
 ·
  rcases yn L _ h with h|h|h
  ·
   cases h
  ·
   exact .inl h
  ·
   exact .inr h
 ·
  rcases Ub.1 h with h|h
  ·
   rcases yn L _ h with h|h|h
   ·
    cases h
   ·
    exact .inl h
   ·
    exact .inr h
  ·
   exact .inl (TX.1 h)
theorem E6 {l:List Int} {fin:Int}: ∀ n∈(bX (bH bO l) fin).1,wfN n:=by
 have hnum:=uZ l
 generalize bH bO l=x at hnum
 unfold bX
 split
 ·
  exact fun _ h=>by cases h
 ·
  split
  ·
   exact fun _ h=>by cases h
  ·
   exact fun _ h=>by cases h
  ·
   rename_i n p hp
   have hwf:=BP _ _ _ _ _ _ hp (⟨hnum,fun _ h=>by cases h⟩:Wf ⟨x.1,[]⟩)
   split
   ·
    exact fun _ h=>by cases h
   ·
    split
    ·
     exact fun _ h=>by cases h
    ·
     exact hwf.2
theorem RT (b:ByteArray): ∀ n∈(ofP b).1.tree,wfN n:=by
 rw [Nr]
 unfold ofR
 split
 ·
  exact fun _ h=>by cases h
 ·
  split
  ·
   exact fun _ h=>by cases h
  ·
   split
   ·
    exact fun _ h=>by cases h
   ·
    have h:=E6 (l:=ap (sub b 1 b.size)) (fin:=((sub b 1 b.size).size:Int))
    generalize bX (bH bO (ap (sub b 1 b.size))) ((sub b 1 b.size).size:Int)=r at h
    obtain ⟨t,a,e⟩:=r
    dsimp only at h ⊢
    split
    ·
     exact fun _ h=>by cases h
    ·
     exact h
end Go.SL

/-
  Lemmas and walks, put together: Q7 Oq Q8 Q9 W33 W34 Lu Gu.
-/
import Derived.Test.YtlnecnbfmnfigaaGreatDoorKu26
set_option linter.unusedSimpArgs false
set_option linter.unusedVariables false
set_option maxRecDepth 20000
namespace Go.SL
open Go Go.Proofs
attribute [local irreducible] W WL WQ WG WA WX WLI WR WT WC VOp RW thn blk bZ scp bA bV ck FnAt FnIn FnP ceP
theorem zp {tk:List Int→Option (Tk × Nat)} {a:ByteArray} (h:(bw tk (ap a)).2.2=0):a.size≤256:=by
 unfold bw at h
 split at h
 ·
  cases h
 ·
  rename_i h1
  rw [au] at h1
  omega
set_option maxHeartbeats 4000000 in
theorem xj (a:ByteArray) (w:World) (r:List Nd × Int × Int) (hr:r=bT (bw bH (ap a)) (a.size:Int)):
  FnAt Tryz.prog 156 [.string a] w fun v H=> ∃ A cap,v=FO A cap r∧H= [.own A 157 11 r.1.length cap (r.1.flatMap bg)]:=by
 refine aA Tryz.func156 rfl Tryz.ntmps156 rfl ?_
 have hT:=fun w' =>zy a w'
 have htl:=nD bH (ap a)
 have hch:=xd (ap a)
 have hnum:=sA (ap a)
 have hsz:=zp (tk:=bH) (a:=a)
 obtain ⟨⟨toks,at0,e0⟩,hx⟩: ∃ x,bw bH (ap a)=x:=⟨_,rfl⟩
 rw [hx] at hr htl hch hnum hsz
 simp only [hx,FP] at hT
 dsimp only at htl hch hnum hsz
 refine aK 157 11 ?_
 refine aK 157 11 ?_
 by_cases he0:e0≠0
 ·
  have hr' :r=([],at0,e0):=by rw [hr];simp [bT,he0]
  subst hr'
  repeat' (first|(apply aS (f:=214);exact rfl;exact rfl;exact fun w' _=>hT w';rintro _ _ ⟨A,cap,rfl,rfl⟩)|refine sT ?_|refine sS ?_|refine sN ?_|refine sM fun _=> ?_|(refine sC ?_ ?_<;>intro hb<;>try omega)|fail)
  all_goals first
   |(exfalso;omega)
   |exact kS eIO rfl rfl rfl rfl (H' := [.own none 157 11 0 0 []]) mS ⟨none,0,rfl,rfl⟩
 have he0:e0=0:=Classical.not_not.1 he0
 subst he0
 replace hsz:=hsz rfl
 obtain ⟨r1,hr1,_⟩:=rM (a.size:Int) (20*toks.length+40) (.level 1) ⟨toks,[]⟩ ⟨by omega,by omega⟩ (by simp [Job.c])
 have hL:=(Ej (20*toks.length+40)).1 1 (by decide) (by decide)
 obtain ⟨ff,hff⟩: ∃ ff,20*toks.length+40=ff:=⟨_,rfl⟩
 rw [hff] at hr1 hL
 cases r1 with
 |error e=>
  have hr' :r=([],e.1,e.2):=by rw [hr];simp [bT,hff,hr1]
  subst hr'
  repeat' (first|(apply aS (f:=214);exact rfl;exact rfl;exact fun w' _=>hT w';rintro _ _ ⟨A,cap,rfl,rfl⟩)|(apply ak (f:=215);exact rfl;exact rfl;rename_i g;exact FnIn.msub (hL ⟨g,a,A,cap,toks,hsz,htl,hch⟩ 0 ⟨toks,[]⟩ none 0 _ _ w (Nat.zero_le _) rfl (Nat.le_refl 0) hr1) (MSub.pick pK (MSub.pick pK (MSub.pick pK (MSub.refl _))));rintro _ _ ⟨rfl,k1,B1,cb1,o1,j1,j2,j3,j4,rfl⟩;dsimp only at j2;obtain ⟨u,hd1⟩: ∃ u,hdT (a.size:Int) (toks.drop k1)=u:=⟨_,rfl⟩)|(apply aj;exact rfl;apply dz;exact rfl;exact rfl)|(apply aa (f:=217);exact rfl;exact rfl;exact fun w' hm=>Cx.next (x:=⟨_,a,A,cap,toks,hsz,htl,hch⟩) hd1 (B:=B1) (cb:=cb1) (out:=o1) (at_:=e.1) (e:=e.2) (MSub.pick pK (MSub.pick pK (MSub.pick pK (MSub.nil _)))) w' hm)|(apply ak (f:=216);exact rfl;exact rfl;exact FnIn.msub (fR _ a A toks.length cap k1 B1 o1.length cb1 e.1 e.2 _ _ _ _) (MSub.pick pK (.refl _));rw [if_neg j1,if_neg j1];rintro _ _ ⟨rfl,rfl⟩)|refine sT ?_|refine sS ?_|refine sQ ?_|refine sN ?_|refine sNQ ?_|refine sD ?_|refine sM fun _=> ?_|(refine sC ?_ ?_<;>intro hb<;>try omega)|(refine sCQ ?_ ?_<;>intro hb<;>try omega)|fail)
  all_goals first
   |(exfalso;omega)
   |exact absurd (by assumption) j1
   |exact kS eIO rfl rfl rfl rfl (H' := [.own none 157 11 0 0 []]) mS ⟨none,0,rfl,rfl⟩
 |ok y=>
  obtain ⟨n,p'⟩:=y
  have hwf:=zx _ _ _ _ _ _ hr1 (⟨hnum,fun _ h=>by cases h⟩:Wf ⟨toks,[]⟩)
  have hD:=fun (tv:Value) (w' :World) (h:Reads w' tv p'.out.length (p'.out.flatMap bg))=>sU p'.out hwf.2 tv w' h
  have hde:(lK p'.out).2=dB p'.out:=by
   unfold lK
   split
   ·
    rfl
   ·
    rename_i h;simp at h;simp [h]
  obtain ⟨dd,de,hdd⟩: ∃ a b,lK p'.out=(a,b):=⟨_,_,rfl⟩
  rw [hdd] at hD hde
  dsimp only at hD hde
  repeat' (first|(apply aS (f:=214);exact rfl;exact rfl;exact fun w' _=>hT w';rintro _ _ ⟨A,cap,rfl,rfl⟩)|(apply ak (f:=215);exact rfl;exact rfl;rename_i g;exact FnIn.msub (hL ⟨g,a,A,cap,toks,hsz,htl,hch⟩ 0 ⟨toks,[]⟩ none 0 _ _ w (Nat.zero_le _) rfl (Nat.le_refl 0) hr1) (MSub.pick pK (MSub.pick pK (MSub.pick pK (MSub.refl _))));rintro _ _ ⟨rfl,k1,B1,cb1,j1,j2,j3,j4,rfl⟩;dsimp only at j1 j2;obtain ⟨u,hd1⟩: ∃ u,hdT (a.size:Int) (toks.drop k1)=u:=⟨_,rfl⟩)|(apply aj;exact rfl;apply dz;exact rfl;exact rfl)|(apply aa (f:=217);exact rfl;exact rfl;exact fun w' hm=>Cx.next (x:=⟨_,a,A,cap,toks,hsz,htl,hch⟩) hd1 (B:=B1) (cb:=cb1) (out:=p'.out) (at_:=0) (e:=0) (MSub.pick pK (MSub.pick pK (MSub.pick pK (MSub.nil _)))) w' hm)|(apply ak (f:=216);exact rfl;exact rfl;exact FnIn.msub (fR _ a A toks.length cap k1 B1 p'.out.length cb1 0 0 _ _ _ _) (MSub.pick pK (.refl _));rintro _ _ ⟨rfl,rfl⟩)|(apply aa (f:=218);exact rfl;exact rfl;(intro w' hm';exact hD _ w' (Reads.of_own (A:=B1) hm' pK)))|refine sT ?_|refine sS ?_|refine sQ ?_|refine sN ?_|refine sNQ ?_|refine sD ?_|refine sM fun _=> ?_|(refine sC ?_ ?_<;>intro hb<;>try omega)|(refine sCQ ?_ ?_<;>intro hb<;>try omega)|fail)
  all_goals try (exfalso;omega)
  ·
   have hk1:k1<toks.length:=by
    have:(k1:Int)<(toks.length:Int):=by assumption
    omega
   have hu0:u.kind≠0:=fun h=>by
    have h2:=(hch.drop k1).kind (fin:=(a.size:Int))
    rw [hd1] at h2
    have:=congrArg List.length (h2.1 h)
    rw [Pp,Qh] at this
    omega
   have hr' :r=([],u.at_,4):=by rw [hr];simp [bT,hff,hr1,j2,hd1,hu0]
   subst hr'
   exact kS eIO rfl rfl rfl rfl (H' := [.own none 157 11 0 0 []]) mS ⟨none,0,rfl,rfl⟩
  all_goals
   have hk1:toks.length≤k1:=by
    have:(toks.length:Int)≤(k1:Int):=by assumption
    omega
   have hu0:u.kind=0:=by rw [← hd1,uf hk1];rfl
  ·
   have hr' :r=([],0,de):=by
    have hb' :de≠0:=by assumption
    rw [hr];rw [hde] at hb' ⊢;simp [bT,hff,hr1,j2,hd1,hu0,hb']
   subst hr'
   exact kS eIO rfl rfl rfl rfl (H' := [.own none 157 11 0 0 []]) mS ⟨none,0,rfl,rfl⟩
  ·
   have hr' :r=(p'.out,0,0):=by
    have hb' :dB p'.out=0:=hde ▸ Classical.not_not.1 (by assumption)
    rw [hr];simp [bT,hff,hr1,j2,hd1,hu0,hb']
   subst hr'
   exact kS eIO rfl rfl rfl rfl (H' := [.own B1 157 11 p'.out.length cb1 (p'.out.flatMap bg)]) mS ⟨B1,cb1,rfl,rfl⟩
end Go.SL
namespace Go.SL
open Go
def ofR (b:ByteArray):Mn × Int × Int:=
 if 256<b.size then (rl,0,5)
 else match (ap b).findIdx? (fun c=> !bL c) with
  |some i=>(rl,(i:Int),4)
  |none=>
   if (ap b).headD 0≠61 then (⟨false,wM b,[]⟩,0,0)
   else match bT (bw bH (ap (sub b 1 b.size))) ((sub b 1 b.size).size:Int) with
    |(t,at_,e)=>if e≠0 then (rl,IntKind.i64.wrap (at_+1),e) else (⟨true,bR,t⟩,0,0)
theorem zW {b:ByteArray} (h: ¬ 256<b.size) (hp:(ap b).findIdx? (fun c=> !bL c)=none):jF b=0:=by
 rw [Qg] at hp
 unfold jF
 rw [nN]
 have:(ap b).all bL=true:=by
  rw [Qo]
  intro c hc
  simpa using hp c hc
 simp [h,this]
theorem JR (b:ByteArray):ofP b=ofR b:=by
 unfold ofP ofR
 by_cases h1:256<b.size
 ·
  rw [if_pos h1,if_pos h1]
 rw [if_neg h1,if_neg h1]
 cases hf:(ap b).findIdx? (fun c=> !bL c) with
 |some i=>rfl
 |none=>
  dsimp only
  have hq:ap eqB= [61]:=rfl
  have hs:eqB.size=1:=rfl
  have h61:(ap b).take 1= [61]↔(ap b).headD 0=61:=by cases ap b<;>simp
  have hcut:kP b eqB=if (ap b).headD 0=61 then (sub b 1 b.size,true) else (b,false):=by
   unfold kP
   rw [hq,hs]
   by_cases h:(ap b).headD 0=61
   ·
    rw [if_pos (h61.2 h),if_pos h]
   ·
    rw [if_neg (fun h' =>h (h61.1 h')),if_neg h]
  rw [hcut]
  by_cases h2:(ap b).headD 0=61
  ·
   rw [if_pos h2,if_neg (by simp),if_neg (show ¬ ((ap b).headD 0≠61) from fun h=>h h2),DS]
  ·
   rw [if_neg h2,if_pos rfl,if_pos h2,Im (zW h1 hf)]
end Go.SL
namespace Go.SL
open Go Go.Proofs
attribute [local irreducible] W WL WQ WG WA WX WLI WR WT WC VOp RW thn blk bZ scp bA bV ck FnAt FnIn FnP ceP
theorem Eh {p:Int→Bool} {l:List Int} (h:aI p l=l.length): ∀ c∈l,p c=true:=by
 intro c hc
 have:c∈l.take (aI p l):=by rw [h,Qe];exact hc
 exact lS this
theorem Mi (l0:List Int): -9223372036854775808≤(gR l0).1:=by
 unfold gR
 extract_lets neg l n rest frac p5
 split
 ·
  show (-9223372036854775808:Int)≤0
  omega
 ·
  rename_i v _hc
  have h0:0≤bJ (l.take n++p5.take 4) 0:=by
   refine rR _ (fun c hc=> ?_) (QZ _)
   rcases Pz.1 hc with hc|hc
   ·
    have:=lS (p:=aJ) hc
    rw [eU] at this
    exact this.1
   ·
    have hc:=P2 hc
    rcases Pz.1 hc with hc|hc
    ·
     by_cases hf:frac=true
     ·
      rw [if_pos hf] at hc
      simp only [frac,Pm,decide_eq_true_eq] at hf
      have hl:rest.tail.length=rest.length - 1:=Su
      have:=Eh (p:=aJ) (l:=rest.tail) (by omega) c hc
      rw [eU] at this
      exact this.1
     ·
      rw [if_neg hf] at hc
      cases hc
    ·
     simp only [PF,RI,or_false,or_self] at hc
     omega
  have hv0:0≤v:=by
   show 0≤bJ (l.take n++p5.take 4) 0+(if 53≤p5.getD 4 0 then 1 else 0)
   split<;>omega
  split
  ·
   show (-9223372036854775808:Int)≤0
   omega
  ·
   rename_i hv
   simp only [cQ] at hv
   split
   ·
    show (-9223372036854775808:Int)≤ -v
    omega
   ·
    show (-9223372036854775808:Int)≤v
    omega
set_option maxHeartbeats 2000000 in
theorem BS (b:ByteArray) (hb:b.size≤1000000) (w:World):aF Tryz.prog 155 [.string b] w (.agg (dN (wM b)).toArray):=by
  refine aA Tryz.func155 rfl Tryz.ntmps155 rfl ?_
  by_cases h0:b=ay
  · subst h0
    repeat' (first|refine sT ?_|refine sS ?_|refine sT2 ?_|refine sM fun _=> ?_|(refine sC ?_ ?_<;>intro hb<;>try omega)|fail)
    all_goals first
      |((refine eRC ?_);rfl)
      |(exfalso;rename_i hb;exact hb rfl)
  have hpos:0<b.size:=by
    rcases QB b.size with h|h
    · exact absurd (ByteArray.ext (Sr h)) h0
    · exact h
  have hU:=fun w=>lf b hb w
  have hC:=fun w=>Ez b hb w
  have hD:=fun w=>Hr b hb w
  have hge:=Mi (ap b)
  have hM:=fun w=>Ev _ hge w
  have hF:=fun c w=>pO c w
  have hTr:=fun c w=>BK c w
  have hhd:(ap b).headD 0=bat b 0:=by have:=nY (a:=b) (i:=0);rwa [Qt] at this
  have hsub:sub b 1 b.size=mkB (ap b).tail:=by
    refine JY ?_
    rw [eF,List.drop_one,PM]
    rw [Su,au];exact Ph _
  unfold wM
  rw [if_neg h0,hhd]
  obtain ⟨u,hu⟩: ∃ u,upB b=u:=⟨_,rfl⟩
  obtain ⟨⟨cn,ce⟩,hce⟩: ∃ u,iN b=u:=⟨_,rfl⟩
  obtain ⟨⟨dn,de⟩,hde⟩: ∃ u,gR (ap b)=u:=⟨_,rfl⟩
  rw [hu] at hU ⊢
  rw [hce] at hC ⊢
  rw [hde] at hD hM hge ⊢
  dsimp only at hC hD hM hge ⊢
  by_cases h1:bat b 0=39
  · rw [if_pos h1]
    repeat' (first|(apply aj (d:=7);exact rfl;apply eB;exact rfl;exact rfl;exact h0)|(apply aj (d:=10);exact rfl;apply ba (j:=0);exact rfl;exact rfl;exact hpos)|(apply aj (d:=13);exact rfl;apply uF (lo:=1);exact rfl;exact rfl;omega)|refine sT ?_|refine sS ?_|refine sT2 ?_|refine sM fun _=> ?_|(refine sC ?_ ?_<;>intro hb<;>try omega)|fail)
    all_goals first
      |(exfalso;omega)
      |((refine eRC ?_);rw [hsub];rfl)
  rw [if_neg h1]
  by_cases h2:u=nB
  · rw [if_pos (.inl h2),decide_eq_true h2]
    repeat' (first|(apply aj (d:=7);exact rfl;apply eB;exact rfl;exact rfl;exact h0)|(apply aj (d:=10);exact rfl;apply ba (j:=0);exact rfl;exact rfl;exact hpos)|(apply aa;exact rfl;exact rfl;(intro w hm;exact hU w))|(apply aj (d:=17);exact rfl;apply ny;exact rfl;exact rfl;exact h2)|(apply aj (d:=25);exact rfl;apply ny;exact rfl;exact rfl;exact h2)|(apply aa (f:=209);exact rfl;exact rfl;(intro w' _;exact hTr true w'))|refine sT ?_|refine sS ?_|refine sT2 ?_|refine sM fun _=> ?_|(refine sC ?_ ?_<;>intro hb<;>try omega)|fail)
    all_goals first
      |(exfalso;omega)
      |((refine eRC ?_);rfl)
  by_cases h3:u=lH
  · rw [if_pos (.inr h3),decide_eq_false h2]
    repeat' (first|(apply aj (d:=7);exact rfl;apply eB;exact rfl;exact rfl;exact h0)|(apply aj (d:=10);exact rfl;apply ba (j:=0);exact rfl;exact rfl;exact hpos)|(apply aa;exact rfl;exact rfl;(intro w hm;exact hU w))|(apply aj (d:=17);exact rfl;apply eB;exact rfl;exact rfl;exact h2)|(apply aj (d:=21);exact rfl;apply ny;exact rfl;exact rfl;exact h3)|(apply aj (d:=25);exact rfl;apply eB;exact rfl;exact rfl;exact h2)|(apply aa (f:=209);exact rfl;exact rfl;(intro w' _;exact hTr false w'))|refine sT ?_|refine sS ?_|refine sT2 ?_|refine sM fun _=> ?_|(refine sC ?_ ?_<;>intro hb<;>try omega)|fail)
    all_goals first
      |(exfalso;omega)
      |((refine eRC ?_);rfl)
  rw [if_neg (by simp [h2,h3])]
  repeat' (first|(apply aj (d:=7);exact rfl;apply eB;exact rfl;exact rfl;exact h0)|(apply aj (d:=10);exact rfl;apply ba (j:=0);exact rfl;exact rfl;exact hpos)|(apply aa;exact rfl;exact rfl;(intro w hm;exact hU w))|(apply aj (d:=17);exact rfl;apply eB;exact rfl;exact rfl;exact h2)|(apply aj (d:=21);exact rfl;apply eB;exact rfl;exact rfl;exact h3)|(apply aa;exact rfl;exact rfl;(intro w hm;exact hC w))|(apply aa;exact rfl;exact rfl;(intro w hm;exact hD w))|(apply aa;exact rfl;exact rfl;(intro w hm;exact hM w))|(apply aa (f:=211);exact rfl;exact rfl;(intro w' _;exact hF _ w'))|refine sT ?_|refine sS ?_|refine sT2 ?_|refine sM fun _=> ?_|(refine sC ?_ ?_<;>intro hb<;>try omega)|fail)
  all_goals first
    |(exfalso;omega)
    | ((refine eRC ?_)
       (repeat (first|rw [if_pos (by first|assumption|omega)]|rw [if_neg (by first|assumption|omega)]))
       rfl)
set_option maxHeartbeats 2000000 in
theorem BN (b:ByteArray) (w:World):FnAt Tryz.prog 114 [.string b] w fun v H=> ∃ A cap,v=ofV A cap (ofP b)∧H= [.own A 157 11 (ofP b).1.tree.length cap ((ofP b).1.tree.flatMap bg)]:=by
 refine aA Tryz.func114 rfl Tryz.ntmps114 rfl ?_
 refine aK 157 11 ?_
 rw [JR]
 unfold ofR
 by_cases hlen:256<b.size
 ·
  rw [if_pos hlen]
  repeat' (first|refine sT ?_|refine sS ?_|refine sT2 ?_|refine sM fun _=> ?_|(refine sC ?_ ?_<;>intro hb<;>try omega)|fail)
  all_goals first
   |(exfalso;omega)
   |exact fZ eIO rfl rfl pK rfl rfl rfl (H' := [.own none 157 11 0 0 []]) mS ⟨none,0,rfl,rfl⟩
 rw [if_neg hlen]
 repeat' (first|refine sT ?_|refine sS ?_|refine sT2 ?_|refine sM fun _=> ?_|(refine sC ?_ ?_<;>intro hb<;>try omega)|fail)
 all_goals try (exfalso;omega)
 rename_i g2
 refine ax [0,2] rfl (fun i:Nat=> [(5,.int .i64 (i:Int))]) (fun _=> [.box g2 204 [.bool false,.int .u8 0,.int .i64 0,.string ay,.slice none 0 0],.own none 157 11 0 0 []]) (fun i=>i≤b.size∧ ∀ j,j<i→bL (bat b j)=true) (fun i=>b.size - i) 0 ⟨by omega,fun j h=>by omega⟩ sB mS ?_
 rintro i ⟨hi,hpl⟩
 by_cases hlt:i<b.size
 ·
  by_cases hc:bL (bat b i)=true
  ·
   have hc' :=hc
   simp only [bL,Pm,decide_eq_true_eq] at hc'
   repeat' (first|(apply aj (d:=21);exact rfl;apply ba (j:=i);exact rfl;exact rfl;omega)|(apply aj (d:=26);exact rfl;apply ba (j:=i);exact rfl;exact rfl;omega)|refine sT ?_|refine sS ?_|refine sT2 ?_|refine sN ?_|refine sM fun _=> ?_|(refine sC ?_ ?_<;>intro hb<;>try omega)|fail)
   all_goals try (exfalso;omega)
   refine ⟨i+1,?_,(by first|omega|(dsimp only;omega)),sB,sB,mS⟩
   refine ⟨hlt,fun j hj=> ?_⟩
   rcases (by omega:j<i∨j=i) with h|rfl
   ·
    exact hpl j h
   ·
    exact hc
  ·
   have hc' :=hc
   simp only [bL,Pm,decide_eq_true_eq] at hc'
   have hf:(ap b).findIdx? (fun c=> !bL c)=some i:=n8 hlt (by simp [hc]) fun j hj=>by rw [hpl j hj];rfl
   rw [hf]
   repeat' (first|(apply aj (d:=21);exact rfl;apply ba (j:=i);exact rfl;exact rfl;omega)|(apply aj (d:=26);exact rfl;apply ba (j:=i);exact rfl;exact rfl;omega)|refine sT ?_|refine sS ?_|refine sT2 ?_|refine sN ?_|refine sM fun _=> ?_|(refine sC ?_ ?_<;>intro hb<;>try omega)|fail)
   all_goals first
    |(exfalso;omega)
    |exact fZ eIO rfl rfl pK rfl rfl rfl (H' := [.own none 157 11 0 0 []]) mS ⟨none,0,rfl,rfl⟩
 ·
  have e:i=b.size:=by omega
  subst e
  have hf:(ap b).findIdx? (fun c=> !bL c)=none:=mM fun j hj=>by rw [hpl j hj];rfl
  rw [hf]
  dsimp only
  have hhd:(ap b).headD 0=bat b 0:=by have:=nY (a:=b) (i:=0);rwa [Qt] at this
  rw [hhd]
  have hC:=fun w=>BS b (by omega) w
  by_cases h61:bat b 0≠61
  ·
   rw [if_pos h61]
   by_cases h0:b=ay
   ·
    repeat' (first|(apply aj (d:=32);exact rfl;apply ny;exact rfl;exact rfl;exact h0)|(apply aa;exact rfl;exact rfl;(intro w hm;exact hC w))|refine sT ?_|refine sS ?_|refine sT2 ?_|refine sN ?_|refine sM fun _=> ?_|(refine sC ?_ ?_<;>intro hb<;>try omega)|fail)
    all_goals first
     |(exfalso;omega)
     |exact fZ eIO rfl rfl pK rfl rfl rfl (H' := [.own none 157 11 0 0 []]) mS ⟨none,0,rfl,rfl⟩
   ·
    have hpos:0<b.size:=by
     rcases QB b.size with h|h
     ·
      exact absurd (ByteArray.ext (Sr h)) h0
     ·
      exact h
    repeat' (first|(apply aj (d:=32);exact rfl;apply eB;exact rfl;exact rfl;exact h0)|(apply aj (d:=35);exact rfl;apply ba (j:=0);exact rfl;exact rfl;exact hpos)|(apply aa;exact rfl;exact rfl;(intro w hm;exact hC w))|refine sT ?_|refine sS ?_|refine sT2 ?_|refine sN ?_|refine sM fun _=> ?_|(refine sC ?_ ?_<;>intro hb<;>try omega)|fail)
    all_goals first
     |(exfalso;omega)
     |exact fZ eIO rfl rfl pK rfl rfl rfl (H' := [.own none 157 11 0 0 []]) mS ⟨none,0,rfl,rfl⟩
  ·
   rw [if_neg h61]
   have h61:bat b 0=61:=Classical.not_not.1 h61
   have hpos:0<b.size:=by
    rcases QB b.size with h|h
    ·
     rw [jq (by omega)] at h61;cases h61
    ·
     exact h
   have h0:b≠ay:=by
    rintro rfl
    exact absurd hpos (by decide)
   have hF:=fun (w' :World)=>xj (sub b 1 b.size) w' _ rfl
   obtain ⟨⟨t,at0,e0⟩,hr⟩: ∃ x,bT (bw bH (ap (sub b 1 b.size))) ((sub b 1 b.size).size:Int)=x:=⟨_,rfl⟩
   simp only [hr,FO] at hF
   rw [hr]
   dsimp only
   by_cases he:e0≠0
   ·
    rw [if_pos he]
    repeat' (first|(apply aj (d:=32);exact rfl;apply eB;exact rfl;exact rfl;exact h0)|(apply aj (d:=35);exact rfl;apply ba (j:=0);exact rfl;exact rfl;exact hpos)|(apply aj (d:=43);exact rfl;apply uF (lo:=1);exact rfl;exact rfl;omega)|(apply aS (f:=156);exact rfl;exact rfl;(intro w' hm';exact hF w');rintro _ _ ⟨A,cap,rfl,rfl⟩)|(apply aj;exact rfl;apply uN;exact rfl;exact rfl)|refine sT ?_|refine sS ?_|refine sT2 ?_|refine sN ?_|refine sM fun _=> ?_|(refine sC ?_ ?_<;>intro hb<;>try omega)|fail)
    all_goals first
     |(exfalso;omega)
     |exact fZ eIO rfl rfl pK rfl rfl rfl (H' := [.own none 157 11 0 0 []]) mS ⟨none,0,rfl,rfl⟩
   ·
    rw [if_neg he]
    repeat' (first|(apply aj (d:=32);exact rfl;apply eB;exact rfl;exact rfl;exact h0)|(apply aj (d:=35);exact rfl;apply ba (j:=0);exact rfl;exact rfl;exact hpos)|(apply aj (d:=43);exact rfl;apply uF (lo:=1);exact rfl;exact rfl;omega)|(apply aS (f:=156);exact rfl;exact rfl;(intro w' hm';exact hF w');rintro _ _ ⟨A,cap,rfl,rfl⟩)|(apply aj;exact rfl;apply uN;exact rfl;exact rfl)|refine sT ?_|refine sS ?_|refine sT2 ?_|refine sN ?_|refine sM fun _=> ?_|(refine sC ?_ ?_<;>intro hb<;>try omega)|fail)
    all_goals first
     |(exfalso;omega)
     |exact fZ eIO rfl rfl pK rfl rfl rfl (H' := [.own A 157 11 t.length cap (t.flatMap bg)]) mS ⟨A,cap,rfl,rfl⟩
set_option maxHeartbeats 2000000 in
theorem BQ (L:List Et) (tv:Value) (w:World) (ht:Reads w tv L.length (L.flatMap pu)) (i:Nat) (hlt:i<L.length):
  aF Tryz.prog 148 [tv,.int .i64 (i:Int)] w (.int .i64 (jV (jC L i) L[i])):=by
 obtain ⟨Al,cl,rfl,hl1,hl2,hl3⟩:=ht
 refine aA Tryz.func148 rfl Tryz.ntmps148 rfl ?_
 obtain ⟨gl,ol,rfl,hrl⟩:=hl3 (by omega)
 have he:=hrl.elem j5 i hlt
 have hprev: ∀ h:0<i,Ro w gl (ol+(i - 1)*3) (pu L[i - 1]):=fun h=>hrl.elem j5 (i - 1) (by omega)
 have hbef: ∀ h:0<i,jC L i=some L[i - 1].at_:=fun h=>by unfold jC;rw [if_neg (by omega),O5 (by omega)];rfl
 have hbef0:i=0→jC L i=none:=fun h=>by unfold jC;rw [if_pos h]
 generalize L[i]=e at he ⊢
 obtain ⟨fo,hfo⟩: ∃ fo,jV (jC L i) e=fo:=⟨_,rfl⟩
 rw [hfo]
 have hV: ∀ w',aF Tryz.prog 113 [.agg (aw e.at_).toArray] w' (.bool e.at_.valid):=fun w' =>jw e.at_.col e.at_.row w'
 have hO:=fun (w' :World)=>BN e.input w'
 have hofV: ∀ (A:Option Nat) (cap:Nat),ofV A cap (ofP e.input)= .tuple #[.agg (z7 (ofP e.input).1 (sl A (ofP e.input).1.tree.length cap)).toArray,.int .i64 (ofP e.input).2.1,.int .i64 (ofP e.input).2.2]:=fun _ _=>rfl
 simp only [hofV] at hO
 unfold jV at hfo
 generalize ofP e.input=o at hO hfo
 obtain ⟨⟨f1,f2,f3⟩,oa,oe⟩:=o
 simp only [z7] at hO
 generalize e.at_.valid=vd at hV hfo
 have hle: ∀ (w' :World),True:=fun _=>trivial
 by_cases h0:0<i
 ·
  have hp:=hprev h0
  rw [hbef h0] at hfo
  generalize L[i - 1]=b at hp hfo
  have hL:=fun w' =>vk b.at_ e.at_ w'
  replace hfo:(if vd=false then (3:Int) else if bp b.at_ e.at_=false then 12 else if e.input=ay then 2 else oe)=fo:=hfo
  generalize bp b.at_ e.at_=ls at hL hfo
  repeat' (first|(apply aj (d:=10);exact rfl;apply ag;exact rfl;exact rfl;exact hlt)|(apply aj (d:=12);exact rfl;apply cI (off:=0) (ys:=aw e.at_) he;(iterate 3 exact rfl))|(apply aP (d:=20);exact rfl;apply dX;exact rfl;exact rfl;exact h0;(simp only [maxLen] at*;omega))|(apply aP (d:=21);exact rfl;apply ag (j:=i - 1);exact rfl;exact rfl;omega)|(apply aP (d:=23);exact rfl;apply cI (off:=0) (ys:=aw b.at_) hp;(iterate 3 exact rfl))|(apply aP (d:=26);exact rfl;apply ag (j:=i);exact rfl;exact rfl;exact hlt)|(apply aP (d:=28);exact rfl;apply cI (off:=0) (ys:=aw e.at_) he;(iterate 3 exact rfl))|(apply aj (d:=34);exact rfl;apply ag;exact rfl;exact rfl;exact hlt)|(apply aj (d:=36);exact rfl;apply dG (off:=2);exact rfl;exact he;exact rfl)|(apply aj (d:=41);exact rfl;apply ag;exact rfl;exact rfl;exact hlt)|(apply aj (d:=43);exact rfl;apply dG (off:=2);exact rfl;exact he;exact rfl)|(apply aa;exact rfl;exact rfl;(intro w hm;exact hV w))|(apply bz;exact rfl;exact rfl;(intro w hm;exact hL w))|(apply aS (f:=114);exact rfl;exact rfl;(intro w' hm;exact hO w');rintro _ _ ⟨A,cap,rfl,rfl⟩)|refine sT ?_|refine sS ?_|refine sQ ?_|refine sN ?_|refine sNQ ?_|refine sD ?_|refine sM fun _=> ?_|(refine sC ?_ ?_<;>intro hb<;>try omega)|(refine sCQ ?_ ?_<;>intro hb<;>try omega)|fail)
  all_goals (refine bK eIO rfl rfl (.nil _) ?_;simp_all [ay];done)
 ·
  rw [hbef0 (by omega)] at hfo
  repeat' (first|(apply aj (d:=10);exact rfl;apply ag;exact rfl;exact rfl;exact hlt)|(apply aj (d:=12);exact rfl;apply cI (off:=0) (ys:=aw e.at_) he;(iterate 3 exact rfl))|(apply aj (d:=34);exact rfl;apply ag;exact rfl;exact rfl;exact hlt)|(apply aj (d:=36);exact rfl;apply dG (off:=2);exact rfl;exact he;exact rfl)|(apply aj (d:=41);exact rfl;apply ag;exact rfl;exact rfl;exact hlt)|(apply aj (d:=43);exact rfl;apply dG (off:=2);exact rfl;exact he;exact rfl)|(apply aa;exact rfl;exact rfl;(intro w hm;exact hV w))|(apply aS (f:=114);exact rfl;exact rfl;(intro w' hm;exact hO w');rintro _ _ ⟨A,cap,rfl,rfl⟩)|refine sT ?_|refine sS ?_|refine sQ ?_|refine sN ?_|refine sNQ ?_|refine sD ?_|refine sM fun _=> ?_|(refine sC ?_ ?_<;>intro hb<;>try omega)|(refine sCQ ?_ ?_<;>intro hb<;>try omega)|fail)
  all_goals first
   |(exfalso;omega)
   |(refine bK eIO rfl rfl (.nil _) ?_;simp_all [ay];done)
theorem xk (L:List Et) (tv:Value) (w:World) (ht:Reads w tv L.length (L.flatMap pu)) (hlen:L.length≤1000000):
    aF Tryz.prog 109 [tv] w (.tuple #[.int .i64 (gJ L).1,.int .i64 (gJ L).2]):=by
  have hF:=fun (w' :World) (H' :List Blk) (hm:Mem w w' H') (i:Nat) (hi:i<L.length)=>BQ L tv w' (ht.of_w0 hm) i hi
  obtain ⟨Al,cl,rfl,hl1,hl2,hl3⟩:=ht
  refine aA Tryz.func109 rfl Tryz.ntmps109 rfl ?_
  repeat' (first|refine sT ?_|refine sS ?_|refine sM fun _=> ?_|(refine sC ?_ ?_<;>intro hb<;>try omega)|fail)
  refine ax [0] rfl (fun i:Nat=> [(4,.int .i64 (i:Int))]) (fun _=> []) (fun i=>i≤L.length∧gJ L=eX i (jC L i) (L.drop i)) (fun i=>L.length - i) 0 ⟨by omega,rfl⟩ sB (.refl _) ?_
  rintro i ⟨hi,hck⟩
  by_cases hlt:i<L.length
  · have hF:=fun w' H' hm=>hF w' H' hm i hlt
    have hnext:jC L (i+1)=some L[i].at_:=by unfold jC;rw [if_neg (by omega),Sd,O5 hlt];rfl
    rw [Pf hlt,eX,← hnext] at hck
    generalize jV (jC L i) L[i]=e at hF hck
    repeat' (first|(apply aa (f:=148);exact rfl;exact rfl;(intro w' hm;exact hF w' _ hm))|refine sT ?_|refine sS ?_|refine sN ?_|refine sM fun _=> ?_|(refine sC ?_ ?_<;>intro hb<;>try omega)|fail)
    all_goals first
      |(exfalso;omega)
      |(refine cN eIO rfl rfl rfl (.nil _) ?_;rw [hck,if_pos (by assumption)];done)
      | (rw [if_neg (by assumption)] at hck
         refine ⟨i+1,⟨hlt,hck⟩,by omega,?_,?_,.nil _⟩
         · exact sB
         · exact sB)
  · have e2:i=L.length:=by omega
    subst e2
    rw [PT,eX] at hck
    repeat' (first|refine sT ?_|refine sS ?_|refine sM fun _=> ?_|(refine sC ?_ ?_<;>intro hb<;>try omega)|fail)
    all_goals first
      |(exfalso;omega)
      |(refine cN eIO rfl rfl rfl (.nil _) ?_;rw [hck])
end Go.SL
namespace Go.SL
open Go Go.Proofs
attribute [local irreducible] W WL WQ WG WA VOp thn blk bZ bA FnAt FnIn MD
theorem vq (r:Rct):bh r=true↔1≤r.c1∧r.c1≤1024∧1≤r.r1∧r.r1≤1024∧1≤r.c2∧r.c2≤1024∧1≤r.r2∧r.r2≤1024∧r.c1≤r.c2∧r.r1≤r.r2:=by
 simp only [bh,valid,Pm,decide_eq_true_eq]
 omega
theorem G0 (r:Rct) (u:Us):ku r u=true↔bh u.rect=true∧bh r=true∧u.rect.c1≤r.c2∧r.c1≤u.rect.c2∧u.rect.r1≤r.r2∧r.r1≤u.rect.r2:=by
 have h:ku r u= [u.rect,r,mZ u.rect r].all bh:=by
  unfold ku nU
  cases [u.rect,r,mZ u.rect r].all bh<;>simp
 rw [h]
 simp only [QN,List.all_nil,Qq,Pm,vq]
 generalize u.rect=a
 unfold mZ
 dsimp only
 repeat' split
 all_goals omega
theorem qb (L:List Nd): ∀ (r:List Nd) (i:Nat) (st:List Pt) (vs:List mh),(eQ L r i st vs).1=0→ ∀ n∈r,bF n=0
 | [],_,_,_=>fun _ _ h=>by cases h
 |n::r,i,st,vs=>by
  intro h
  rw [eQ] at h
  have hn:bF n=0:=by
   by_cases hf:bF n=0
   ·
    exact hf
   ·
    unfold js at h
    rw [if_pos hf] at h
    exact h
  cases hs:js L n i st with
  |inl e=>
   rw [hs] at h
   dsimp only at h
   unfold js at hs
   rw [if_neg (by omega)] at hs
   split at hs
   ·
    injection hs with hs;omega
   ·
    split at hs
    ·
     injection hs with hs;omega
    ·
     cases hs
  |inr y=>
   obtain ⟨st',kids,d⟩:=y
   rw [hs] at h
   intro m hm
   rcases PF.1 hm with rfl|hm
   ·
    exact hn
   ·
    exact qb L r _ _ _ h m hm
theorem Ae {L:List Nd} (h:dB L=0): ∀ n∈L,bF n=0:=by
 refine qb L L 0 [] [] ?_
 unfold dB jH at h
 split at h
 ·
  cases h
 split at h
 ·
  cases h
 split at h
 ·
  rename_i h3
  exact absurd h h3
 ·
  rename_i h3
  omega
theorem CV {n:Nd} (h:bF n=0) (hr:fQ n=true):bh n.rect=true:=by
 unfold bF at h
 split at h
 ·
  cases h
 rename_i hk
 have hk1:eL n=true:=by
  cases hh:eL n
  ·
   exact absurd (Or.inl hh) hk
  ·
   rfl
 simp only [fQ,QU,decide_eq_true_eq] at hr
 unfold eL at hk1
 rw [if_neg (by omega),if_pos hr] at hk1
 simp only [Pm,decide_eq_true_eq] at hk1
 have h1:=hk1.1
 unfold iL at h1
 cases hq:bh n.rect
 ·
  rw [hq] at h1;cases h1
 ·
  rfl
theorem BV {r:Rct}:iL r≠0↔bh r=false:=by unfold iL;cases bh r<;>simp
theorem sq {α:Type} {f g:α→Bool}: ∀ {L:List α},(∀ x∈L,f x=g x)→L.any f=L.any g
 | [],_=>rfl
 |x::r,h=>by rw [List.any_cons,List.any_cons,h x O7,sq fun y hy=>h y (O9 _ hy)]
end Go.SL
namespace Go.SL
open Go
theorem lC: ∀ (L:List Nd) (i:Nat),∀ u∈dI L i,∃ n∈L,fQ n=true∧u.rect=n.rect
 | [],_,u,h=>by cases h
 |n::r,i,u,h=>by
  rw [dI] at h
  cases hr:fQ n with
  |false=>
   rw [hr,cond_false] at h
   obtain ⟨m,hm,h1,h2⟩:=lC r (i+1) u h
   exact ⟨m,O9 _ hm,h1,h2⟩
  |true=>
   rw [hr,cond_true] at h
   rcases PF.1 h with rfl|h
   ·
    refine ⟨n,O7,hr,?_⟩
    unfold nA
    cases r with
    |nil=>rfl
    |cons m q=>dsimp only;split<;>rfl
   ·
    obtain ⟨m,hm,h1,h2⟩:=lC r (i+1) u h
    exact ⟨m,O9 _ hm,h1,h2⟩
theorem GR {L:List Nd} (h:dB L=0): ∀ u∈dY L,bh u.rect=true:=fun u hu=>by
 obtain ⟨n,hn,h1,h2⟩:=lC L 0 u hu
 rw [h2]
 exact CV (Ae h n hn) h1
structure EntOk (e:Rf × List Nd × List Us):Prop where
 at_:e.1.valid=true
 tree:dB e.2.1=0
 uses:e.2.2=dY e.2.1
 len:e.2.1.length≤256
theorem EntOk.rect {e:Rf × List Nd × List Us} (h:EntOk e): ∀ u∈e.2.2,bh u.rect=true:=by
 rw [h.uses];exact GR h.tree
structure GrOk (G:Gr):Prop where
 sort:SortG G
 ent: ∀ e∈G,EntOk e
theorem wm:GrOk []:=⟨xU,fun _ h=>by cases h⟩
theorem GrOk.set {G:Gr} (h:GrOk G) (a:Rf) (b:ByteArray):GrOk (fX G a b).1:=by
 refine ⟨Ha h.sort a b,?_⟩
 unfold fX
 split
 ·
  exact h.ent
 ·
  rename_i hv
  split
  ·
   exact h.ent
  ·
   rename_i he
   split
   ·
    exact fun e he=>h.ent e (vV.1 he).1
   ·
    rename_i hf
    intro e hm
    rcases vU.1 hm with rfl|⟨hm,_⟩
    ·
     exact ⟨by simpa using hv,vM (by simpa using he) (by simpa using hf),rfl,zI b⟩
    ·
     exact h.ent e hm
theorem uZ (G:Gr) (a:Rf) (b:ByteArray):(fX G a b).1.length≤G.length+1:=by
 unfold fX
 split
 ·
  exact RL _
 ·
  split
  ·
   exact RL _
  ·
   split
   ·
    exact PK (QE _ _) (RL _)
   ·
    simp only [tO,O2,Pe]
    have:(G.filter fun e=>bp e.1 a).length+(G.filter fun e=>bp a e.1).length≤G.length:=by
     induction G with
     |nil=>simp
     |cons e r ih=>
      simp only [RA,Pe]
      cases h1:bp e.1 a
      ·
       cases h2:bp a e.1<;>simp<;>omega
      ·
       rw [lm h1];simp;omega
    omega
theorem GJ {c r:Int}:valid c r=true↔1≤c∧c≤1024∧1≤r∧r≤1024:=by
 simp only [valid,Pm,decide_eq_true_eq]
 omega
theorem vp {c r:Int}:bh (bB c r)=valid c r:=by
 rw [PN,vq,GJ]
 simp only [bB]
 omega
theorem rV {u:Us} {a:Rf} (hu:bh u.rect=true) (ha:a.valid=true):gQ u.rect a=ku (bB a.col a.row) u:=by
 rw [PN,G0,vp]
 have hv:valid a.col a.row=true:=ha
 simp only [gQ,Pm,decide_eq_true_eq,bB,hu,hv,true_and]
 omega
theorem zU {us:List Us} {a:Rf} (hu: ∀ u∈us,bh u.rect=true) (ha:a.valid=true):ia us a=aG us (bB a.col a.row):=by
 unfold ia aG
 exact sq fun u h=>rV (hu u h) ha
theorem HP {G:Gr} (h:SortG G) {e:Rf × List Nd × List Us} (he:e∈G):kI G e.1=some e.2:=(mO h).2 he
theorem fK {G:Gr} (h:SortG G) {e:Rf × List Nd × List Us} (he:e∈G):aD G e.1=e.2.2:=by rw [aD,HP h he];rfl
theorem iY {G:Gr} {c:Rf}:c∈aq G↔ ∃ e∈G,e.1=c:=by simp [aq]
theorem oG {G:Gr} (h:SortG G) {r:Rct} (hr:bh r=true) {c:Rf} (hc:c∈aq G):c∈cj G r↔aG (aD G c) r=true:=by
 obtain ⟨e,he,rfl⟩:=iY.1 hc
 rw [cj,if_neg (by rw [BV,hr];simp),fK h he]
 simp only [Py,QL]
 constructor
 ·
  rintro ⟨f,⟨hf,h1⟩,h2⟩
  have:=mT (fun e:Rf × List Nd × List Us=>e.1) h.nodup hf he h2
  rw [← this];exact h1
 ·
  intro h1
  exact ⟨e,⟨he,h1⟩,rfl⟩
theorem mC {G:Gr} {r:Rct}: ∀ c∈cj G r,c∈aq G:=by
 intro c hc
 unfold cj at hc
 split at hc
 ·
  cases hc
 ·
  simp only [Py,QL] at hc
  obtain ⟨e,⟨he,_⟩,h⟩:=hc
  exact iY.2 ⟨e,he,h⟩
theorem xQ {G:Gr} {r:Rct}:(cj G r).length≤G.length:=by
 unfold cj
 split
 ·
  exact Pb _
 ·
  rw [Ps];exact QE _ _
theorem GOk.all {R:List Blk} {E:List En} {clock:Nat} {G:Gr} (h:GOk R E clock G):wT E=G.flatMap fun e=>e.2.2.map fun u=>(e.1,u):=by
 rw [wT,h.forms,aq,List.flatMap_map]
 have: ∀ L:Gr,(∀ e∈L,e∈G)→L.flatMap (fun e=>jf E e.1)=L.flatMap fun e=>e.2.2.map fun u=>(e.1,u):=by
  intro L
  induction L with
  |nil=>intro _;rfl
  |cons e r ih=>
   intro hL
   rw [Pd,Pd,ih fun f hf=>hL f (O9 _ hf),jf,h.uses,fK h.sort (hL e O7)]
 exact this G fun _ h=>h
theorem yt (r:Rct) (a:Rf): ∀ (us:List Us) (out:List Rf),out.getLast? =some a→(us.map fun u=>(a,u)).foldl (bO r) out=out
 | [],_,_=>rfl
 |u::q,out,h=>by
  rw [PB,Qc]
  have:bO r out (a,u)=out:=by
   rw [mD,h]
   simp
  rw [this]
  exact yt r a q out h
theorem CM (r:Rct) (a:Rf): ∀ (us:List Us) (out:List Rf),out.getLast? ≠some a→(us.map fun u=>(a,u)).foldl (bO r) out=if aG us r then out++ [a] else out
 | [],out,_=>rfl
 |u::q,out,h=>by
  rw [PB,Qc,aG,List.any_cons]
  have hs:bO r out (a,u)=if ku r u then out++ [a] else out:=by
   rw [mD]
   cases ho:out.getLast? with
   |none=>simp
   |some b=>
    have:b≠a:=by rintro rfl;exact h ho
    simp [this]
  rw [hs]
  cases ht:ku r u with
  |true=>
   simp only [if_true,SG]
   exact yt r a q _ (by simp)
  |false=>
   simp only [PH,if_false,Bool.false_or]
   exact CM r a q out h
theorem pX (r:Rct): ∀ (L:Gr) (out:List Rf),SortG L→(∀ e∈L,out.getLast? ≠some e.1)→(L.flatMap fun e=>e.2.2.map fun u=>(e.1,u)).foldl (bO r) out=out++(L.filter fun e=>aG e.2.2 r).map fun e=>e.1
 | [],out,_,_=>by simp
 |e::q,out,hs,hl=>by
  obtain ⟨h1,h2⟩:=Qn.1 hs
  rw [Pd,RN,CM r e.1 e.2.2 out (hl e O7),RA]
  cases ht:aG e.2.2 r with
  |true=>
   rw [if_pos rfl,if_pos rfl,pX r q _ h2,PB,Pg,SN]
   intro f hf
   rw [List.getLast?_append,List.getLast?_singleton,Option.some_or]
   intro he
   exact iz (h1 f hf) (Option.some.inj he)
  |false=>
   rw [if_neg (by simp),if_neg (by simp),pX r q _ h2]
   exact fun f hf=>hl f (O9 _ hf)
theorem GOk.users {R:List Blk} {E:List En} {clock:Nat} {G:Gr} (h:GOk R E clock G) (r:Rct):rE E r=cj G r:=by
 unfold rE cj
 split
 ·
  rfl
 ·
  rw [h.all,pX r G [] h.sort (fun _ _=>by simp),O4]
theorem GOk.edges {R:List Blk} {E:List En} {clock:Nat} {G:Gr} (h:GOk R E clock G):si E=dS G:=by
 unfold si iA dS
 rw [h.forms]
 have hrow: ∀ a,lG (fun a b=>ia (aY E a).uses b) (aq G) a=(G.filter fun f=>ia (aD G a) f.1).map fun f=>(a,f.1):=by
  intro a
  rw [lG,aq,SC,QQ,h.uses]
  rfl
 have: ∀ L:Gr,(∀ e∈L,e∈G)→(aq L).flatMap (lG (fun a b=>ia (aY E a).uses b) (aq G))=L.flatMap fun e=>(G.filter fun f=>ia e.2.2 f.1).map fun f=>(e.1,f.1):=by
  intro L
  induction L with
  |nil=>intro _;rfl
  |cons e r ih=>
   intro hL
   have hk:aq (e::r)=e.1::aq r:=rfl
   rw [hk,Pd,Pd,hrow,fK h.sort (hL e O7),ih fun f hf=>hL f (O9 _ hf)]
 exact this G fun _ h=>h
theorem GOk.allLen {R:List Blk} {E:List En} {clock:Nat} {G:Gr} (h:GOk R E clock G) (hG:GrOk G):(wT E).length≤256*G.length:=by
 rw [h.all]
 have: ∀ L:Gr,(∀ e∈L,EntOk e)→(L.flatMap fun e=>e.2.2.map fun u=>(e.1,u)).length≤256*L.length:=by
  intro L
  induction L with
  |nil=>intro _;simp
  |cons e r ih=>
   intro hL
   have h1:=ih fun f hf=>hL f (O9 _ hf)
   have h2:=hL e O7
   have h3:e.2.2.length≤256:=by
    rw [h2.uses]
    exact PK (fL _ _) h2.len
   rw [Pd,O2,Ps,Pe]
   omega
 exact this G hG.ent
end Go.SL

/-
  Lemmas and walks, put together: B2 C5 B3 Q1 C6 B4 D1 Lc.
-/
import Derived.Test.YtoanpdoacdpgeaaGreatDoorKp12
set_option linter.unusedSimpArgs false
set_option linter.unusedVariables false
set_option maxRecDepth 20000
namespace Go.SL
open Go Go.Proofs
attribute [local irreducible] W WL WQ WG WA WX WLI WR WT VOp thn blk bF scp aR bJ aL FnIn
def Dp:Option (Tk × Nat)→Value
 |some (t,n)=> .tuple #[.agg (ba t).toArray,.int .i64 (n:Int)]
 |none=> .tuple #[.agg (ba cV).toArray,.int .i64 0]
def atT (i:Nat) (o:Option (Tk × Nat)):Option (Tk × Nat):=o.map fun x=>({ x.1 with at_:=(i:Int) },x.2)
def fp (l:List Int):Option (Tk × Nat):=
 let w:=aD aF l
 let p:=bV (l.drop w)
 let n:=if p=0 then w else w+1+p
 if w=0∨4<p then none
 else if (fY (l.take n)).2≠0 then none else some (⟨1,(fY (l.take n)).1,av,aM,0⟩,n)
theorem mI {c:Int} {r:List Int} (h:c=46):bV (c::r)=aD aF r:=by subst h;rfl
theorem lH {c:Int} {r:List Int} (h:c≠46):bV (c::r)=0:=by
 unfold bV
 split
 ·
  rename_i heq;injection heq with h1 h2;exact absurd h1 h
 ·
  rfl
set_option maxHeartbeats 1000000 in
theorem Hs (a:ByteArray) (ha:a.size≤100000) (i:Nat) (hi:i≤a.size) (g:Nat) (w:World) (hr:Ro w g 0 [.string a]):
  ay Tryz.prog 221 [.pointer (some ⟨g,0,none⟩),.int .i64 (i:Int)] w (Dp (atT i (fp ((ap a).drop i)))):=by
 refine aq Tryz.func221 rfl Tryz.ntmps221 rfl ?_
 have hl:=au a
 have hL1:=qV a (by omega) i hi 261 aF jY
 have hwl:=bU aF ((ap a).drop i)
 rw [Qz] at hwl
 generalize hw:aD aF ((ap a).drop i)=n at hL1 hwl
 generalize hpd:bV ((ap a).drop (i+n))=p
 have hN:fp ((ap a).drop i)=if n=0∨4<p then none else if (fY (((ap a).drop i).take (if p=0 then n else n+1+p))).2≠0 then none else some (⟨1,(fY (((ap a).drop i).take (if p=0 then n else n+1+p))).1,av,aM,0⟩,if p=0 then n else n+1+p):=by
  simp only [fp,hw,RN,hpd]
 rw [hN]
 have hL2:=fun h=>qV a (by omega) (i+n+1) h 261 aF jY
 have hcut: ∀ m,ap (sub a i (i+m))=((ap a).drop i).take m:=fun m=>by rw [dP,show i+m - i=m by omega]
 have hple:p≤a.size - (i+n) - 1:=by
  rw [← hpd]
  by_cases h:i+n<a.size
  ·
   rw [bg h]
   by_cases h46:bat a (i+n)=46
   ·
    rw [mI h46]
    have:=bU aF ((ap a).drop (i+n+1))
    rw [Qz] at this
    omega
   ·
    rw [lH h46];omega
  ·
   rw [QK (by omega)];simp [bV]
 have hend: ∀ h:i+n+1<a.size,bat a (i+n)=46→(p=aD aF ((ap a).drop (i+n+1))):=fun h h46=>by
  rw [← hpd,bg (by omega),mI h46]
 have hno: ¬ (i+n+1<a.size∧bat a (i+n)=46∧aF (bat a (i+n+1))=true)→p=0:=fun h=>by
  by_cases h1:i+n<a.size
  ·
   by_cases h46:bat a (i+n)=46
   ·
    by_cases h2:i+n+1<a.size
    ·
     rw [hend h2 h46,bg h2,aD,if_neg fun h3=>h ⟨h2,h46,h3⟩]
    ·
     rw [← hpd,bg h1,mI h46,QK (by omega)];rfl
   ·
    rw [← hpd,bg h1,lH h46]
  ·
   rw [← hpd,QK (by omega)];rfl
 have hyes:i+n+1<a.size→bat a (i+n)=46→aF (bat a (i+n+1))=true→0<p:=fun h h46 h3=>by
  rw [hend h h46,bg h,aD,if_pos h3];omega
 repeat' (first|(apply ak;exact rfl;apply aI (o:=0) (off:=0);exact hr;exact rfl;exact rfl)|(apply aa;exact rfl;exact rfl;(intro w hm;exact hL1 w))|(apply aa;exact rfl;exact rfl;(intro w hm;exact jY _ w))|(refine E9 (id:=7) [0,1,4] rfl (ι:=Nat × Nat) (fun x=> [(7,.int .i64 (x.1:Int)),(5,.int .i64 (x.2:Int))]) (fun x=>x.1=p∧x.2=if p=0 then n else n+1+p) ?_ ?_)|(apply aa;exact rfl;exact rfl;(intro w hm;exact hL2 (by omega) w))|refine sT ?_|refine sT2 ?_|refine sN ?_|refine sM fun _=> ?_|(refine sC ?_ ?_<;>intro hb<;>try omega)|exact cT|fail)
 ·
  (refine eJ ?_)
  rw [if_pos (.inl (by omega))];rfl
 ·
  rename_i h1 h2 h3
  refine cG ((aD aF ((ap a).drop (i+n+1)),n+(aD aF ((ap a).drop (i+n+1))+1))) ?_ sB mS
  have h5:=hyes (by omega) h3 hb
  have h6:=hend (by omega) h3
  rw [← h6]
  exact ⟨rfl,by rw [if_neg (by omega)];omega⟩
 ·
  rename_i h1 h2 h3
  refine cG ((0,n)) ?_ sB mS
  have:=hno fun h=>by rw [hb] at h;cases h.2.2
  exact ⟨this.symm,by rw [if_pos this]⟩
 ·
  refine cG ((0,n)) ?_ sB mS
  have:=hno fun h=>hb h.2.1
  exact ⟨this.symm,by rw [if_pos this]⟩
 ·
  refine cG ((0,n)) ?_ sB mS
  have:=hno fun h=>by omega
  exact ⟨this.symm,by rw [if_pos this]⟩
 rintro ⟨p',m⟩ ⟨rfl,hm⟩
 have hn0:n≠0:=by omega
 dsimp only at hm ⊢
 rw [← hm]
 by_cases h4:4<p'
 ·
  rw [if_pos (.inr h4)]
  repeat' (first|refine sT ?_|refine sT2 ?_|refine sM fun _=> ?_|(refine sC ?_ ?_<;>intro hb<;>try omega)|exact cT|fail)
  all_goals first|(exfalso;omega)|((refine eJ ?_);rfl)
 ·
  rw [if_neg (by omega)]
  have him:i+m≤a.size:=by rw [hm];split<;>omega
  have hP:=rR (sub a i (i+m)) (by rw [bY _ him];omega)
  rw [hcut m] at hP
  generalize fY (((ap a).drop i).take m)=q at hP
  repeat' (first|(apply ak;exact rfl;apply aI (o:=0) (off:=0);exact hr;exact rfl;exact rfl)|(apply aa;exact rfl;exact rfl;(intro w hm;exact hP w))|refine sT ?_|refine sT2 ?_|refine sN ?_|refine sM fun _=> ?_|(refine sC ?_ ?_<;>intro hb<;>try omega)|exact cT|fail)
  ·
   (refine eJ ?_)
   rw [if_pos hb];rfl
  ·
   (refine eJ ?_)
   rw [if_neg hb];rfl
theorem lf (a:ByteArray) (j:Nat):((ap a).drop j).headD 0=bat a j:=by
 rw [bat,List.headD_eq_head?_getD,List.head?_drop,QI]
theorem y5 (a:ByteArray) (ha:a.size≤100000) (j:Nat) (g:Nat) (w:World) (hr:Ro w g 0 [.string a]):
  ay Tryz.prog 265 [.pointer (some ⟨g,0,none⟩),.int .i64 (j:Int)] w (.int .u8 (bat a j)):=by
 refine aq Tryz.func265 rfl Tryz.ntmps265 rfl ?_
 have hl:=au a
 repeat' (first|(apply ak;exact rfl;apply aI (o:=0) (off:=0);exact hr;exact rfl;exact rfl)|refine sT ?_|refine sT2 ?_|refine sN ?_|refine sM fun _=> ?_|(refine sC ?_ ?_<;>intro hb<;>try omega)|exact cT|fail)
 ·
  (refine rT1 ?_)
  rfl
 ·
  (refine rT1 ?_)
  have e:bat a j=0:=by rw [bat,QI,RP (by omega)];rfl
  rw [e]
def upW (l:List Int):List Int:=(l.take (aD cJ l)).map upC
theorem uh (l:List Int):(upW l).length=aD cJ l:=by
 have:=bU cJ l
 simp [upW];omega
theorem Jq {l:List Int} (h:gQ l):gQ (upW l):=by
 intro c hc
 obtain ⟨d,hd,rfl⟩:=QT.1 hc
 have:=h d (RE hd)
 unfold upC
 split<;>omega
theorem Bj (a:ByteArray) (ha:a.size≤100000) (i:Nat) (hi:i≤a.size) (g:Nat) (w:World) (hr:Ro w g 0 [.string a]):
  ay Tryz.prog 264 [.pointer (some ⟨g,0,none⟩),.int .i64 (i:Int)] w (.string (mkB (upW ((ap a).drop i)))):=by
 refine aq Tryz.func264 rfl Tryz.ntmps264 rfl ?_
 have hl:=au a
 have hL:=qV a (by omega) i hi 300 cJ Hz
 have hwl:=bU cJ ((ap a).drop i)
 rw [Qz] at hwl
 unfold upW
 generalize aD cJ ((ap a).drop i)=n at hL hwl
 have hU:=qz (sub a i (i+n)) (by rw [bY _ (by omega)];omega)
 have e:upB (sub a i (i+n))=mkB ((((ap a).drop i).take n).map upC):=by rw [upB,dP,show i+n - i=n by omega]
 rw [e] at hU
 repeat' (first|(apply ak;exact rfl;apply aI (o:=0) (off:=0);exact hr;exact rfl;exact rfl)|(apply aa;exact rfl;exact rfl;(intro w hm;exact hL w))|(apply aa;exact rfl;exact rfl;(intro w hm;exact hU w))|refine sT ?_|refine sT2 ?_|refine sN ?_|refine sM fun _=> ?_|(refine sC ?_ ?_<;>intro hb<;>try omega)|exact cT|fail)
 (refine rT1 ?_)
 rfl
def cC:List Int→Option Nat
 | []=>none
 |c::r=>if c≠34 then (cC r).map (· +1) else match r with
  | []=>some 0
  |d::r' =>if d=34 then (cC r').map (· +2) else some 0
theorem j6 {c:Int} {r:List Int} (h:c≠34):cC (c::r)=(cC r).map (· +1):=by rw [cC.eq_def];simp [h]
def mq (l:List Int):Option (Tk × Nat):=
 if l.headD 0≠34 then none
 else match cC (l.drop 1) with
  |none=>none
  |some k=>if (fL (l.take (k+2))).2≠0 then none else some (⟨2,0,mkB (fL (l.take (k+2))).1,aM,0⟩,k+2)
set_option maxHeartbeats 1000000 in
theorem Mm (a:ByteArray) (ha:a.size≤100000) (i:Nat) (hi:i<a.size) (g:Nat) (w:World) (hr:Ro w g 0 [.string a]):
  ay Tryz.prog 222 [.pointer (some ⟨g,0,none⟩),.int .i64 (i:Int)] w (Dp (atT i (mq ((ap a).drop i)))):=by
 refine aq Tryz.func222 rfl Tryz.ntmps222 rfl ?_
 have hl:=au a
 unfold mq
 rw [lf,RN]
 by_cases h34:bat a i=34
 ·
  rw [if_neg (by omega)]
  have hcut: ∀ m,ap (sub a i (i+m))=((ap a).drop i).take m:=fun m=>by rw [dP,show i+m - i=m by omega]
  repeat' (first|(apply ak;exact rfl;apply aI (o:=0) (off:=0);exact hr;exact rfl;exact rfl)|refine sT ?_|refine sT2 ?_|refine sN ?_|refine sM fun _=> ?_|(refine sC ?_ ?_<;>intro hb<;>try omega)|exact cT|fail)
  all_goals try (exfalso;omega)
  rename_i g4
  generalize hC:cC ((ap a).drop (i+1))=C
  refine ax [0,1,4,5] rfl (fun j:Nat=> [(6,.int .i64 (j:Int))]) (fun _=> [.box g4 228 (ba cV)]) (fun j=>i+1≤j∧j≤a.size∧C=(cC ((ap a).drop j)).map (· +(j - (i+1)))) (fun j=>a.size - j) (i+1) ⟨by omega,by omega,by rw [hC];simp⟩ sB mS ?_
  rintro j ⟨hj1,hj2,hj3⟩
  by_cases hlt:j<a.size
  ·
   rw [bg hlt] at hj3
   by_cases hq:bat a j=34
   ·
    by_cases hn:j+1<a.size∧bat a (j+1)=34
    ·
     rw [bg hn.1,hq,hn.2] at hj3
     simp only [cC,ne_eq,not_true_eq_false,if_false,if_true,Tt] at hj3
     have hn1:=hn.1
     repeat' (first|(apply ak;exact rfl;apply aI (o:=0) (off:=0);exact hr;exact rfl;exact rfl)|refine sT ?_|refine sT2 ?_|refine sN ?_|refine sM fun _=> ?_|(refine sC ?_ ?_<;>intro hb<;>try omega)|exact cT|fail)
     all_goals try (exfalso;omega)
     refine ⟨j+2,?_,(by first|omega|(dsimp only;omega)),sB,sB,mS⟩
     refine ⟨by omega,by omega,?_⟩
     rw [hj3,show j+1+1=j+2 by omega]
     congr 1
     funext k
     simp only [Function.comp]
     omega
    ·
     have hC0:C=some (j - (i+1)):=by
      rw [hj3,hq]
      by_cases h1:j+1<a.size
      ·
       rw [bg h1]
       have h2:bat a (j+1)≠34:=fun h=>hn ⟨h1,h⟩
       simp [cC,h2]
      ·
       rw [QK (i:=j+1) (by omega)]
       simp [cC]
     rw [hC0]
     dsimp only
     have hm:j - (i+1)+2=j+1 - i:=by omega
     rw [hm]
     have hc:=hcut (j+1 - i)
     rw [show i+(j+1 - i)=j+1 by omega] at hc
     have hP:=EP (sub a i (j+1)) (by rw [bY _ (by omega)];omega)
     rw [hc] at hP
     generalize fL (((ap a).drop i).take (j+1 - i))=q at hP
     repeat' (first|(apply ak;exact rfl;apply aI (o:=0) (off:=0);exact hr;exact rfl;exact rfl)|(apply aa;exact rfl;exact rfl;(intro w hm;exact hP w))|refine sT ?_|refine sT2 ?_|refine sN ?_|refine sM fun _=> ?_|(refine sC ?_ ?_<;>intro hb<;>try omega)|exact cT|fail)
     all_goals first|(exfalso;omega)|((refine eJ ?_);first|(rw [if_pos hb];rfl)|(rw [if_neg hb];rfl))
   ·
    rw [j6 hq,Tt] at hj3
    repeat' (first|(apply ak;exact rfl;apply aI (o:=0) (off:=0);exact hr;exact rfl;exact rfl)|refine sT ?_|refine sT2 ?_|refine sN ?_|refine sM fun _=> ?_|(refine sC ?_ ?_<;>intro hb<;>try omega)|exact cT|fail)
    all_goals try (exfalso;omega)
    refine ⟨j+1,?_,(by first|omega|(dsimp only;omega)),sB,sB,mS⟩
    refine ⟨by omega,by omega,?_⟩
    rw [hj3]
    congr 1
    funext k
    simp only [Function.comp]
    omega
  ·
   rw [QK (by omega)] at hj3
   rw [hj3]
   dsimp only [cC,Option.map]
   repeat' (first|(apply ak;exact rfl;apply aI (o:=0) (off:=0);exact hr;exact rfl;exact rfl)|refine sT ?_|refine sT2 ?_|refine sN ?_|refine sM fun _=> ?_|(refine sC ?_ ?_<;>intro hb<;>try omega)|exact cT|fail)
   all_goals try (exfalso;omega)
   (refine eJ ?_)
   rfl
 ·
  rw [if_pos (by omega)]
  repeat' (first|(apply ak;exact rfl;apply aI (o:=0) (off:=0);exact hr;exact rfl;exact rfl)|refine sT ?_|refine sT2 ?_|refine sN ?_|refine sM fun _=> ?_|(refine sC ?_ ?_<;>intro hb<;>try omega)|exact cT|fail)
  all_goals try (exfalso;omega)
  (refine eJ ?_)
  rfl
end Go.SL
namespace Go.SL
open Go Go.Proofs
attribute [local irreducible] W WL WQ WG WA WX WLI WR WT VOp thn blk bF scp aR bk bJ aL FnIn FnP
instance:FldT Tryz.prog 228 0 5 0:=⟨_,_,Tryz.underlying228,rfl,rfl,rfl⟩
theorem rj {f:Nat} {fn:Int} {n:Nat} {fin:Int} {p p' :PS} {m:Nat} (h:zw f fn n fin p=some (.ok (m,p'))):p.out.length<p'.out.length:=by
 unfold zw at h
 split at h
 ·
  obtain ⟨m',q,h1,h2⟩:=cv h
  cases h2
  exact (js _ _ _ _ _ _ h1).some trivial
 ·
  split at h
  ·
   cases h
  ·
   cases h
   simp [PS.put,PS.skip]
theorem vE {fin:Int} {name:Tk} {fn:Int} {n:Nat} {p:PS} {x:Nd} (hx:p.out[p.out.length - 1]? =some x):cR fin name fn n p=
  if (hdT fin p.l).kind≠10 then some (.error ((hdT fin p.l).at_,4))
  else if (n:Int)<(eG fn).1∨(eG fn).2.1<(n:Int) then some (.error (name.at_,11))
  else if 46≤fn∧x.kind≠2∧x.kind≠3 then some (.error (name.at_,4))
  else some (.ok (0,p.skip.put ⟨7,bG,aM,0,fn,n⟩)):=by
 have hx' :p.out.getLast? =some x:=by rw [TI];exact hx
 unfold cR
 simp only [hx',Ry,Option.some.injEq,decide_eq_true_eq,ne_eq,not_or]
theorem xZ {fn:Int} (h1:1≤fn) (h2:fn≤50):1≤(eG fn).1:=by
 unfold eG
 repeat' split
 all_goals first
  |decide
  |(rename_i h;simp [cX,h1,h2] at h)
theorem At.head' {toks:List Tk} {A:Option Nat} {cap:Nat} {fin:Int} {g:Nat} {p:PS} {lv:Value} (h:At toks A cap p lv) {u:Tk} (hu:hdT fin p.l=u) {B:Option Nat} {cb:Nat} {out:List Nd} {H:List Blk} {w0:World} (hH:MSub (pB g lv A cap fin toks B cb out) H) (w:World) (hm:Mem w0 w H):
  ay Tryz.prog 177 [.pointer (some ⟨g,0,none⟩)] w (.agg (ba u).toArray):=hu ▸ At.head h hH w hm
open Classical in
noncomputable def zp (f:Nat) (t:Tk) (vU:Nat→Tk→Int→PS→Option Out) (fin:Int) (p:PS):Option Out:=if hdT fin p.l=t∧t.kind=7 then vU f t fin p else none
def vU (f:Nat) (t:Tk) (fin:Int) (p:PS):Option Out:=
 if (aY t.text).2≠0 then some (.error (t.at_,10))
 else
  let u:=hdT fin p.skip.l
  if u.kind≠9 then some (.error (u.at_,4))
  else if (hdT fin p.skip.skip.l).kind=10 then cR fin t (aY t.text).1 0 p.skip.skip
  else fw (bq fin f (.args (aY t.text).1 0) p.skip.skip) fun n p=>cR fin t (aY t.text).1 n p
set_option maxHeartbeats 4000000 in
theorem Nq (f:Nat) (t:Tk) (ih: ∀ f' ≤f,POK f' (.level 1) 176 []):NA (zp f t vU) 356 [.agg (ba t).toArray]:=by
  intro toks A cap fin g p lv B cb r R w0 hc hl hat hrun
  refine vo Tryz.func356 rfl Tryz.ntmps356 rfl ?_
  unfold zp at hrun
  by_cases ht: ¬ (hdT fin p.l=t∧t.kind=7)
  · rw [if_neg ht] at hrun;cases hrun
  have ht:=Classical.not_not.1 ht
  rw [if_pos ht] at hrun
  obtain ⟨ht,ht7⟩:=ht
  have hF:=fun w=>CI t.text w
  unfold vU at hrun
  obtain ⟨fn,fe,hfe⟩: ∃ fn fe,aY t.text=(fn,fe):=⟨_,_,rfl⟩
  have hfn:fe=0→1≤fn∧fn≤50:=by
    intro h
    subst h
    have hb1:=iJ cW t.text 0 (by omega)
    rw [iH] at hb1
    unfold aY at hfe
    split at hfe<;>cases hfe
    omega
  rw [hfe] at hrun hF
  dsimp only at hF
  by_cases h0:fe≠0
  · rw [if_pos h0] at hrun
    cases hrun
    repeat' (first|(apply aa (f:=370);exact rfl;exact rfl;(intro w' _;exact hF w'))|(refine bH (f:=178) rfl rfl (iP _ _ _ _ _ (fun _ _=>False)) ?_ ?_)|(exact fun _ _ h=>h.elim)|(rintro _ _ ⟨rfl,rfl⟩)|refine sT ?_|refine sP ?_|refine sM fun _=> ?_|(refine sC ?_ ?_<;>intro hb<;>try omega)|exact cT|fail)
    all_goals first
      |(exfalso;omega)
      | (refine cM rfl ?_
         simp only [Qy,Qm,Qn,pB]
         exact mS)
  rw [if_neg h0] at hrun
  dsimp only at hrun
  obtain ⟨hfn1,hfn2⟩:=hfn (by omega)
  by_cases hw9:(hdT fin p.skip.l).kind≠9
  · rw [if_pos hw9] at hrun
    cases hrun
    repeat' (first|(apply aa (f:=370);exact rfl;exact rfl;(intro w' _;exact hF w'))|(apply aw (f:=275);exact rfl;exact rfl;exact hat.skip hc (c:=7) (by rw [ht];exact ht7) (by decide) (MSub.pick pK (MSub.pick pK (MSub.pick pK (MSub.refl _))));rintro _ _ ⟨rfl,lv1,h1,rfl⟩)|(refine bH (f:=355) rfl rfl (FnP.msub (yz 9 (by decide) toks A cap fin g p.skip lv1 B cb _ _ w0 hc hl (At1.at h1) (by unfold E5;rw [if_pos hw9])) (MSub.pick pK (MSub.pick pK (MSub.pick pK (MSub.refl _))))) ?_ ?_)|(rintro _ _ ⟨rfl,n,p',lv',B',cb',h,h2,rfl⟩;cases h)|(rintro _ _ ⟨e,h,rfl,h3⟩;cases h)|refine sT ?_|refine sP ?_|refine sM fun _=> ?_|(refine sC ?_ ?_<;>intro hb<;>try omega)|exact cT|fail)
    all_goals first
      |(exfalso;omega)
      | (refine cM rfl (MSub.trans ?_ h3)
         simp only [Qy,Qm,Qn,pB]
         exact mS)
  rw [if_neg hw9] at hrun
  repeat' (first|(apply aa (f:=370);exact rfl;exact rfl;(intro w' _;exact hF w'))|(apply aw (f:=275);exact rfl;exact rfl;exact hat.skip hc (c:=7) (by rw [ht];exact ht7) (by decide) (MSub.pick pK (MSub.pick pK (MSub.pick pK (MSub.refl _))));rintro _ _ ⟨rfl,lv1,h1,rfl⟩)|(refine bH (f:=355) rfl rfl (FnP.msub (yz 9 (by decide) toks A cap fin g p.skip lv1 B cb _ _ w0 hc hl (At1.at h1) (by unfold E5;rw [if_neg hw9])) (MSub.pick pK (MSub.pick pK (MSub.pick pK (MSub.refl _))))) ?_ ?_)|(rintro _ _ ⟨rfl,n,p',lv',B',cb',h,h2,rfl⟩;cases h)|(rintro _ _ ⟨e,h,rfl,h3⟩;cases h)|(rename_i g3;refine E8 (id:=7) (ι:=Nat × PS × Value × Option Nat × Nat) [0,3,4] rfl (fun x=> [(6,.int .i64 (x.1:Int))]) (fun x=> .box g3 228 (ba t)::(pB g x.2.2.1 A cap fin toks x.2.2.2.1 x.2.2.2.2 x.2.1.out++R)) (fun x=>x.1≤x.2.1.out.length∧At toks A cap x.2.1 x.2.2.1∧cR fin t fn x.1 x.2.1=some r) ?_ ?_)|refine sT ?_|refine sP ?_|refine sM fun _=> ?_|(refine sC ?_ ?_<;>intro hb<;>try omega)|exact cT|fail)
  · obtain ⟨u,hu⟩: ∃ u,hdT fin p.skip.skip.l=u:=⟨_,rfl⟩
    rw [hu] at hrun
    by_cases h10:u.kind=10
    · rw [if_pos h10] at hrun
      repeat' (first|(apply ak;exact rfl;apply cL;exact rfl;exact rfl)|(apply aa (f:=177);exact rfl;exact rfl;(intro w' hm';exact At.head' (B:=B') (cb:=cb') (out:=p.skip.skip.out) (g:=g) (fin:=fin) h2 hu (MSub.pick pK (MSub.pick pK (MSub.pick pK (MSub.nil _)))) w' hm'))|refine cG ((0,p.skip.skip,lv',B',cb')) ?_ sB mS|refine sT ?_|refine sP ?_|refine sM fun _=> ?_|(refine sC ?_ ?_<;>intro hb<;>try omega)|exact cT|fail)
      all_goals first|(exfalso;omega)|exact ⟨Qt _,h2,hrun⟩
    · rw [if_neg h10] at hrun
      obtain ⟨r1,hr1,hr2⟩:=bC hrun
      repeat' (first|(apply ak;exact rfl;apply cL;exact rfl;exact rfl)|(apply aa (f:=177);exact rfl;exact rfl;(intro w' hm';exact At.head' (B:=B') (cb:=cb') (out:=p.skip.skip.out) (g:=g) (fin:=fin) h2 hu (MSub.pick pK (MSub.pick pK (MSub.pick pK (MSub.nil _)))) w' hm'))|refine sT ?_|refine sP ?_|refine sM fun _=> ?_|(refine sC ?_ ?_<;>intro hb<;>try omega)|exact cT|fail)
      all_goals first
        |(exfalso;omega)
        |skip
      refine ax [0,3,4] rfl (fun x:Nat × Nat × PS × Value × Option Nat × Nat=> [(6,.int .i64 (x.2.1:Int))]) (fun x=> .box g3 228 (ba t)::(pB g x.2.2.2.1 A cap fin toks x.2.2.2.2.1 x.2.2.2.2.2 x.2.2.1.out++R)) (fun x=>x.1≤f∧x.2.1≤x.2.2.1.out.length∧At toks A cap x.2.2.1 x.2.2.2.1∧bq fin x.1 (.args fn x.2.1) x.2.2.1=some r1) (fun x=>x.1) (f,0,p.skip.skip,lv',B',cb') ⟨Qq _,Qt _,h2,hr1⟩ sB ?_ ?_
      · simp only [Qy,Qm,Qn,pB]
        exact mS
      rintro ⟨f',n',q,lq,Bq,cq⟩ ⟨hf',hn',hq1,hq2⟩
      dsimp only at hf' hn' hq1 hq2 ⊢
      cases f' with
      |zero=>cases hq2
      |succ f' =>
        rw [zu] at hq2
        have hn6:n' ≤1000000:=QC hn' (At.len hq1 hl)
        obtain ⟨r2,hr3,hr4⟩:=bC hq2
        repeat' (first|(refine bH (f:=371) rfl rfl (FnP.msub (CA f' fn n' (ih f' (by omega)) toks A cap fin g q lq Bq cq r2 _ w0 hc hl hq1 hr3) (MSub.pick pK (MSub.pick pK (MSub.pick pK (MSub.refl _))))) ?_ ?_)|(rintro _ _ ⟨rfl,n2,q2,lv2,B2,cb2,rfl,h6,rfl⟩;obtain ⟨u2,hu2⟩: ∃ u,hdT fin q2.l=u:=⟨_,rfl⟩)|(rintro _ _ ⟨e,rfl,rfl,h3⟩)|(apply ak;exact rfl;apply cL;exact rfl;exact rfl)|(apply aa (f:=177);exact rfl;exact rfl;(intro w' hm';exact At.head' (B:=B2) (cb:=cb2) (out:=q2.out) (g:=g) (fin:=fin) h6 hu2 (MSub.pick pK (MSub.pick pK (MSub.pick pK (MSub.nil _)))) w' hm'))|(apply aw (f:=275);exact rfl;exact rfl;exact h6.skip hc (c:=11) (by rw [hu2];omega) (by decide) (MSub.pick pK (MSub.pick pK (MSub.pick pK (MSub.refl _))));rintro _ _ ⟨rfl,lv3,h7,rfl⟩)|refine cG ((n' +1,q2,lv2,B2,cb2)) ?_ sB mS|refine sT ?_|refine sP ?_|refine sN ?_|refine sM fun _=> ?_|(refine sC ?_ ?_<;>intro hb<;>try omega)|exact cT|fail)
        · rcases hr4 with ⟨e,h,_⟩|⟨n3,p3,h,h7⟩
          · cases h
          · cases h
            rw [hu2,if_neg (by omega)] at h7
            rcases hr2 with ⟨e,h,_⟩|⟨n4,p4,h,h8⟩
            · rw [h] at h7;cases h7
            · rw [h] at h7
              cases h7
              have:=rj hr3
              exact ⟨by dsimp only;omega,h6,h8⟩
        · rcases hr4 with ⟨e,h,_⟩|⟨n3,p3,h,h7'⟩
          · cases h
          · cases h
            rw [hu2,if_pos (by omega)] at h7'
            have:=rj hr3
            refine ⟨(f',n' +1,q2.skip,lv3,B2,cb2),⟨by dsimp only;omega,by dsimp only [PS.skip];omega,At1.at h7,h7'⟩,Nat.lt_succ_self _,sB,sB,?_⟩
            simp only [Qy,Qm,Qn,pB]
            exact mS
        · rcases hr4 with ⟨e',h,h7⟩|⟨n3,p3,h,h7⟩
          · cases h
            rcases hr2 with ⟨e4,h,h8⟩|⟨n4,p4,h,h8⟩
            · rw [h] at h7
              cases h7
              exact cM h8 (MSub.trans (.drop .hd (.refl _)) h3)
            · rw [h] at h7;cases h7
          · cases h
  · rintro ⟨n,q,lq,Bq,cq⟩ ⟨hn',hq1,hq2⟩
    dsimp only at hn' hq1 hq2 ⊢
    obtain ⟨u,hu⟩: ∃ u,hdT fin q.l=u:=⟨_,rfl⟩
    have hap:=xZ hfn1 hfn2
    have hA:=fun w=>vZ fn w
    obtain ⟨least,most,ae,hae⟩: ∃ a b c,eG fn=(a,b,c):=⟨_,_,_,rfl⟩
    rw [hae] at hA hap
    dsimp only at hA hap
    by_cases h10:u.kind≠10
    · simp only [cR,hu,if_pos h10] at hq2
      cases hq2
      repeat' (first|(apply ak;exact rfl;apply cL;exact rfl;exact rfl)|(apply aa (f:=177);exact rfl;exact rfl;(intro w' hm';exact At.head' (B:=Bq) (cb:=cq) (out:=q.out) (g:=g) (fin:=fin) hq1 hu (MSub.pick pK (MSub.pick pK (MSub.pick pK (MSub.nil _)))) w' hm'))|(refine bH (f:=178) rfl rfl (iP _ _ _ _ _ (fun _ _=>False)) ?_ ?_)|(exact fun _ _ h=>h.elim)|(rintro _ _ ⟨rfl,rfl⟩)|refine sT ?_|refine sP ?_|refine sM fun _=> ?_|(refine sC ?_ ?_<;>intro hb<;>try omega)|exact cT|fail)
      all_goals first
        |(exfalso;omega)
        | (refine cM rfl ?_
           simp only [Qy,Qm,Qn,pB]
           exact mS)
    by_cases hlm:(n:Int)<least∨most<(n:Int)
    · simp only [cR,hu,if_neg h10,hae,if_pos hlm] at hq2
      cases hq2
      repeat' (first|(apply ak;exact rfl;apply cL;exact rfl;exact rfl)|(apply aa (f:=177);exact rfl;exact rfl;(intro w' hm';exact At.head' (B:=Bq) (cb:=cq) (out:=q.out) (g:=g) (fin:=fin) hq1 hu (MSub.pick pK (MSub.pick pK (MSub.pick pK (MSub.nil _)))) w' hm'))|(apply aa (f:=336);exact rfl;exact rfl;(intro w' _;exact hA w'))|(refine bH (f:=178) rfl rfl (iP _ _ _ _ _ (fun _ _=>False)) ?_ ?_)|(exact fun _ _ h=>h.elim)|(rintro _ _ ⟨rfl,rfl⟩)|refine sT ?_|refine sP ?_|refine sM fun _=> ?_|(refine sC ?_ ?_<;>intro hb<;>try omega)|exact cT|fail)
      all_goals first
        |(exfalso;omega)
        | (refine cM rfl ?_
           simp only [Qy,Qm,Qn,pB]
           exact mS)
    have hpos:0<q.out.length:=by omega
    have hol:q.out.length≤1000000:=At.len hq1 hl
    obtain ⟨x,hx⟩: ∃ x,q.out[q.out.length - 1]? =some x:=⟨_,Ql (by omega)⟩
    rw [vE hx,hu,hae,if_neg h10] at hq2
    dsimp only at hq2
    rw [if_neg hlm] at hq2
    refine eK (A:=Bq) (by simp only [Qy,Qm,Qn,pB];exact pK) hpos fun gb hB=> ?_
    subst hB
    by_cases hkx:46≤fn∧x.kind≠2∧x.kind≠3
    · rw [if_pos hkx] at hq2
      cases hq2
      repeat' (first|(apply ak;exact rfl;apply cL;exact rfl;exact rfl)|(apply aa (f:=177);exact rfl;exact rfl;(intro w' hm';exact At.head' (B:=some gb) (cb:=cq) (out:=q.out) (g:=g) (fin:=fin) hq1 hu (MSub.pick pK (MSub.pick pK (MSub.pick pK (MSub.nil _)))) w' hm'))|(apply aa (f:=336);exact rfl;exact rfl;(intro w' _;exact hA w'))|(apply aS;exact rfl;apply dI;exact rfl;exact rfl;exact hpos;(simp only [maxLen];omega))|(apply aS;exact rfl;apply aj;exact rfl;exact rfl;omega)|(apply aS;exact rfl;apply jP (k:=0);exact eu;exact rfl;exact pK;decide;exact hx;exact rfl)|(refine bH (f:=178) rfl rfl (iP _ _ _ _ _ (fun _ _=>False)) ?_ ?_)|(exact fun _ _ h=>h.elim)|(rintro _ _ ⟨rfl,rfl⟩)|refine sT ?_|refine sP ?_|refine sQ ?_|refine sN ?_|refine sNQ ?_|refine sD ?_|refine sM fun _=> ?_|(refine sC ?_ ?_<;>intro hb<;>try omega)|(refine sCQ ?_ ?_<;>intro hb<;>try omega)|exact cT|fail)
      all_goals first
        |(exfalso;omega)
        | (refine cM rfl ?_
           simp only [Qy,Qm,Qn,pB]
           exact mS)
    · rw [if_neg hkx] at hq2
      cases hq2
      repeat' (first|(apply ak;exact rfl;apply cL;exact rfl;exact rfl)|(apply aa (f:=177);exact rfl;exact rfl;(intro w' hm';exact At.head' (B:=some gb) (cb:=cq) (out:=q.out) (g:=g) (fin:=fin) hq1 hu (MSub.pick pK (MSub.pick pK (MSub.pick pK (MSub.nil _)))) w' hm'))|(apply aa (f:=336);exact rfl;exact rfl;(intro w' _;exact hA w'))|(apply aS;exact rfl;apply dI;exact rfl;exact rfl;exact hpos;(simp only [maxLen];omega))|(apply aS;exact rfl;apply aj;exact rfl;exact rfl;omega)|(apply aS;exact rfl;apply jP (k:=0);exact eu;exact rfl;exact pK;decide;exact hx;exact rfl)|(apply aw (f:=275);exact rfl;exact rfl;exact hq1.skip hc (c:=10) (by rw [hu];omega) (by decide) (MSub.pick pK (MSub.pick pK (MSub.pick pK (MSub.refl _))));rintro _ _ ⟨rfl,lv1,h1',rfl⟩)|(apply aw (f:=276);exact rfl;exact rfl;exact FnIn.msub (jW ⟨7,bG,aM,0,fn,n⟩ _ _ _ _ _ _ _ _ _ (At.len hq1 hl) _ _) (MSub.pick pK (MSub.pick pK (MSub.pick pK (MSub.refl _))));rintro _ _ ⟨rfl,B3,cb3,rfl⟩)|refine sT ?_|refine sP ?_|refine sQ ?_|refine sN ?_|refine sNQ ?_|refine sD ?_|refine sM fun _=> ?_|(refine sC ?_ ?_<;>intro hb<;>try omega)|(refine sCQ ?_ ?_<;>intro hb<;>try omega)|exact cT|fail)
      all_goals first
        |(exfalso;omega)
        | (refine dY (p' := q.skip.put ⟨7, bG, aM, 0, fn, n⟩) (B' := B3) (cb' := cb3) (by first | exact .inr rfl | exact .inl rfl) rfl rfl (h1'.put _) ?_
           simp only [Qy,Qm,Qn,pB]
           exact mS)
end Go.SL
namespace Go.SL
open Go Go.Proofs
attribute [local irreducible] W WL WQ WG WA WX WLI WR WT VOp thn blk bF scp aR bJ aL FnIn
theorem MG {l m:List Int} (hl:gQ l) (hm:gQ m):mkB l=mkB m↔l=m:=⟨fun h=>by rw [← mW hl,← mW hm,h],fun h=>by rw [h]⟩
theorem oG (a b:ByteArray) (w:World):ay Tryz.prog 212 [.string a,.string b] w (.bool (decide ((ap a).take b.size=ap b))):=by
 refine aq Tryz.func212 rfl Tryz.ntmps212 rfl ?_
 have ha:=au a
 have hb' :=au b
 have e: ∀ h:b.size≤a.size,decide (sub a 0 b.size=b)=decide ((ap a).take b.size=ap b):=fun h=>by
  rw [decide_eq_decide,← tq]
  exact ⟨fun h=>by rw [h],fun h=>u6 h⟩
 repeat' (first|refine sT ?_|refine sT2 ?_|refine sM fun _=> ?_|(refine sC ?_ ?_<;>intro hb<;>try omega)|fail)
 ·
  rw [e (by omega)]
  (refine rT1 ?_)
  rfl
 ·
  (refine rT1 ?_)
  rw [decide_eq_false]
  intro h
  have:=congrArg List.length h
  rw [QD] at this
  omega
theorem ze (a b:ByteArray) (w:World):ay Tryz.prog 271 [.string a,.string b] w (.bool (decide ((ap a).take b.size=ap b))):=by
 refine aq Tryz.func271 rfl Tryz.ntmps271 rfl ?_
 repeat' (first|(apply aa;exact rfl;exact rfl;(intro w hm;exact oG a b w))|refine sT ?_|refine sM fun _=> ?_|(refine sC ?_ ?_<;>intro hb<;>try omega)|fail)
 (refine rT1 ?_)
 rfl
theorem uX (c:Int) (w:World):ay Tryz.prog 268 [.int .i64 c] w (.bool (decide (1≤c) && decide (c≤5))):=by
 refine aq Tryz.func268 rfl Tryz.ntmps268 rfl ?_
 repeat' (first|refine sT ?_|refine sM fun _=> ?_|(refine sC ?_ ?_<;>intro hb<;>try omega)|fail)
 all_goals ((refine rT1 ?_);simp_all<;>omega)
theorem zl {k:Nat} (h1:1≤k) (h2:k≤5): ∃ s,dD.drop (k - 1)=s::dD.drop k∧cA.getD k av=mkB s∧gQ s∧s.length≤10:=by
 rcases (by omega:k=1∨k=2∨k=3∨k=4∨k=5) with rfl|rfl|rfl|rfl|rfl<;>refine ⟨_,rfl,rfl,?_,by decide⟩<;>(intro c hc;simp at hc;omega)
theorem mM (l:List Int):(mkB l).size=l.length:=by simp [mkB,ByteArray.size]
def j0 (l:List Int):Option (Tk × Nat):=(jK l dD 1).map fun x=>(⟨4,x.1,av,aM,0⟩,x.2)
set_option maxHeartbeats 1000000 in
theorem MX (a:ByteArray) (ha:a.size≤100000) (i:Nat) (hi:i≤a.size) (g:Nat) (w:World) (hr:Ro w g 0 [.string a]) (hW:Words w):
  ay Tryz.prog 224 [.pointer (some ⟨g,0,none⟩),.int .i64 (i:Int)] w (Dp (atT i (j0 ((ap a).drop i)))):=by
 refine aq Tryz.func224 rfl Tryz.ntmps224 rfl ?_
 have hl:=au a
 unfold j0
 generalize hF:jK ((ap a).drop i) dD 1=F
 repeat' (first|refine sT ?_|refine sT2 ?_|refine sM fun _=> ?_|(refine sC ?_ ?_<;>intro hb<;>try omega)|fail)
 rename_i g4
 refine ax [0,1,4,5] rfl (fun k:Nat=> [(6,.int .i64 (k:Int))]) (fun _=> [.box g4 228 (ba cV)]) (fun k=>1≤k∧k≤6∧F=jK ((ap a).drop i) (dD.drop (k - 1)) k) (fun k=>6 - k) 1 ⟨by omega,by omega,hF.symm⟩ sB mS ?_
 rintro k ⟨hk1,hk2,hk3⟩
 by_cases hk:k≤5
 ·
  obtain ⟨s,e1,e2,e3,e4⟩:=zl hk1 hk
  have e5:fP (k:Int)=⟨4,(k:Int),av⟩:=by rw [fP,if_neg (by omega)]
  have hFa:=lV (k:Int)
  rw [e5] at hFa
  have hSh:=fun w' h=>Nx (k:Int) (by omega) (by omega) w' h
  rw [RX,e2] at hSh
  rw [e1,jK] at hk3
  have hlit:(decide (1≤(k:Int)) && decide ((k:Int)≤5))=true:=by simp;omega
  have hL:=uX (k:Int)
  rw [hlit] at hL
  have hms:=mM s
  have hcut:ap (sub a i (i+s.length))=((ap a).drop i).take s.length:=by rw [dP,show i+s.length - i=s.length by omega]
  have hU:=fun h=>qz (sub a i (i+s.length)) h
  have hdec:upB (sub a i (i+s.length))=mkB s↔(((ap a).drop i).take s.length).map upC=s:=by
   rw [upB,hcut,MG _ e3]
   rw [← hcut,← qe]
   exact lQ _
  rw [← hms] at hU hdec hk3
  repeat' (first|(apply ak;exact rfl;apply aI (o:=0) (off:=0);exact hr;exact rfl;exact rfl)|(apply aa;exact rfl;exact rfl;(intro w hm;exact hL w))|(apply aa;exact rfl;exact rfl;(intro w hm;exact hFa w))|(apply aa;exact rfl;exact rfl;(intro w' hm;exact hSh w' (hW.next hm)))|(apply aa;exact rfl;exact rfl;(intro w hm;exact hU (by rw [bY _ (by omega)];omega) w))|refine sT ?_|refine sT2 ?_|refine sN ?_|refine sM fun _=> ?_|(refine sC ?_ ?_<;>intro hb<;>try omega)|fail)
  ·
   (refine eJ ?_)
   rw [hk3,if_pos (hdec.1 hb)]
   rfl
  ·
   refine ⟨k+1,?_,(by first|omega|(dsimp only;omega)),sB,sB,mS⟩
   refine ⟨by omega,by omega,?_⟩
   rw [hk3,if_neg fun h=>hb (hdec.2 h)]
   rfl
  ·
   refine ⟨k+1,?_,(by first|omega|(dsimp only;omega)),sB,sB,mS⟩
   refine ⟨by omega,by omega,?_⟩
   rw [hk3,if_neg]
   ·
    rfl
   ·
    intro h
    have:=congrArg List.length h
    rw [Rc,QD,Qz] at this
    omega
 ·
  have e:k=6:=by omega
  subst e
  rw [show dD.drop (6 - 1)= [] from rfl,jK] at hk3
  rw [hk3]
  have hL:=uX 6
  rw [show (decide (1≤(6:Int)) && decide ((6:Int)≤5))=false from rfl] at hL
  repeat' (first|(apply aa;exact rfl;exact rfl;(intro w hm;exact hL w))|refine sT ?_|refine sT2 ?_|refine sM fun _=> ?_|(refine sC ?_ ?_<;>intro hb<;>try omega)|fail)
  all_goals try (exfalso;omega)
  (refine eJ ?_)
  rfl
def FB:List Value:=eF.map fun x=> .string (mkB x.1)
def FC:List Value:=eF.map fun x=> .int .i64 x.2
theorem yZ (w:World):aL Tryz.prog 270 [] w fun v H=> ∃ g g',v= .tuple #[sl (some g) 13 13,sl (some g') 13 13]∧H= [.own (some g) 9 1 13 13 FB,.own (some g') 2 1 13 13 FC]:=by
 refine aq Tryz.func270 rfl Tryz.ntmps270 rfl ?_
 repeat' (first|refine sT ?_|refine sM fun _=> ?_|(refine sC ?_ ?_<;>intro hb<;>try omega)|fail)
 rename_i g g'
 refine eR (.inl rfl) rfl rfl rfl (H' := [.own (some g) 9 1 13 13 FB,.own (some g') 2 1 13 13 FC]) ?_ ⟨g,g',rfl,rfl⟩
 exact mS
theorem OK {k:Nat} (h:k<13): ∃ s n,eF.drop k=(s,n)::eF.drop (k+1)∧FB[k]? =some (.string (mkB s))∧FC[k]? =some (.int .i64 n)∧gQ s∧s.length≤2:=by
 rcases (by omega:k=0∨k=1∨k=2∨k=3∨k=4∨k=5∨k=6∨k=7∨k=8∨k=9∨k=10∨k=11∨k=12) with rfl|rfl|rfl|rfl|rfl|rfl|rfl|rfl|rfl|rfl|rfl|rfl|rfl<;>refine ⟨_,_,rfl,rfl,rfl,?_,by decide⟩<;>(intro c hc;simp at hc;omega)
def gS (l:List Int):Option (Tk × Nat):=
 match opL l eF with
 |some (k,n)=>some (⟨8,k,av,aM,0⟩,n)
 |none=>if l.headD 0=40 then some (⟨9,0,av,aM,0⟩,1) else if l.headD 0=41 then some (⟨10,0,av,aM,0⟩,1) else if l.headD 0=44 then some (⟨11,0,av,aM,0⟩,1) else none
set_option maxHeartbeats 1000000 in
theorem Mq (a:ByteArray) (ha:a.size≤100000) (i:Nat) (hi:i<a.size) (g:Nat) (w:World) (hr:Ro w g 0 [.string a]):
  ay Tryz.prog 225 [.pointer (some ⟨g,0,none⟩),.int .i64 (i:Int)] w (Dp (atT i (gS ((ap a).drop i)))):=by
 refine aq Tryz.func225 rfl Tryz.ntmps225 rfl ?_
 have hl:=au a
 unfold gS
 rw [lf]
 generalize hF:opL ((ap a).drop i) eF=F
 repeat' (first|(apply aA;exact rfl;exact rfl;(intro w' hm;exact yZ w');(rintro v H' ⟨gs,gn,rfl,rfl⟩))|refine sT ?_|refine sT2 ?_|refine sM fun _=> ?_|(refine sC ?_ ?_<;>intro hb<;>try omega)|fail)
 rename_i g4
 refine ax [0,1,4,5,7,14,15] rfl (fun k:Nat=> [(16,.int .i64 (k:Int))]) (fun _=> [.box g4 228 (ba cV),.own (some gs) 9 1 13 13 FB,.own (some gn) 2 1 13 13 FC]) (fun k=>k≤13∧F=opL ((ap a).drop i) (eF.drop k)) (fun k=>13 - k) 0 ⟨by omega,hF.symm⟩ sB mS ?_
 rintro k ⟨hk2,hk3⟩
 by_cases hk:k<13
 ·
  obtain ⟨s,m,e1,e2,e3,e4,e5⟩:=OK hk
  rw [e1,opL] at hk3
  have hms:=mM s
  have hP:=ze (sub a i a.size) (mkB s)
  rw [nS,mW e4,hms] at hP
  repeat' (first|(apply ak;exact rfl;apply aI (o:=0) (off:=0);exact hr;exact rfl;exact rfl)|(apply aa;exact rfl;exact rfl;(intro w hm;exact hP w))|(apply ak;exact rfl;apply aj (j:=k);exact rfl;exact rfl;exact hk)|(apply ak;exact rfl;apply bD;exact rfl;exact pK;(rw [show 0+k*1=k by omega];first|exact e2|exact e3))|refine sT ?_|refine sT2 ?_|refine sN ?_|refine sM fun _=> ?_|(refine sC ?_ ?_<;>intro hb<;>try omega)|fail)
  ·
   (refine eJ ?_)
   rw [hk3,if_pos hb,hms]
   rfl
  ·
   refine ⟨k+1,?_,(by first|omega|(dsimp only;omega)),sB,sB,mS⟩
   exact ⟨hk,by rw [hk3,if_neg hb]⟩
 ·
  have e:k=13:=by omega
  subst e
  rw [show eF.drop 13= [] from rfl,opL] at hk3
  subst hk3
  repeat' (first|(apply ak;exact rfl;apply aI (o:=0) (off:=0);exact hr;exact rfl;exact rfl)|refine sT ?_|refine sT2 ?_|refine sN ?_|refine sM fun _=> ?_|(refine sC ?_ ?_<;>intro hb<;>try omega)|fail)
  all_goals try (exfalso;omega)
  all_goals
   (refine eJ ?_)
   simp_all
   try rfl
end Go.SL
namespace Go.SL
open Go Go.Proofs
attribute [local irreducible] W WL WQ WG WA WX WLI WR WT WC VOp RW thn blk bF scp aR bk bJ aL FnIn FnP ceP
instance fldTk1:FldT Tryz.prog 228 1 2 1:=⟨_,_,Tryz.underlying228,rfl,rfl,rfl⟩
instance fldTk4:FldT Tryz.prog 228 4 3 7:=⟨_,_,Tryz.underlying228,rfl,rfl,rfl⟩
def rC (sa:ByteArray) (A:Option Nat) (n cap k:Nat) (B:Option Nat) (m cb:Nat) (at_ e:Int):List Value:= [.string sa,sl A n cap,.int .i64 (k:Int),sl B m cb,.int .i64 at_,.int .i64 e]
def rB (g:Nat) (sa:ByteArray) (A:Option Nat) (cap:Nat) (toks:List Tk) (k:Nat) (B:Option Nat) (cb:Nat) (out:List Nd) (at_ e:Int):List Blk:=
 [.box g 245 (rC sa A toks.length cap k B out.length cb at_ e),.own A 228 8 toks.length cap (toks.flatMap ba),.own B 293 11 out.length cb (out.flatMap bT)]
theorem PV {A:Option Nat} {cap:Nat} {toks:List Tk} {w0 w:World} {H:List Blk} (hm:Mem w0 w H) (hi:In (.own A 228 8 toks.length cap (toks.flatMap ba)) H) {k:Nat} (hk:k<toks.length): ∃ ga,A=some ga∧Ro w ga 0 (toks.flatMap ba):=by
 obtain ⟨_,_,_,h4⟩:=(hm.on _ hi.mem).1
 cases A with
 |none=>obtain ⟨h5,_⟩:=h4;omega
 |some ga=>exact ⟨ga,rfl,Ro.of_own hm hi⟩
theorem Bh (g:Nat) (sa:ByteArray) (hsa:sa.size≤1000) (A:Option Nat) (cap:Nat) (toks:List Tk) (ht1:toks.length≤1000) (k:Nat) (B:Option Nat) (m cb:Nat) (at_ e:Int) (w:World) (hr:Ro w g 0 (rC sa A toks.length cap k B m cb at_ e))
  (ht:k<toks.length→ ∃ ga,A=some ga∧Ro w ga 0 (toks.flatMap ba)):ay Tryz.prog 197 [.pointer (some ⟨g,0,none⟩)] w (.agg (ba (hdT (sa.size:Int) (toks.drop k))).toArray):=by
 refine aq Tryz.func197 rfl Tryz.ntmps197 rfl ?_
 unfold rC at hr
 by_cases hlt:k<toks.length
 ·
  rw [FN hlt]
  obtain ⟨ga,rfl,hra⟩:=ht hlt
  have hra' :=hra.elem xR k hlt
  repeat' (first|(apply gF (id:=1);kernel_rfl;kernel_rfl)|(apply aS;exact rfl;apply aI (o:=0) (off:=1);exact hr;exact rfl;exact rfl)|(apply aS;exact rfl;apply aI (o:=0) (off:=2);exact hr;exact rfl;exact rfl)|refine sT ?_|refine sS ?_|refine sQ ?_|refine sM fun _=> ?_|(refine sC ?_ ?_<;>intro hb<;>try omega)|(refine sCQ ?_ ?_<;>intro hb<;>try omega)|fail)
  all_goals try (exfalso;omega)
  rename_i g2
  refine jc (id:=2) [10] [] [] (by kernel_rfl) (by kernel_rfl) (by kernel_rfl) mS ?_
  repeat' (first|(apply di;(iterate 3 exact rfl);apply aI (o:=0) (off:=1);exact hr;exact rfl;exact rfl)|(apply di;(iterate 3 exact rfl);apply aI (o:=0) (off:=2);exact hr;exact rfl;exact rfl)|(apply di;(iterate 3 exact rfl);apply aj (j:=k);exact rfl;exact rfl;exact hlt)|(apply di;(iterate 3 exact rfl);apply aB;exact rfl;exact hra';exact rfl)|refine sT ?_|refine sS ?_|refine sW ?_|refine sM fun _=> ?_|(refine sC ?_ ?_<;>intro hb<;>try omega)|(refine sCW ?_ ?_<;>intro hb<;>try omega)|fail)
  all_goals try (exfalso;omega)
  (refine eRC ?_)
  rfl
 ·
  rw [tu (by omega)]
  repeat' (first|(apply gF (id:=1);kernel_rfl;kernel_rfl)|(apply aS;exact rfl;apply aI (o:=0) (off:=1);exact hr;exact rfl;exact rfl)|(apply aS;exact rfl;apply aI (o:=0) (off:=2);exact hr;exact rfl;exact rfl)|(apply ak;exact rfl;apply aI (o:=0) (off:=0);exact hr;exact rfl;exact rfl)|refine sT ?_|refine sS ?_|refine sQ ?_|refine sM fun _=> ?_|(refine sC ?_ ?_<;>intro hb<;>try omega)|(refine sCQ ?_ ?_<;>intro hb<;>try omega)|fail)
  all_goals try (exfalso;omega)
  (refine eRC ?_)
  rfl
theorem uG {g:Nat} {sa:ByteArray} (hsa:sa.size≤1000) {A:Option Nat} {cap:Nat} {toks:List Tk} (ht1:toks.length≤1000) {k:Nat} {B:Option Nat} {cb:Nat} {out:List Nd} {at_ e:Int} {t:Tk} (hd:hdT (sa.size:Int) (toks.drop k)=t) {H:List Blk} {w0:World} (hH:MSub (rB g sa A cap toks k B cb out at_ e) H) (w:World) (hm:Mem w0 w H):
  ay Tryz.prog 197 [.pointer (some ⟨g,0,none⟩)] w (.agg (ba t).toArray):=by
 have hm' :=hH.use hm
 rw [← hd]
 exact Bh g sa hsa A cap toks ht1 k B out.length cb at_ e w (Ro.of_box hm' .hd) fun hlt=>PV hm' (.tl .hd) hlt
theorem GZ (op:Int) (w:World):ay Tryz.prog 288 [.int .i64 op] w (.tuple #[.int .i64 (f4 op),.bool (decide (op=5)),.int .i64 (if f4 op=0 then 2 else 0)]):=by
 refine aq Tryz.func288 rfl Tryz.ntmps288 rfl ?_
 repeat' (first|refine sT ?_|refine sM fun _=> ?_|(refine sC ?_ ?_<;>intro hb<;>try omega)|fail)
 all_goals ((refine rT3 ?_);simp_all [f4];try omega)
theorem OD (q:Int) {g:Nat} {sa:ByteArray} (hsa:sa.size≤1000) {A:Option Nat} {cap:Nat} {toks:List Tk} (ht1:toks.length≤1000) {k:Nat} {B:Option Nat} {cb:Nat} {out:List Nd} {at_ e:Int} {t:Tk} (hd:hdT (sa.size:Int) (toks.drop k)=t) {H:List Blk} {w0:World} (hH:MSub (rB g sa A cap toks k B cb out at_ e) H) (w:World) (hm:Mem w0 w H):
  ay Tryz.prog 241 [.pointer (some ⟨g,0,none⟩),.int .i64 q] w (.bool (decide (t.kind=8∧f4 t.num=q))):=by
 have hm0:=hH.use hm
 refine aq Tryz.func241 rfl Tryz.ntmps241 rfl ?_
 have hh: ∀ w' H',Mem w w' H' →ay Tryz.prog 197 [.pointer (some ⟨g,0,none⟩)] w' (.agg (ba t).toArray):=fun w' H' hm' =>by
  rw [← hd]
  refine Bh g sa hsa A cap toks ht1 k B out.length cb at_ e w' ((Ro.of_box hm0 .hd).next hm') fun hlt=> ?_
  obtain ⟨ga,h1,h2⟩:=PV hm0 (.tl .hd) hlt
  exact ⟨ga,h1,h2.next hm'⟩
 repeat' (first|(apply aa (f:=197);exact rfl;exact rfl;(intro w' hm';exact hh w' _ hm'))|(apply aa (f:=288);exact rfl;exact rfl;(intro w' _;exact GZ _ w'))|refine sT ?_|refine sS ?_|refine sM fun _=> ?_|(refine sC ?_ ?_<;>intro hb<;>try omega)|fail)
 all_goals ((refine rT1 ?_);simp_all)
theorem fk (g:Nat) (sa:ByteArray) (A:Option Nat) (n cap k:Nat) (B:Option Nat) (m cb:Nat) (at_ e a2 e2:Int) (R:List Blk) (w0:World):
  FnIn Tryz.prog 196 [.pointer (some ⟨g,0,none⟩),.int .i64 a2,.int .i64 e2] w0 (.box g 245 (rC sa A n cap k B m cb at_ e)::R) fun v H=>v= .tuple #[]∧H= .box g 245 (rC sa A n cap k B m cb (if e=0 then a2 else at_) (if e=0 then e2 else e))::R:=by
 refine dx Tryz.func196 rfl Tryz.ntmps196 rfl ?_
 unfold rC
 by_cases he:e=0
 ·
  subst he
  rw [if_pos rfl,if_pos rfl]
  repeat' (first|refine sT ?_|refine sS ?_|refine sM fun _=> ?_|(refine sC ?_ ?_<;>intro hb<;>try omega)|fail)
  all_goals first|(exfalso;omega)|exact fM eIO rfl mS ⟨rfl,rfl⟩
 ·
  rw [if_neg he,if_neg he]
  repeat' (first|refine sT ?_|refine sS ?_|refine sM fun _=> ?_|(refine sC ?_ ?_<;>intro hb<;>try omega)|fail)
  all_goals first|(exfalso;omega)|exact fM eIO rfl mS ⟨rfl,rfl⟩
theorem kR (c:Int) {g:Nat} {sa:ByteArray} (hsa:sa.size≤1000) {A:Option Nat} {cap:Nat} {toks:List Tk} (ht1:toks.length≤1000) {k:Nat} (hk1:k≤2000) {B:Option Nat} {cb:Nat} {out:List Nd} {at_ e:Int} {t:Tk} (hd:hdT (sa.size:Int) (toks.drop k)=t) (hc:t.kind=c) (R:List Blk) (w0:World):
  FnIn Tryz.prog 347 [.pointer (some ⟨g,0,none⟩),.int .u8 c] w0 (rB g sa A cap toks k B cb out at_ e++R) fun v H=>v= .tuple #[]∧H=rB g sa A cap toks (k+1) B cb out at_ e++R:=by
 refine dx Tryz.func347 rfl Tryz.ntmps347 rfl ?_
 have hh:=fun w hm=>uG (g:=g) hsa ht1 hd (B:=B) (cb:=cb) (out:=out) (at_:=at_) (e:=e) (A:=A) (cap:=cap) (w0:=w0) (H:=rB g sa A cap toks k B cb out at_ e++R) ⟨R,.refl _⟩ w hm
 unfold rB rC at hh ⊢
 repeat' (first|(apply ak;exact rfl;apply cL;exact rfl;exact rfl)|(apply aa (f:=197);exact rfl;exact rfl;exact hh)|refine sT ?_|refine sS ?_|refine sN ?_|refine sM fun _=> ?_|(refine sC ?_ ?_<;>intro hb<;>try omega)|fail)
 all_goals first
  |(exfalso;omega)
  |exact fM eIO rfl (.refl _) ⟨rfl,rfl⟩
theorem uF (c:Int) {g:Nat} {sa:ByteArray} (hsa:sa.size≤1000) {A:Option Nat} {cap:Nat} {toks:List Tk} (ht1:toks.length≤1000) {k:Nat} {B:Option Nat} {cb:Nat} {out:List Nd} {at_ e:Int} {t:Tk} (hd:hdT (sa.size:Int) (toks.drop k)=t) (hc:t.kind≠c) (R:List Blk) (w0:World):
  FnIn Tryz.prog 347 [.pointer (some ⟨g,0,none⟩),.int .u8 c] w0 (rB g sa A cap toks k B cb out at_ e++R) fun v H=>v= .tuple #[]∧H=rB g sa A cap toks k B cb out (if e=0 then t.at_ else at_) (if e=0 then 4 else e)++R:=by
 refine dx Tryz.func347 rfl Tryz.ntmps347 rfl ?_
 have hh:=fun w hm=>uG (g:=g) hsa ht1 hd (B:=B) (cb:=cb) (out:=out) (at_:=at_) (e:=e) (A:=A) (cap:=cap) (w0:=w0) (H:=rB g sa A cap toks k B cb out at_ e++R) ⟨R,.refl _⟩ w hm
 unfold rB at hh ⊢
 repeat' (first|(apply ak;exact rfl;apply cL;exact rfl;exact rfl)|(apply aa (f:=197);exact rfl;exact rfl;exact hh)|(apply aw (f:=196);exact rfl;exact rfl;exact FnIn.msub (fk g sa A _ cap k B _ cb at_ e _ _ _ _) (MSub.pick .hd (.refl _));rintro _ _ ⟨rfl,rfl⟩)|refine sT ?_|refine sS ?_|refine sN ?_|refine sM fun _=> ?_|(refine sC ?_ ?_<;>intro hb<;>try omega)|fail)
 all_goals first
  |(exfalso;omega)
  |exact fM eIO rfl (.refl _) ⟨rfl,rfl⟩
end Go.SL
namespace Go.SL
open Go Go.Proofs
attribute [local irreducible] W WL WQ WG WA WX WLI WR WT VOp thn blk bF scp aR bk bJ aL FnIn FnP
theorem xv (fin:Int) (f:Nat) (p:PS) (h:(hdT fin p.l).kind=7):bq fin (f+1) .prim p=vU f (hdT fin p.l) fin p:=by
 rw [bq]
 dsimp only
 rw [if_neg (by omega),if_neg (by omega),if_neg (by omega),if_pos h]
 rfl
set_option maxHeartbeats 4000000 in
theorem DR (f:Nat) (ih: ∀ f' ≤f,POK f' (.level 1) 176 []):POK (f+1) .prim 335 []:=by
  intro toks A cap fin g p lv B cb r R w0 hc hl hat hrun
  refine vo Tryz.func335 rfl Tryz.ntmps335 rfl ?_
  obtain ⟨t,ht⟩: ∃ t,hdT fin p.l=t:=⟨_,rfl⟩
  have hh:=fun w hm=>At.head' (fin:=fin) (g:=g) (B:=B) (cb:=cb) (out:=p.out) (H:=pB g lv A cap fin toks B cb p.out++R) (w0:=w0) hat ht (MSub.pick .hd (.pick .hd (.pick .hd (.nil _)))) w hm
  by_cases h7:t.kind=7
  · rw [xv _ _ _ (by rw [ht];exact h7),ht] at hrun
    have hcl:=Nq f t ih toks A cap fin g p lv B cb r
    unfold zp at hcl
    rw [if_pos ⟨ht,h7⟩] at hcl
    repeat' (first|(apply aa (f:=177);exact rfl;exact rfl;exact hh)|(refine bH (f:=356) rfl rfl (FnP.msub (hcl _ w0 hc hl hat hrun) (MSub.pick pK (MSub.pick pK (MSub.pick pK (MSub.refl _))))) ?_ ?_)|(rintro _ _ ⟨rfl,n,p',lv',B',cb',rfl,h2,rfl⟩)|(rintro _ _ ⟨e,rfl,rfl,h3⟩)|refine sT ?_|refine sP ?_|refine sM fun _=> ?_|(refine sC ?_ ?_<;>intro hb<;>try omega)|fail)
    · refine dY (B' :=B') (cb' :=cb') (by first|exact .inr rfl|exact .inl rfl) rfl rfl h2 ?_
      simp only [Qy,Qm,Qn,pB]
      exact mS
    · exact cM rfl (MSub.trans (.drop .hd (.refl _)) h3)
  rw [bq] at hrun
  dsimp only at hrun
  rw [ht] at hrun
  by_cases h14:1≤t.kind∧t.kind≤4
  · rw [if_pos h14] at hrun
    cases hrun
    rcases (by omega:t.kind=1∨t.kind=2∨t.kind=3∨t.kind=4) with hk|hk|hk|hk
    · repeat' (first|(apply aa (f:=177);exact rfl;exact rfl;exact hh)|(refine bH (f:=354) rfl rfl (FnP.msub (pI ⟨1,t.num,av⟩ toks A cap fin g p _ B cb (.ok (0,p.skip.put (lN t))) _ w0 hc hl hat (by dsimp only;rw [if_neg (by rw [ht];omega)];simp [lN,hk])) (MSub.pick pK (MSub.pick pK (MSub.pick pK (MSub.refl _))))) ?_ ?_)|(rintro _ _ ⟨rfl,n,p',lv',B',cb',h,h2,rfl⟩)|(rintro _ _ ⟨e,h,rfl,h3⟩;cases h)|refine sT ?_|refine sP ?_|refine sM fun _=> ?_|(refine sC ?_ ?_<;>intro hb<;>try omega)|fail)
      all_goals first
        |(exfalso;omega)
        | (refine dY (B' := B') (cb' := cb') (by first | exact .inr rfl | exact .inl rfl) rfl h h2 ?_
           simp only [Qy,Qm,Qn,pB]
           exact mS)
    · repeat' (first|(apply aa (f:=177);exact rfl;exact rfl;exact hh)|(refine bH (f:=354) rfl rfl (FnP.msub (pI ⟨3,0,t.text⟩ toks A cap fin g p _ B cb (.ok (0,p.skip.put (lN t))) _ w0 hc hl hat (by dsimp only;rw [if_neg (by rw [ht];omega)];simp [lN,hk])) (MSub.pick pK (MSub.pick pK (MSub.pick pK (MSub.refl _))))) ?_ ?_)|(rintro _ _ ⟨rfl,n,p',lv',B',cb',h,h2,rfl⟩)|(rintro _ _ ⟨e,h,rfl,h3⟩;cases h)|refine sT ?_|refine sP ?_|refine sM fun _=> ?_|(refine sC ?_ ?_<;>intro hb<;>try omega)|fail)
      all_goals first
        |(exfalso;omega)
        | (refine dY (B' := B') (cb' := cb') (by first | exact .inr rfl | exact .inl rfl) rfl h h2 ?_
           simp only [Qy,Qm,Qn,pB]
           exact mS)
    · repeat' (first|(apply aa (f:=177);exact rfl;exact rfl;exact hh)|(refine bH (f:=354) rfl rfl (FnP.msub (pI ⟨2,t.num,av⟩ toks A cap fin g p _ B cb (.ok (0,p.skip.put (lN t))) _ w0 hc hl hat (by dsimp only;rw [if_neg (by rw [ht];omega)];simp [lN,hk])) (MSub.pick pK (MSub.pick pK (MSub.pick pK (MSub.refl _))))) ?_ ?_)|(rintro _ _ ⟨rfl,n,p',lv',B',cb',h,h2,rfl⟩)|(rintro _ _ ⟨e,h,rfl,h3⟩;cases h)|refine sT ?_|refine sP ?_|refine sM fun _=> ?_|(refine sC ?_ ?_<;>intro hb<;>try omega)|fail)
      all_goals first
        |(exfalso;omega)
        | (refine dY (B' := B') (cb' := cb') (by first | exact .inr rfl | exact .inl rfl) rfl h h2 ?_
           simp only [Qy,Qm,Qn,pB]
           exact mS)
    · repeat' (first|(apply aa (f:=177);exact rfl;exact rfl;exact hh)|(refine bH (f:=354) rfl rfl (FnP.msub (pI ⟨4,t.num,av⟩ toks A cap fin g p _ B cb (.ok (0,p.skip.put (lN t))) _ w0 hc hl hat (by dsimp only;rw [if_neg (by rw [ht];omega)];simp [lN,hk])) (MSub.pick pK (MSub.pick pK (MSub.pick pK (MSub.refl _))))) ?_ ?_)|(rintro _ _ ⟨rfl,n,p',lv',B',cb',h,h2,rfl⟩)|(rintro _ _ ⟨e,h,rfl,h3⟩;cases h)|refine sT ?_|refine sP ?_|refine sM fun _=> ?_|(refine sC ?_ ?_<;>intro hb<;>try omega)|fail)
      all_goals first
        |(exfalso;omega)
        | (refine dY (B' := B') (cb' := cb') (by first | exact .inr rfl | exact .inl rfl) rfl h h2 ?_
           simp only [Qy,Qm,Qn,pB]
           exact mS)
  rw [if_neg h14] at hrun
  by_cases h5:t.kind=5
  · rw [if_pos h5] at hrun
    cases hrun
    repeat' (first|(apply aa (f:=177);exact rfl;exact rfl;exact hh)|(apply aw (f:=275);exact rfl;exact rfl;exact hat.skip hc (c:=5) (by rw [ht];exact h5) (by decide) (MSub.pick pK (MSub.pick pK (MSub.pick pK (MSub.refl _))));rintro _ _ ⟨rfl,lv1,h1,rfl⟩)|(apply aw (f:=276);exact rfl;exact rfl;exact FnIn.msub (jW ⟨2,bG,t.rect,0,0,0⟩ _ _ _ _ _ _ _ _ _ (At.len hat hl) _ _) (MSub.pick pK (MSub.pick pK (MSub.pick pK (MSub.refl _))));rintro _ _ ⟨rfl,B3,cb3,rfl⟩)|refine sT ?_|refine sP ?_|refine sM fun _=> ?_|(refine sC ?_ ?_<;>intro hb<;>try omega)|fail)
    all_goals first
      |(exfalso;omega)
      | (refine dY (p' := p.skip.put ⟨2, bG, t.rect, 0, 0, 0⟩) (B' := B3) (cb' := cb3) (by first | exact .inr rfl | exact .inl rfl) rfl rfl (h1.put _) ?_
         simp only [Qy,Qm,Qn,pB]
         exact mS)
  rw [if_neg h5] at hrun
  by_cases h9:t.kind=9
  · rw [if_pos h9] at hrun
    obtain ⟨r1,hr1,hr2⟩:=bC hrun
    repeat' (first|(apply aa (f:=177);exact rfl;exact rfl;exact hh)|(apply aw (f:=275);exact rfl;exact rfl;exact hat.skip hc (c:=9) (by rw [ht];exact h9) (by decide) (MSub.pick pK (MSub.pick pK (MSub.pick pK (MSub.refl _))));rintro _ _ ⟨rfl,lv1,h1,rfl⟩)|(refine bH (f:=176) rfl rfl (FnP.msub (ih f (Qq _) toks A cap fin g p.skip _ B cb r1 _ w0 hc hl (At1.at h1) hr1) (MSub.pick pK (MSub.pick pK (MSub.pick pK (MSub.refl _))))) ?_ ?_)|(rintro _ _ ⟨rfl,n,p',lv',B',cb',rfl,h2,rfl⟩)|(rintro _ _ ⟨e,rfl,rfl,h3⟩)|(rcases hr2 with ⟨e,h,_⟩|⟨n1,p1,h,hw⟩;cases h;cases h;refine bH (f:=355) rfl rfl (FnP.msub (yz 10 (by decide) toks A cap fin g p' _ B' cb' r _ w0 hc hl h2 hw) (MSub.pick pK (MSub.pick pK (MSub.pick pK (MSub.refl _))))) ?_ ?_)|refine sT ?_|refine sP ?_|refine sM fun _=> ?_|(refine sC ?_ ?_<;>intro hb<;>try omega)|fail)
    · refine dY (B' :=B') (cb' :=cb') (by first|exact .inr rfl|exact .inl rfl) rfl rfl h2 ?_
      simp only [Qy,Qm,Qn,pB]
      exact mS
    · exact cM rfl (MSub.trans (.drop .hd (.refl _)) h3)
    · rcases hr2 with ⟨e',h,h5⟩|⟨n1,p1,h,h5⟩
      · cases h
        exact cM h5 (MSub.trans (.drop .hd (.refl _)) h3)
      · cases h
  rw [if_neg h9,if_neg h7] at hrun
  cases hrun
  repeat' (first|(apply aa (f:=177);exact rfl;exact rfl;exact hh)|(refine bH (f:=178) rfl rfl (iP _ _ _ _ _ (fun _ _=>False)) ?_ ?_)|(exact fun _ _ h=>h.elim)|(rintro _ _ ⟨rfl,rfl⟩)|refine sT ?_|refine sP ?_|refine sM fun _=> ?_|(refine sC ?_ ?_<;>intro hb<;>try omega)|fail)
  all_goals first
    |(exfalso;omega)
    | (refine cM rfl ?_
       simp only [Qy,Qm,Qn,pB]
       exact mS)
theorem G8 (f:Nat):(∀ k:Int,1≤k→k≤4→POK f (.level k) 226 [.int .i64 k])∧POK f .sign 272 []∧POK f .pct 304 []∧POK f .prim 335 []∧POK f (.level 1) 176 []:=by
 induction f using Nat.strongRecOn with
 |_ f ih=>
  cases f with
  |zero=>
   refine ⟨fun k _ _=> ?_,?_,?_,?_,?_⟩
   all_goals exact fun toks A cap fin g p lv B cb r R w0 hc hl hat h=>by cases h
  |succ f=>
   have hL: ∀ k:Int,1≤k→k≤4→POK (f+1) (.level k) 226 [.int .i64 k]:=fun k h1 h4=>
    Ko f k h1 h4 (fun h3 f' hf' =>(ih f' (by omega)).1 (k+1) (by omega) (by omega)) (fun f' hf' =>(ih f' (by omega)).2.1)
   refine ⟨hL,Mp f (ih f (by omega)).2.1 (ih f (by omega)).2.2.1,DU f (ih f (by omega)).2.2.2.1,DR f (fun f' hf' =>(ih f' (by omega)).2.2.2.2),Er (f+1) (hL 1 (by omega) (by omega))⟩
end Go.SL
namespace Go.SL
open Go Go.Proofs
attribute [local irreducible] W WL WQ WG WA WX WLI WR WT VOp thn blk bF scp aR bJ aL FnIn
def gA (l:List Int):Option (Tk × Nat):=
 if bS (l.headD 0)=false then none
 else if (l.drop (aD cJ l)).headD 0=40 then some (⟨7,0,mkB (upW l),aM,0⟩,aD cJ l)
 else if mkB (upW l)=mh then some (⟨3,1,av,aM,0⟩,aD cJ l)
 else if mkB (upW l)=kC then some (⟨3,0,av,aM,0⟩,aD cJ l)
 else if (cj (upW l)).2.2≠0 then none
 else if (l.drop (aD cJ l)).headD 0=58∧bS ((l.drop (aD cJ l+1)).headD 0)=true∧(cj (upW (l.drop (aD cJ l+1)))).2.2=0∧(l.drop (aD cJ l+1+aD cJ (l.drop (aD cJ l+1)))).headD 0≠40 then
  some (⟨if (cj (upW l)).1=(cj (upW (l.drop (aD cJ l+1)))).1∧(cj (upW l)).2.1=(cj (upW (l.drop (aD cJ l+1)))).2.1 then 5 else 6,0,av,
   ⟨min (cj (upW l)).1 (cj (upW (l.drop (aD cJ l+1)))).1,min (cj (upW l)).2.1 (cj (upW (l.drop (aD cJ l+1)))).2.1,max (cj (upW l)).1 (cj (upW (l.drop (aD cJ l+1)))).1,max (cj (upW l)).2.1 (cj (upW (l.drop (aD cJ l+1)))).2.1⟩,0⟩,aD cJ l+1+aD cJ (l.drop (aD cJ l+1)))
 else some (⟨5,0,av,Bw (cj (upW l)).1 (cj (upW l)).2.1,0⟩,aD cJ l)
theorem fG (a b:Int):(if b<a then b else a)=min a b:=by omega
theorem fH (a b:Int):(if a<b then b else a)=max a b:=by omega
theorem CD (l:List Int) (hl:gQ l) (hlen:l.length≤100000) (w:World):ay Tryz.prog 266 [.string (mkB l)] w (.tuple #[.agg (bf ⟨(cj l).1,(cj l).2.1⟩).toArray,.int .i64 (cj l).2.2]):=by
 have h:=zy (mkB l) (by rw [mM];exact hlen) w
 rw [mW hl,Lm] at h
 exact h
set_option maxHeartbeats 2000000 in
theorem LJ (a:ByteArray) (ha:a.size≤10000) (i:Nat) (hi:i<a.size) (g:Nat) (w:World) (hr:Ro w g 0 [.string a]):
  ay Tryz.prog 223 [.pointer (some ⟨g,0,none⟩),.int .i64 (i:Int)] w (Dp (atT i (gA ((ap a).drop i)))):=by
 refine aq Tryz.func223 rfl Tryz.ntmps223 rfl ?_
 have hl:=au a
 have hP1:=fun w' h=>Bj a (by omega) i (by omega) g w' h
 have hwl:=bU cJ ((ap a).drop i)
 have hul:=uh ((ap a).drop i)
 have huk:gQ (upW ((ap a).drop i)):=Jq fun c hc=>lQ a c (SA hc)
 rw [Qz] at hwl
 have hW:gA ((ap a).drop i)=gA ((ap a).drop i):=rfl
 unfold gA at hW ⊢
 clear hW
 rw [lf]
 simp only [RN]
 generalize hn:aD cJ ((ap a).drop i)=n at*
 generalize hu:upW ((ap a).drop i)=u at*
 rw [lf]
 have hus:(mkB u).size=n:=by rw [mM,hul]
 have hA1:=CD u huk (by omega)
 generalize hau:cj u=A1 at hA1
 obtain ⟨c1,r1,e1⟩:=A1
 dsimp only at hA1 ⊢
 have hN1:=fun w' h=>y5 a (by omega) (i+n) g w' h
 have hN2:=fun w' h=>y5 a (by omega) (i+n+1) g w' h
 have hb1l:bat a (i+n)≠0→i+n<a.size:=fun h=>by
  rcases Sf (i+n) a.size with h1|h1
  ·
   exact h1
  ·
   exfalso;apply h;rw [bat,QI,RP (by omega)];rfl
 generalize hb1:bat a (i+n)=b1 at hN1 hb1l
 rw [show i+(n+1)=i+n+1 by omega]
 have hvl:=uh ((ap a).drop (i+n+1))
 have hvk:gQ (upW ((ap a).drop (i+n+1))):=Jq fun c hc=>lQ a c (SA hc)
 have hvr:=bU cJ ((ap a).drop (i+n+1))
 rw [Qz] at hvr
 have hP2:=fun w' hi h=>Bj a (by omega) (i+n+1) hi g w' h
 generalize hm:aD cJ ((ap a).drop (i+n+1))=m at*
 generalize hv:upW ((ap a).drop (i+n+1))=v at*
 rw [lf,lf]
 have hvs:(mkB v).size=m:=by rw [mM,hvl]
 have hA2:=CD v hvk (by omega)
 generalize hav:cj v=A2 at hA2
 obtain ⟨c2,r2,e2⟩:=A2
 dsimp only at hA2 ⊢
 rw [show i+(n+1+m)=i+n+1+m by omega]
 have hN3:=fun w' h=>y5 a (by omega) (i+n+1+m) g w' h
 generalize hb2:bat a (i+n+1)=b2 at hN2
 generalize hb3:bat a (i+n+1+m)=b3 at hN3
 repeat' (first|(apply ak;exact rfl;apply aI (o:=0) (off:=0);exact hr;exact rfl;exact rfl)|(apply aa;exact rfl;exact rfl;(intro w hm;exact qd _ w))|(apply ak (d:=28);exact rfl;apply qI;exact rfl;exact hus)|(apply ak (d:=90);exact rfl;apply qI;exact rfl;exact hvs)|(apply ak (d:=126);exact rfl;apply qI;exact rfl;exact hvs)|(apply aa (d:=26);exact rfl;exact rfl;(intro w' hm;exact hP1 w' (hr.next hm)))|(apply aa (d:=77);exact rfl;exact rfl;(intro w' hm;exact hP2 w' (hb1l (by omega)) (hr.next hm)))|(apply aa (d:=34);exact rfl;exact rfl;(intro w' hm;exact hN1 w' (hr.next hm)))|(apply aa (d:=65);exact rfl;exact rfl;(intro w' hm;exact hN1 w' (hr.next hm)))|(apply aa (d:=71);exact rfl;exact rfl;(intro w' hm;exact hN2 w' (hr.next hm)))|(apply aa (d:=92);exact rfl;exact rfl;(intro w' hm;exact hN3 w' (hr.next hm)))|(apply aa;exact rfl;exact rfl;(intro w hm;exact hA1 w))|(apply aa;exact rfl;exact rfl;(intro w hm;exact hA2 w))|(apply ak (d:=99);exact rfl;exact fG _ _ ▸ iN rfl rfl)|(apply ak (d:=104);exact rfl;exact fG _ _ ▸ iN rfl rfl)|(apply ak (d:=109);exact rfl;exact fH _ _ ▸ gR rfl rfl)|(apply ak (d:=114);exact rfl;exact fH _ _ ▸ gR rfl rfl)|(apply ak (d:=118);exact rfl;exact Om (a:=⟨c1,r1⟩) (b:=⟨c2,r2⟩) rfl rfl)|(apply aa;exact rfl;exact rfl;(intro w hm;exact Pe ⟨c1,r1⟩ w))|refine sT ?_|refine sT2 ?_|refine sN ?_|refine sM fun _=> ?_|(refine sC ?_ ?_<;>intro hb<;>try omega)|fail)
 all_goals
  (refine eJ ?_)
  simp_all [mh,kC,Dp,atT,ba,bf,aM,av,Bw,eqF,bK,cV]
end Go.SL
namespace Go.SL
open Go Go.Proofs
attribute [local irreducible] W WL WQ WG WA WX WLI WR WT VOp RW thn blk bF scp aR bk bJ aL FnIn FnP
def jL (a b:ByteArray):ByteArray × Bool:=if (ap a).take b.size=ap b then (sub a b.size a.size,true) else (a,false)
theorem Na (a b:ByteArray) (ha:a.size≤1000000) (w:World):ay Tryz.prog 163 [.string a,.string b] w (.tuple #[.string (jL a b).1,.bool (jL a b).2]):=by
 refine aq Tryz.func163 rfl Tryz.ntmps163 rfl ?_
 have hp:=oG a b
 unfold jL
 by_cases h:(ap a).take b.size=ap b
 ·
  rw [if_pos h]
  rw [decide_eq_true h] at hp
  have hb:b.size≤a.size:=by
   have:=congrArg List.length h
   rw [QD,au,au] at this
   omega
  repeat' (first|(apply aa;exact rfl;exact rfl;(intro w hm;exact hp w))|refine sT ?_|refine sT2 ?_|refine sM fun _=> ?_|(refine sC ?_ ?_<;>intro hb<;>try omega)|fail)
  all_goals exact eR eIO rfl rfl rfl (.refl _) rfl
 ·
  rw [if_neg h]
  rw [decide_eq_false h] at hp
  repeat' (first|(apply aa;exact rfl;exact rfl;(intro w hm;exact hp w))|refine sT ?_|refine sT2 ?_|refine sM fun _=> ?_|(refine sC ?_ ?_<;>intro hb<;>try omega)|fail)
  all_goals exact eR eIO rfl rfl rfl (.refl _) rfl
theorem K0 (a b:ByteArray) (ha:a.size≤1000000) (w:World):ay Tryz.prog 137 [.string a,.string b] w (.tuple #[.string (jL a b).1,.bool (jL a b).2]):=by
 refine aq Tryz.func137 rfl Tryz.ntmps137 rfl ?_
 repeat' (first|(apply aa;exact rfl;exact rfl;(intro w hm;exact Na a b ha w))|refine sT ?_|refine sM fun _=> ?_|(refine sC ?_ ?_<;>intro hb<;>try omega)|fail)
 all_goals exact eR eIO rfl rfl rfl (.refl _) rfl
def Mk (b:ByteArray):Vl × Bool:=(bG,decide (b=av))
def uH:ByteArray:=⟨#[39]⟩
def Mi (b:ByteArray):Vl × Bool:=(⟨3,0,(jL b uH).1⟩,(jL b uH).2)
def Ju (b:ByteArray):Vl × Bool:=(iD ⟨3,0,b⟩,decide ((iD ⟨3,0,b⟩).kind=2))
def Di (b:ByteArray):Vl × Bool:=(fP (gU b).1,decide ((gU b).2=0) && decide ((gU b).1≤5))
def Gw (b:ByteArray):Vl × Bool:=if (fY (ap b)).2=3 then (fP 3,true) else (uU (fY (ap b)).1,decide ((fY (ap b)).2=0))
def z8 (x:Vl × Bool):Value:= .tuple #[.agg (dr x.1).toArray,.bool x.2]
theorem Mj (b:ByteArray) (g:Nat) (w:World) (hr:Ro w g 0 [.string b]):ay Tryz.prog 164 [.pointer (some ⟨g,0,none⟩)] w (z8 (Mk b)):=by
 refine aq Tryz.func164 rfl Tryz.ntmps164 rfl ?_
 have hm:Mem w w []:=Mem.refl w
 repeat' (first|(rename_i g1;refine nF (id:=1) 3 [.box g1 127 (dr bG)] (by kernel_rfl) (by kernel_rfl) rfl ?_)|(apply CY;exact rfl;(intro D ht;apply aI (o:=0) (off:=0);exact hr;exact rfl;exact rfl);exact fun _=>rfl)|(apply l6;exact rfl;exact rfl;exact pK;(iterate 3 exact rfl);decide;exact .refl _)|refine sT ?_|refine sG ?_|refine sM fun _=> ?_|(refine sC ?_ ?_<;>intro hb<;>try omega)|fail)
 all_goals ((refine eJ ?_);rfl)
theorem Mh (b:ByteArray) (hb:b.size≤1000000) (g:Nat) (w:World) (hr:Ro w g 0 [.string b]):ay Tryz.prog 165 [.pointer (some ⟨g,0,none⟩)] w (z8 (Mi b)):=by
 refine aq Tryz.func165 rfl Tryz.ntmps165 rfl ?_
 repeat' (first|(apply ak;exact rfl;apply aI (o:=0) (off:=0);exact hr;exact rfl;exact rfl)|(apply aa;exact rfl;exact rfl;(intro w hm;exact K0 b uH hb w))|refine sT ?_|refine sM fun _=> ?_|(refine sC ?_ ?_<;>intro hb<;>try omega)|fail)
 all_goals ((refine eJ ?_);rfl)
theorem Mg (b:ByteArray) (hb:b.size≤1000000) (g:Nat) (w:World) (hr:Ro w g 0 [.string b]):ay Tryz.prog 166 [.pointer (some ⟨g,0,none⟩)] w (z8 (Ju b)):=by
 refine aq Tryz.func166 rfl Tryz.ntmps166 rfl ?_
 have hT:=fun w' =>ID ⟨3,0,b⟩ rfl hb w'
 unfold Ju
 generalize iD ⟨3,0,b⟩=v at hT
 repeat' (first|(apply ak;exact rfl;apply aI (o:=0) (off:=0);exact hr;exact rfl;exact rfl)|(apply aa;exact rfl;exact rfl;(intro w hm;exact hT w))|(rename_i g1 g2;refine sY (id:=2) (g:=g1) (T:=127) (xs' :=dr v) (R:= [.box g2 127 (dr v)]) (fun D=> [if D 4 then .int .u8 v.kind else .int .u8 0,if D 4 then .int .i64 v.num else .int .i64 0,if D 4 then .string v.text else .string av]) (by kernel_rfl) (by kernel_rfl) pK rfl (by intro D hD;simp [hD 4 (by decide),dr]) ?_)|refine sT ?_|refine sG ?_|refine sM fun _=> ?_|(refine sC ?_ ?_<;>intro hb<;>try omega)|fail)
 all_goals ((refine eJ ?_);rfl)
theorem Mf (b:ByteArray) (hb:b.size≤1000000) (g:Nat) (w:World) (hr:Ro w g 0 [.string b]) (hW:Words w):ay Tryz.prog 168 [.pointer (some ⟨g,0,none⟩)] w (z8 (Di b)):=by
 refine aq Tryz.func168 rfl Tryz.ntmps168 rfl ?_
 unfold Di
 have hC:=fun (w' :World) (h:Words w')=>ND b hb w' h
 generalize gU b=x at hC
 obtain ⟨c,e⟩:=x
 repeat' (first|(apply ak;exact rfl;apply aI (o:=0) (off:=0);exact hr;exact rfl;exact rfl)|(apply aa (f:=169);exact rfl;exact rfl;(intro w' hm';exact hC w' (hW.next hm')))|(apply aa (f:=170);exact rfl;exact rfl;(intro w' hm';exact lV c w'))|refine sT ?_|refine sM fun _=> ?_|(refine sC ?_ ?_<;>intro hb<;>try omega)|fail)
 all_goals ((refine eJ ?_);simp_all [z8,dr])
theorem Me (b:ByteArray) (hb:b.size≤1000000) (g:Nat) (w:World) (hr:Ro w g 0 [.string b]):ay Tryz.prog 171 [.pointer (some ⟨g,0,none⟩)] w (z8 (Gw b)):=by
 refine aq Tryz.func171 rfl Tryz.ntmps171 rfl ?_
 unfold Gw
 have hC:=fun (w' :World)=>rR b hb w'
 generalize fY (ap b)=x at hC
 obtain ⟨n,e⟩:=x
 repeat' (first|(apply ak;exact rfl;apply aI (o:=0) (off:=0);exact hr;exact rfl;exact rfl)|(apply aa;exact rfl;exact rfl;(intro w hm;exact hC w))|(apply aa (f:=170);exact rfl;exact rfl;(intro w' hm';exact lV 3 w'))|(apply aa (f:=173);exact rfl;exact rfl;(intro w' hm';exact NC n w'))|refine sT ?_|refine sM fun _=> ?_|(refine sC ?_ ?_<;>intro hb<;>try omega)|fail)
 all_goals ((refine eJ ?_);simp_all [z8,dr])
def FX:List Nat:= [164,165,166,168,171]
def uj:List (ByteArray→Vl × Bool):= [Mk,Mi,Ju,Di,Gw]
def eC (b:ByteArray):List (ByteArray→Vl × Bool)→Vl
 | []=>⟨3,0,b⟩
 |t::r=>if (t b).2 then (t b).1 else eC b r
def q9 (b:ByteArray):Vl:=eC b uj
theorem Jw (b:ByteArray) (hb:b.size≤1000000) (g k:Nat) (hk:k<5): ∃ f t,uj.drop k=t::uj.drop (k+1)∧(FX.map fun f=>Value.func (.func f) #[] #[.pointer (some ⟨g,0,none⟩)])[k]? =some (.func (.func f) #[] #[.pointer (some ⟨g,0,none⟩)])∧Callable Tryz.prog f∧
  ∀ w,Ro w g 0 [.string b]→Words w→ay Tryz.prog f [.pointer (some ⟨g,0,none⟩)] w (z8 (t b)):=by
 rcases (by omega:k=0∨k=1∨k=2∨k=3∨k=4) with rfl|rfl|rfl|rfl|rfl
 ·
  exact ⟨_,_,rfl,rfl,inferInstance,fun w hr _=>Mj b g w hr⟩
 ·
  exact ⟨_,_,rfl,rfl,inferInstance,fun w hr _=>Mh b hb g w hr⟩
 ·
  exact ⟨_,_,rfl,rfl,inferInstance,fun w hr _=>Mg b hb g w hr⟩
 ·
  exact ⟨_,_,rfl,rfl,inferInstance,fun w hr hW=>Mf b hb g w hr hW⟩
 ·
  exact ⟨_,_,rfl,rfl,inferInstance,fun w hr _=>Me b hb g w hr⟩
set_option maxHeartbeats 1000000 in
theorem Cr (b:ByteArray) (hb:b.size≤1000000) (w:World) (hW:Words w):ay Tryz.prog 138 [.string b] w (.agg (dr (q9 b)).toArray):=by
 refine aq Tryz.func138 rfl Tryz.ntmps138 rfl ?_
 repeat' (first|refine sT ?_|refine sS ?_|refine sM fun _=> ?_|(refine sC ?_ ?_<;>intro hb<;>try omega)|fail)
 rename_i g1 g2 g3
 refine ax [1,2,13,14] rfl (fun x:Nat × Vl=> [(4,.bool false),(15,.int .i64 (x.1:Int))]) (fun x=> [.own (some g3) 212 1 5 5 (FX.map fun f=>Value.func (.func f) #[] #[.pointer (some ⟨g1,0,none⟩)]),.box g2 127 (dr x.2),.box g1 9 [.string b]]) (fun x=>x.1≤5∧q9 b=eC b (uj.drop x.1)) (fun x=>5 - x.1) (0,bG) ⟨by omega,rfl⟩ sB mS ?_
 rintro ⟨k,v⟩ ⟨hk,hkt⟩
 dsimp only at hk hkt ⊢
 by_cases hk5:k<5
 ·
  obtain ⟨f,t,r1,r2,r3,r4⟩:=Jw b hb g1 k hk5
  rw [r1,eC] at hkt
  obtain ⟨⟨v',is⟩,ht⟩: ∃ x,t b=x:=⟨_,rfl⟩
  rw [ht] at hkt r4
  cases is with
  |true=>
   rw [if_pos rfl] at hkt
   repeat' (first|(apply ak;exact rfl;apply aj (j:=k);exact rfl;exact rfl;exact hk5)|(apply ak;exact rfl;apply bD (off:=0+k*1);exact rfl;exact pK;(rw [QG,Sy];exact r2))|(apply bL;exact rfl;exact rfl;exact r3;exact rfl;(intro w' hm;exact r4 w' (Ro.of_box hm pK) (hW.next hm)))|refine sT ?_|refine sS ?_|refine sN ?_|refine sM fun _=> ?_|(refine sC ?_ ?_<;>intro hb<;>try omega)|fail)
   all_goals (rw [hkt];(refine eRC ?_);rfl)
  |false=>
   rw [if_neg (by simp)] at hkt
   repeat' (first|(apply ak;exact rfl;apply aj (j:=k);exact rfl;exact rfl;exact hk5)|(apply ak;exact rfl;apply bD (off:=0+k*1);exact rfl;exact pK;(rw [QG,Sy];exact r2))|(apply bL;exact rfl;exact rfl;exact r3;exact rfl;(intro w' hm;exact r4 w' (Ro.of_box hm pK) (hW.next hm)))|refine sT ?_|refine sS ?_|refine sN ?_|refine sM fun _=> ?_|(refine sC ?_ ?_<;>intro hb<;>try omega)|fail)
   refine ⟨(k+1,v'),?_,(by first|omega|(dsimp only;omega)),sB,sB,mS⟩
   exact ⟨hk5,hkt⟩
 ·
  have e:k=5:=by omega
  subst e
  have hkt:q9 b=⟨3,0,b⟩:=hkt
  rw [hkt]
  repeat' (first|refine sT ?_|refine sS ?_|refine sN ?_|refine sM fun _=> ?_|(refine sC ?_ ?_<;>intro hb<;>try omega)|fail)
  all_goals first|(exfalso;omega)|((refine eRC ?_);rfl)
end Go.SL
namespace Go.SL
open Go
def vN (b:ByteArray):Vl:=
 if b=av then bG
 else if (ap b).headD 0=39 then ⟨3,0,mkB (ap b).tail⟩
 else if upB b=mh∨upB b=kC then lz (decide (upB b=mh))
 else if (gU b).2=0∧(gU b).1<6 then fP (gU b).1
 else if (fY (ap b)).2=0 then uU (fY (ap b)).1
 else if (fY (ap b)).2=3 then fP 3
 else ⟨3,0,b⟩
theorem H5 {b:ByteArray} (hg:gO b=0):q9 b=vN b:=by
 have hT:mh≠kC:=by decide
 have h3:Ju b=if upB b=mh then (lz true,true) else if upB b=kC then (lz false,true) else (fP 2,false):=by
  have hv:oS ⟨3,0,b⟩=0:=by simp [oS,tQ,hg]
  simp only [Ju,iD,hv,if_true,y6]
  split
  ·
   rfl
  ·
   split<;>rfl
 have h2:Mi b=if (ap b).headD 0=39 then (⟨3,0,mkB (ap b).tail⟩,true) else (⟨3,0,b⟩,false):=by
  have hq:ap uH= [39]:=rfl
  have hs:uH.size=1:=rfl
  simp only [Mi,jL,hq,hs]
  cases hi:ap b with
  |nil=>simp
  |cons c r=>
   simp only [RA,RI,List.cons.injEq,and_true,RT,List.tail_cons]
   by_cases hc:c=39
   ·
    have hsz:b.size=(c::r).length:=by rw [← hi,au]
    have:sub b 1 b.size=mkB r:=by
     refine Kg ?_
     rw [dP,hi,hsz]
     simp
    simp only [hc,if_true,this]
   ·
    simp only [hc,if_false]
 have hgen: ∀ (p:Prop) [Decidable p] (x y z:Vl),(if (if p then (x,true) else (y,false)).2=true then (if p then (x,true) else (y,false)).1 else z)=if p then x else z:=by
  intro p _ x y z
  split<;>simp
 unfold q9 uj eC eC eC eC eC eC vN
 have e1:(Mk b).2=decide (b=av):=rfl
 rw [e1,h2,h3]
 by_cases c1:b=av
 ·
  simp [c1,Mk]
 ·
  rw [if_neg (by simpa using c1),if_neg c1]
  by_cases c2:(ap b).headD 0=39
  ·
   simp only [c2,if_true]
  ·
   simp only [c2,if_false,QZ]
   by_cases c3:upB b=mh
   ·
    simp [c3]
   ·
    by_cases c4:upB b=kC
    ·
     simp [c4,hT.symm]
    ·
     simp only [c3,c4,if_false,or_self,QZ]
     by_cases c5:(gU b).2=0∧(gU b).1<6
     ·
      have:(Di b).2=true:=by simp only [Di,c5.1,decide_true,QS,decide_eq_true_eq];omega
      rw [if_pos this,if_pos c5];rfl
     ·
      have:(Di b).2=false:=by
       simp only [Di,RF,decide_eq_false_iff_not]
       by_cases h:(gU b).2=0
       ·
        right;intro h';exact c5 ⟨h,by omega⟩
       ·
        left;exact h
      rw [if_neg (by simp [this]),if_neg c5]
      by_cases c6:(fY (ap b)).2=0
      ·
       simp [Gw,c6]
      ·
       by_cases c7:(fY (ap b)).2=3
       ·
        simp [Gw,c7]
       ·
        simp [Gw,c6,c7]
end Go.SL

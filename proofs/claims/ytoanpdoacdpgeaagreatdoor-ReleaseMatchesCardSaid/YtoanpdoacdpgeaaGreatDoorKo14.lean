/-
  Lemmas and walks, put together: B2 C5 Q1 C6.
-/
import Derived.Test.YtoanpdoacdpgeaaGreatDoorKo11
set_option linter.unusedSimpArgs false
set_option linter.unusedVariables false
set_option maxRecDepth 20000
namespace Go.SL
open Go Go.Proofs
attribute [local irreducible] W WL WQ WG WA WX WLI WR WT VOp thn blk bp scp aR bE aF FnIn
def EY:Option (Tk × Nat)→Value
 |some (t,n)=> .tuple #[.agg (bi t).toArray,.int .i64 (n:Int)]
 |none=> .tuple #[.agg (bi dl).toArray,.int .i64 0]
def atT (i:Nat) (o:Option (Tk × Nat)):Option (Tk × Nat):=o.map fun x=>({ x.1 with at_:=(i:Int) },x.2)
def fR (l:List Int):Option (Tk × Nat):=
 let w:=aD aG l
 let p:=bZ (l.drop w)
 let n:=if p=0 then w else w+1+p
 if w=0∨4<p then none
 else if (gQ (l.take n)).2≠0 then none else some (⟨1,(gQ (l.take n)).1,av,aN,0⟩,n)
theorem nQ {c:Int} {r:List Int} (h:c=46):bZ (c::r)=aD aG r:=by subst h;rfl
theorem mF {c:Int} {r:List Int} (h:c≠46):bZ (c::r)=0:=by
 unfold bZ
 split
 ·
  rename_i heq;injection heq with h1 h2;exact absurd h1 h
 ·
  rfl
set_option maxHeartbeats 1000000 in
theorem Je (a:ByteArray) (ha:a.size≤100000) (i:Nat) (hi:i≤a.size) (g:Nat) (w:World) (hr:Ro w g 0 [.string a]):
  aA Tryz.prog 221 [.pointer (some ⟨g,0,none⟩),.int .i64 (i:Int)] w (EY (atT i (fR ((ap a).drop i)))):=by
 refine aq Tryz.func221 rfl Tryz.ntmps221 rfl ?_
 have hl:=au a
 have hL1:=tj a (by omega) i hi 261 aG kT
 have hwl:=bY aG ((ap a).drop i)
 rw [RC] at hwl
 generalize hw:aD aG ((ap a).drop i)=n at hL1 hwl
 generalize hpd:bZ ((ap a).drop (i+n))=p
 have hN:fR ((ap a).drop i)=if n=0∨4<p then none else if (gQ (((ap a).drop i).take (if p=0 then n else n+1+p))).2≠0 then none else some (⟨1,(gQ (((ap a).drop i).take (if p=0 then n else n+1+p))).1,av,aN,0⟩,if p=0 then n else n+1+p):=by
  simp only [fR,hw,SH,hpd]
 rw [hN]
 have hL2:=fun h=>tj a (by omega) (i+n+1) h 261 aG kT
 have hcut: ∀ m,ap (sub a i (i+m))=((ap a).drop i).take m:=fun m=>by rw [eM,show i+m - i=m by omega]
 have hple:p≤a.size - (i+n) - 1:=by
  rw [← hpd]
  by_cases h:i+n<a.size
  ·
   rw [bk h]
   by_cases h46:bat a (i+n)=46
   ·
    rw [nQ h46]
    have:=bY aG ((ap a).drop (i+n+1))
    rw [RC] at this
    omega
   ·
    rw [mF h46];omega
  ·
   rw [RE (by omega)];simp [bZ]
 have hend: ∀ h:i+n+1<a.size,bat a (i+n)=46→(p=aD aG ((ap a).drop (i+n+1))):=fun h h46=>by
  rw [← hpd,bk (by omega),nQ h46]
 have hno: ¬ (i+n+1<a.size∧bat a (i+n)=46∧aG (bat a (i+n+1))=true)→p=0:=fun h=>by
  by_cases h1:i+n<a.size
  ·
   by_cases h46:bat a (i+n)=46
   ·
    by_cases h2:i+n+1<a.size
    ·
     rw [hend h2 h46,bk h2,aD,if_neg fun h3=>h ⟨h2,h46,h3⟩]
    ·
     rw [← hpd,bk h1,nQ h46,RE (by omega)];rfl
   ·
    rw [← hpd,bk h1,mF h46]
  ·
   rw [← hpd,RE (by omega)];rfl
 have hyes:i+n+1<a.size→bat a (i+n)=46→aG (bat a (i+n+1))=true→0<p:=fun h h46 h3=>by
  rw [hend h h46,bk h,aD,if_pos h3];omega
 repeat' (first|(apply ak;exact rfl;apply aL (o:=0) (off:=0);exact hr;exact rfl;exact rfl)|(apply aa;exact rfl;exact rfl;(intro w hm;exact hL1 w))|(apply aa;exact rfl;exact rfl;(intro w hm;exact kT _ w))|(refine GR (id:=7) [0,1,4] rfl (ι:=Nat × Nat) (fun x=> [(7,.int .i64 (x.1:Int)),(5,.int .i64 (x.2:Int))]) (fun x=>x.1=p∧x.2=if p=0 then n else n+1+p) ?_ ?_)|(apply aa;exact rfl;exact rfl;(intro w hm;exact hL2 (by omega) w))|refine sT ?_|refine sT2 ?_|refine sN ?_|refine sM fun _=> ?_|(refine sC ?_ ?_<;>intro hb<;>try omega)|exact cT|fail)
 ·
  (refine jb ?_)
  rw [if_pos (.inl (by omega))];rfl
 ·
  rename_i h1 h2 h3
  refine cG ((aD aG ((ap a).drop (i+n+1)),n+(1+aD aG ((ap a).drop (i+n+1))))) ?_ sB mS
  have h5:=hyes (by omega) h3 hb
  have h6:=hend (by omega) h3
  rw [← h6]
  exact ⟨rfl,by rw [if_neg (by omega)];omega⟩
 ·
  rename_i h1 h2 h3
  refine cG ((0,n)) ?_ sB mS
  have:=hno fun h=>by rw [hb] at h;cases h.2.2
  exact ⟨this.symm,by rw [if_pos this]⟩
 ·
  refine cG ((0,n)) ?_ sB mS
  have:=hno fun h=>hb h.2.1
  exact ⟨this.symm,by rw [if_pos this]⟩
 ·
  refine cG ((0,n)) ?_ sB mS
  have:=hno fun h=>by omega
  exact ⟨this.symm,by rw [if_pos this]⟩
 rintro ⟨p',m⟩ ⟨rfl,hm⟩
 have hn0:n≠0:=by omega
 dsimp only at hm ⊢
 rw [← hm]
 by_cases h4:4<p'
 ·
  rw [if_pos (.inr h4)]
  repeat' (first|refine sT ?_|refine sT2 ?_|refine sM fun _=> ?_|(refine sC ?_ ?_<;>intro hb<;>try omega)|exact cT|fail)
  all_goals first|(exfalso;omega)|((refine jb ?_);rfl)
 ·
  rw [if_neg (by omega)]
  have him:i+m≤a.size:=by rw [hm];split<;>omega
  have hP:=uu (sub a i (i+m)) (by rw [cw _ him];omega)
  rw [hcut m] at hP
  generalize gQ (((ap a).drop i).take m)=q at hP
  repeat' (first|(apply ak;exact rfl;apply aL (o:=0) (off:=0);exact hr;exact rfl;exact rfl)|(apply aa;exact rfl;exact rfl;(intro w hm;exact hP w))|refine sT ?_|refine sT2 ?_|refine sN ?_|refine sM fun _=> ?_|(refine sC ?_ ?_<;>intro hb<;>try omega)|exact cT|fail)
  ·
   (refine jb ?_)
   rw [if_pos hb];rfl
  ·
   (refine jb ?_)
   rw [if_neg hb];rfl
theorem l4 (a:ByteArray) (j:Nat):((ap a).drop j).headD 0=bat a j:=by
 rw [bat,List.headD_eq_head?_getD,List.head?_drop,RD]
theorem AB (a:ByteArray) (ha:a.size≤100000) (j:Nat) (g:Nat) (w:World) (hr:Ro w g 0 [.string a]):
  aA Tryz.prog 265 [.pointer (some ⟨g,0,none⟩),.int .i64 (j:Int)] w (.int .u8 (bat a j)):=by
 refine aq Tryz.func265 rfl Tryz.ntmps265 rfl ?_
 have hl:=au a
 repeat' (first|(apply ak;exact rfl;apply aL (o:=0) (off:=0);exact hr;exact rfl;exact rfl)|refine sT ?_|refine sT2 ?_|refine sN ?_|refine sM fun _=> ?_|(refine sC ?_ ?_<;>intro hb<;>try omega)|exact cT|fail)
 ·
  (refine rT1 ?_)
  rfl
 ·
  (refine rT1 ?_)
  have e:bat a j=0:=by rw [bat,RD,SB (by omega)];rfl
  rw [e]
def upW (l:List Int):List Int:=(l.take (aD cV l)).map upC
theorem vM (l:List Int):(upW l).length=aD cV l:=by
 have:=bY cV l
 simp [upW];omega
theorem KF {l:List Int} (h:iC l):iC (upW l):=by
 intro c hc
 obtain ⟨d,hd,rfl⟩:=RG.1 hc
 have:=h d (Sy hd)
 unfold upC
 split<;>omega
theorem CQ (a:ByteArray) (ha:a.size≤100000) (i:Nat) (hi:i≤a.size) (g:Nat) (w:World) (hr:Ro w g 0 [.string a]):
  aA Tryz.prog 264 [.pointer (some ⟨g,0,none⟩),.int .i64 (i:Int)] w (.string (mkB (upW ((ap a).drop i)))):=by
 refine aq Tryz.func264 rfl Tryz.ntmps264 rfl ?_
 have hl:=au a
 have hL:=tj a (by omega) i hi 300 cV Ji
 have hwl:=bY cV ((ap a).drop i)
 rw [RC] at hwl
 unfold upW
 generalize aD cV ((ap a).drop i)=n at hL hwl
 have hU:=si (sub a i (i+n)) (by rw [cw _ (by omega)];omega)
 have e:upB (sub a i (i+n))=mkB ((((ap a).drop i).take n).map upC):=by rw [upB,eM,show i+n - i=n by omega]
 rw [e] at hU
 repeat' (first|(apply ak;exact rfl;apply aL (o:=0) (off:=0);exact hr;exact rfl;exact rfl)|(apply aa;exact rfl;exact rfl;(intro w hm;exact hL w))|(apply aa;exact rfl;exact rfl;(intro w hm;exact hU w))|refine sT ?_|refine sT2 ?_|refine sN ?_|refine sM fun _=> ?_|(refine sC ?_ ?_<;>intro hb<;>try omega)|exact cT|fail)
 (refine rT1 ?_)
 rfl
def cI:List Int→Option Nat
 | []=>none
 |c::r=>if c≠34 then (cI r).map (· +1) else match r with
  | []=>some 0
  |d::r' =>if d=34 then (cI r').map (· +2) else some 0
theorem kY {c:Int} {r:List Int} (h:c≠34):cI (c::r)=(cI r).map (· +1):=by rw [cI.eq_def];simp [h]
def ny (l:List Int):Option (Tk × Nat):=
 if l.headD 0≠34 then none
 else match cI (l.drop 1) with
  |none=>none
  |some k=>if (gy (l.take (k+2))).2≠0 then none else some (⟨2,0,mkB (gy (l.take (k+2))).1,aN,0⟩,k+2)
set_option maxHeartbeats 1000000 in
theorem Nq (a:ByteArray) (ha:a.size≤100000) (i:Nat) (hi:i<a.size) (g:Nat) (w:World) (hr:Ro w g 0 [.string a]):
  aA Tryz.prog 222 [.pointer (some ⟨g,0,none⟩),.int .i64 (i:Int)] w (EY (atT i (ny ((ap a).drop i)))):=by
 refine aq Tryz.func222 rfl Tryz.ntmps222 rfl ?_
 have hl:=au a
 unfold ny
 rw [l4,SH]
 by_cases h34:bat a i=34
 ·
  rw [if_neg (by omega)]
  have hcut: ∀ m,ap (sub a i (i+m))=((ap a).drop i).take m:=fun m=>by rw [eM,show i+m - i=m by omega]
  repeat' (first|(apply ak;exact rfl;apply aL (o:=0) (off:=0);exact hr;exact rfl;exact rfl)|refine sT ?_|refine sT2 ?_|refine sN ?_|refine sM fun _=> ?_|(refine sC ?_ ?_<;>intro hb<;>try omega)|exact cT|fail)
  all_goals try (exfalso;omega)
  rename_i g4
  generalize hC:cI ((ap a).drop (i+1))=C
  refine aw [0,1,4,5] rfl (fun j:Nat=> [(6,.int .i64 (j:Int))]) (fun _=> [.box g4 228 (bi dl)]) (fun j=>i+1≤j∧j≤a.size∧C=(cI ((ap a).drop j)).map (· +(j - (i+1)))) (fun j=>a.size - j) (i+1) ⟨by omega,by omega,by rw [hC];simp⟩ sB mS ?_
  rintro j ⟨hj1,hj2,hj3⟩
  by_cases hlt:j<a.size
  ·
   rw [bk hlt] at hj3
   by_cases hq:bat a j=34
   ·
    by_cases hn:j+1<a.size∧bat a (j+1)=34
    ·
     rw [bk hn.1,hq,hn.2] at hj3
     simp only [cI,ne_eq,not_true_eq_false,if_false,if_true,TT] at hj3
     have hn1:=hn.1
     repeat' (first|(apply ak;exact rfl;apply aL (o:=0) (off:=0);exact hr;exact rfl;exact rfl)|refine sT ?_|refine sT2 ?_|refine sN ?_|refine sM fun _=> ?_|(refine sC ?_ ?_<;>intro hb<;>try omega)|exact cT|fail)
     all_goals try (exfalso;omega)
     refine ⟨j+2,?_,(by first|omega|(dsimp only;omega)),sB,sB,mS⟩
     refine ⟨by omega,by omega,?_⟩
     rw [hj3,show j+1+1=j+2 by omega]
     congr 1
     funext k
     simp only [Function.comp]
     omega
    ·
     have hC0:C=some (j - (i+1)):=by
      rw [hj3,hq]
      by_cases h1:j+1<a.size
      ·
       rw [bk h1]
       have h2:bat a (j+1)≠34:=fun h=>hn ⟨h1,h⟩
       simp [cI,h2]
      ·
       rw [RE (i:=j+1) (by omega)]
       simp [cI]
     rw [hC0]
     dsimp only
     have hm:j - (i+1)+2=j+1 - i:=by omega
     rw [hm]
     have hc:=hcut (j+1 - i)
     rw [show i+(j+1 - i)=j+1 by omega] at hc
     have hP:=Gm (sub a i (j+1)) (by rw [cw _ (by omega)];omega)
     rw [hc] at hP
     generalize gy (((ap a).drop i).take (j+1 - i))=q at hP
     repeat' (first|(apply ak;exact rfl;apply aL (o:=0) (off:=0);exact hr;exact rfl;exact rfl)|(apply aa;exact rfl;exact rfl;(intro w hm;exact hP w))|refine sT ?_|refine sT2 ?_|refine sN ?_|refine sM fun _=> ?_|(refine sC ?_ ?_<;>intro hb<;>try omega)|exact cT|fail)
     all_goals first|(exfalso;omega)|((refine jb ?_);first|(rw [if_pos hb];rfl)|(rw [if_neg hb];rfl))
   ·
    rw [kY hq,TT] at hj3
    repeat' (first|(apply ak;exact rfl;apply aL (o:=0) (off:=0);exact hr;exact rfl;exact rfl)|refine sT ?_|refine sT2 ?_|refine sN ?_|refine sM fun _=> ?_|(refine sC ?_ ?_<;>intro hb<;>try omega)|exact cT|fail)
    all_goals try (exfalso;omega)
    refine ⟨j+1,?_,(by first|omega|(dsimp only;omega)),sB,sB,mS⟩
    refine ⟨by omega,by omega,?_⟩
    rw [hj3]
    congr 1
    funext k
    simp only [Function.comp]
    omega
  ·
   rw [RE (by omega)] at hj3
   rw [hj3]
   dsimp only [cI,Option.map]
   repeat' (first|(apply ak;exact rfl;apply aL (o:=0) (off:=0);exact hr;exact rfl;exact rfl)|refine sT ?_|refine sT2 ?_|refine sN ?_|refine sM fun _=> ?_|(refine sC ?_ ?_<;>intro hb<;>try omega)|exact cT|fail)
   all_goals try (exfalso;omega)
   (refine jb ?_)
   rfl
 ·
  rw [if_pos (by omega)]
  repeat' (first|(apply ak;exact rfl;apply aL (o:=0) (off:=0);exact hr;exact rfl;exact rfl)|refine sT ?_|refine sT2 ?_|refine sN ?_|refine sM fun _=> ?_|(refine sC ?_ ?_<;>intro hb<;>try omega)|exact cT|fail)
  all_goals try (exfalso;omega)
  (refine jb ?_)
  rfl
end Go.SL
namespace Go.SL
open Go Go.Proofs
attribute [local irreducible] W WL WQ WG WA WX WLI WR WT VOp thn blk bp scp aR ba bE aF FnIn FnP
instance:FldT Tryz.prog 228 0 5 0:=⟨_,_,Tryz.underlying228,rfl,rfl,rfl⟩
theorem tJ {f:Nat} {fn:Int} {n:Nat} {fin:Int} {p p' :PS} {m:Nat} (h:Bd f fn n fin p=some (.ok (m,p'))):p.out.length<p'.out.length:=by
 unfold Bd at h
 split at h
 ·
  obtain ⟨m',q,h1,h2⟩:=cC h
  cases h2
  exact (jW _ _ _ _ _ _ h1).some trivial
 ·
  split at h
  ·
   cases h
  ·
   cases h
   simp [PS.put,PS.skip]
theorem xg {fin:Int} {name:Tk} {fn:Int} {n:Nat} {p:PS} {x:Nd} (hx:p.out[p.out.length - 1]? =some x):dg fin name fn n p=
  if (hdT fin p.l).kind≠10 then some (.error ((hdT fin p.l).at_,4))
  else if (n:Int)<(eR fn).1∨(eR fn).2.1<(n:Int) then some (.error (name.at_,11))
  else if 46≤fn∧x.kind≠2∧x.kind≠3 then some (.error (name.at_,4))
  else some (.ok (0,p.skip.put ⟨7,bI,aN,0,fn,n⟩)):=by
 have hx' :p.out.getLast? =some x:=by rw [Tp];exact hx
 unfold dg
 simp only [hx',Sm,Option.some.injEq,decide_eq_true_eq,ne_eq,not_or]
theorem zr {fn:Int} (h1:1≤fn) (h2:fn≤50):1≤(eR fn).1:=by
 unfold eR
 repeat' split
 all_goals first
  |decide
  |(rename_i h;simp [cO,h1,h2] at h)
theorem At.head' {toks:List Tk} {A:Option Nat} {cap:Nat} {fin:Int} {g:Nat} {p:PS} {lv:Value} (h:At toks A cap p lv) {u:Tk} (hu:hdT fin p.l=u) {B:Option Nat} {cb:Nat} {out:List Nd} {H:List Blk} {w0:World} (hH:MSub (pB g lv A cap fin toks B cb out) H) (w:World) (hm:Mem w0 w H):
  aA Tryz.prog 177 [.pointer (some ⟨g,0,none⟩)] w (.agg (bi u).toArray):=hu ▸ At.head h hH w hm
open Classical in
noncomputable def AZ (f:Nat) (t:Tk) (xz:Nat→Tk→Int→PS→Option Out) (fin:Int) (p:PS):Option Out:=if hdT fin p.l=t∧t.kind=7 then xz f t fin p else none
def xz (f:Nat) (t:Tk) (fin:Int) (p:PS):Option Out:=
 if (bg t.text).2≠0 then some (.error (t.at_,10))
 else
  let u:=hdT fin p.skip.l
  if u.kind≠9 then some (.error (u.at_,4))
  else if (hdT fin p.skip.skip.l).kind=10 then dg fin t (bg t.text).1 0 p.skip.skip
  else fT (bz fin f (.args (bg t.text).1 0) p.skip.skip) fun n p=>dg fin t (bg t.text).1 n p
set_option maxHeartbeats 4000000 in
theorem Oi (f:Nat) (t:Tk) (ih: ∀ f' ≤f,POK f' (.level 1) 176 []):Ow (AZ f t xz) 356 [.agg (bi t).toArray]:=by
  intro toks A cap fin g p lv B cb r R w0 hc hl hat hrun
  refine w8 Tryz.func356 rfl Tryz.ntmps356 rfl ?_
  unfold AZ at hrun
  by_cases ht: ¬ (hdT fin p.l=t∧t.kind=7)
  · rw [if_neg ht] at hrun;cases hrun
  have ht:=Classical.not_not.1 ht
  rw [if_pos ht] at hrun
  obtain ⟨ht,ht7⟩:=ht
  have hF:=fun w=>Ek t.text w
  unfold xz at hrun
  obtain ⟨fn,fe,hfe⟩: ∃ fn fe,bg t.text=(fn,fe):=⟨_,_,rfl⟩
  have hfn:fe=0→1≤fn∧fn≤50:=by
    intro h
    subst h
    have hb1:=jl dr t.text 0 (by omega)
    rw [ji] at hb1
    unfold bg at hfe
    split at hfe<;>cases hfe
    omega
  rw [hfe] at hrun hF
  dsimp only at hF
  by_cases h0:fe≠0
  · rw [if_pos h0] at hrun
    cases hrun
    repeat' (first|(apply aa (f:=370);exact rfl;exact rfl;(intro w' _;exact hF w'))|(refine bJ (f:=178) rfl rfl (jr _ _ _ _ _ (fun _ _=>False)) ?_ ?_)|(exact fun _ _ h=>h.elim)|(rintro _ _ ⟨rfl,rfl⟩)|refine sT ?_|refine sP ?_|refine sM fun _=> ?_|(refine sC ?_ ?_<;>intro hb<;>try omega)|exact cT|fail)
    all_goals first
      |(exfalso;omega)
      | (refine cY rfl ?_
         simp only [Rj,QU,QW,pB]
         exact mS)
  rw [if_neg h0] at hrun
  dsimp only at hrun
  obtain ⟨hfn1,hfn2⟩:=hfn (by omega)
  by_cases hw9:(hdT fin p.skip.l).kind≠9
  · rw [if_pos hw9] at hrun
    cases hrun
    repeat' (first|(apply aa (f:=370);exact rfl;exact rfl;(intro w' _;exact hF w'))|(apply ax (f:=275);exact rfl;exact rfl;exact hat.skip hc (c:=7) (by rw [ht];exact ht7) (by decide) (MSub.pick pK (MSub.pick pK (MSub.pick pK (MSub.refl _))));rintro _ _ ⟨rfl,lv1,h1,rfl⟩)|(refine bJ (f:=355) rfl rfl (FnP.msub (zJ 9 (by decide) toks A cap fin g p.skip lv1 B cb _ _ w0 hc hl (At1.at h1) (by unfold GM;rw [if_pos hw9])) (MSub.pick pK (MSub.pick pK (MSub.pick pK (MSub.refl _))))) ?_ ?_)|(rintro _ _ ⟨rfl,n,p',lv',B',cb',h,h2,rfl⟩;cases h)|(rintro _ _ ⟨e,h,rfl,h3⟩;cases h)|refine sT ?_|refine sP ?_|refine sM fun _=> ?_|(refine sC ?_ ?_<;>intro hb<;>try omega)|exact cT|fail)
    all_goals first
      |(exfalso;omega)
      | (refine cY rfl (MSub.trans ?_ h3)
         simp only [Rj,QU,QW,pB]
         exact mS)
  rw [if_neg hw9] at hrun
  repeat' (first|(apply aa (f:=370);exact rfl;exact rfl;(intro w' _;exact hF w'))|(apply ax (f:=275);exact rfl;exact rfl;exact hat.skip hc (c:=7) (by rw [ht];exact ht7) (by decide) (MSub.pick pK (MSub.pick pK (MSub.pick pK (MSub.refl _))));rintro _ _ ⟨rfl,lv1,h1,rfl⟩)|(refine bJ (f:=355) rfl rfl (FnP.msub (zJ 9 (by decide) toks A cap fin g p.skip lv1 B cb _ _ w0 hc hl (At1.at h1) (by unfold GM;rw [if_neg hw9])) (MSub.pick pK (MSub.pick pK (MSub.pick pK (MSub.refl _))))) ?_ ?_)|(rintro _ _ ⟨rfl,n,p',lv',B',cb',h,h2,rfl⟩;cases h)|(rintro _ _ ⟨e,h,rfl,h3⟩;cases h)|(rename_i g3;refine GQ (id:=7) (ι:=Nat × PS × Value × Option Nat × Nat) [0,3,4] rfl (fun x=> [(6,.int .i64 (x.1:Int))]) (fun x=> .box g3 228 (bi t)::(pB g x.2.2.1 A cap fin toks x.2.2.2.1 x.2.2.2.2 x.2.1.out++R)) (fun x=>x.1≤x.2.1.out.length∧At toks A cap x.2.1 x.2.2.1∧dg fin t fn x.1 x.2.1=some r) ?_ ?_)|refine sT ?_|refine sP ?_|refine sM fun _=> ?_|(refine sC ?_ ?_<;>intro hb<;>try omega)|exact cT|fail)
  · obtain ⟨u,hu⟩: ∃ u,hdT fin p.skip.skip.l=u:=⟨_,rfl⟩
    rw [hu] at hrun
    by_cases h10:u.kind=10
    · rw [if_pos h10] at hrun
      repeat' (first|(apply ak;exact rfl;apply dR;exact rfl;exact rfl)|(apply aa (f:=177);exact rfl;exact rfl;(intro w' hm';exact At.head' (B:=B') (cb:=cb') (out:=p.skip.skip.out) (g:=g) (fin:=fin) h2 hu (MSub.pick pK (MSub.pick pK (MSub.pick pK (MSub.nil _)))) w' hm'))|refine cG ((0,p.skip.skip,lv',B',cb')) ?_ sB mS|refine sT ?_|refine sP ?_|refine sM fun _=> ?_|(refine sC ?_ ?_<;>intro hb<;>try omega)|exact cT|fail)
      all_goals first|(exfalso;omega)|exact ⟨Rd _,h2,hrun⟩
    · rw [if_neg h10] at hrun
      obtain ⟨r1,hr1,hr2⟩:=bG hrun
      repeat' (first|(apply ak;exact rfl;apply dR;exact rfl;exact rfl)|(apply aa (f:=177);exact rfl;exact rfl;(intro w' hm';exact At.head' (B:=B') (cb:=cb') (out:=p.skip.skip.out) (g:=g) (fin:=fin) h2 hu (MSub.pick pK (MSub.pick pK (MSub.pick pK (MSub.nil _)))) w' hm'))|refine sT ?_|refine sP ?_|refine sM fun _=> ?_|(refine sC ?_ ?_<;>intro hb<;>try omega)|exact cT|fail)
      all_goals first
        |(exfalso;omega)
        |skip
      refine aw [0,3,4] rfl (fun x:Nat × Nat × PS × Value × Option Nat × Nat=> [(6,.int .i64 (x.2.1:Int))]) (fun x=> .box g3 228 (bi t)::(pB g x.2.2.2.1 A cap fin toks x.2.2.2.2.1 x.2.2.2.2.2 x.2.2.1.out++R)) (fun x=>x.1≤f∧x.2.1≤x.2.2.1.out.length∧At toks A cap x.2.2.1 x.2.2.2.1∧bz fin x.1 (.args fn x.2.1) x.2.2.1=some r1) (fun x=>x.1) (f,0,p.skip.skip,lv',B',cb') ⟨Re _,Rd _,h2,hr1⟩ sB ?_ ?_
      · simp only [Rj,QU,QW,pB]
        exact mS
      rintro ⟨f',n',q,lq,Bq,cq⟩ ⟨hf',hn',hq1,hq2⟩
      dsimp only at hf' hn' hq1 hq2 ⊢
      cases f' with
      |zero=>cases hq2
      |succ f' =>
        rw [Bc] at hq2
        have hn6:n' ≤1000000:=RB hn' (At.len hq1 hl)
        obtain ⟨r2,hr3,hr4⟩:=bG hq2
        repeat' (first|(refine bJ (f:=371) rfl rfl (FnP.msub (D7 f' fn n' (ih f' (by omega)) toks A cap fin g q lq Bq cq r2 _ w0 hc hl hq1 hr3) (MSub.pick pK (MSub.pick pK (MSub.pick pK (MSub.refl _))))) ?_ ?_)|(rintro _ _ ⟨rfl,n2,q2,lv2,B2,cb2,rfl,h6,rfl⟩;obtain ⟨u2,hu2⟩: ∃ u,hdT fin q2.l=u:=⟨_,rfl⟩)|(rintro _ _ ⟨e,rfl,rfl,h3⟩)|(apply ak;exact rfl;apply dR;exact rfl;exact rfl)|(apply aa (f:=177);exact rfl;exact rfl;(intro w' hm';exact At.head' (B:=B2) (cb:=cb2) (out:=q2.out) (g:=g) (fin:=fin) h6 hu2 (MSub.pick pK (MSub.pick pK (MSub.pick pK (MSub.nil _)))) w' hm'))|(apply ax (f:=275);exact rfl;exact rfl;exact h6.skip hc (c:=11) (by rw [hu2];omega) (by decide) (MSub.pick pK (MSub.pick pK (MSub.pick pK (MSub.refl _))));rintro _ _ ⟨rfl,lv3,h7,rfl⟩)|refine cG ((n' +1,q2,lv2,B2,cb2)) ?_ sB mS|refine sT ?_|refine sP ?_|refine sN ?_|refine sM fun _=> ?_|(refine sC ?_ ?_<;>intro hb<;>try omega)|exact cT|fail)
        · rcases hr4 with ⟨e,h,_⟩|⟨n3,p3,h,h7⟩
          · cases h
          · cases h
            rw [hu2,if_neg (by omega)] at h7
            rcases hr2 with ⟨e,h,_⟩|⟨n4,p4,h,h8⟩
            · rw [h] at h7;cases h7
            · rw [h] at h7
              cases h7
              have:=tJ hr3
              exact ⟨by dsimp only;omega,h6,h8⟩
        · rcases hr4 with ⟨e,h,_⟩|⟨n3,p3,h,h7'⟩
          · cases h
          · cases h
            rw [hu2,if_pos (by omega)] at h7'
            have:=tJ hr3
            refine ⟨(f',n' +1,q2.skip,lv3,B2,cb2),⟨by dsimp only;omega,by dsimp only [PS.skip];omega,At1.at h7,h7'⟩,Nat.lt_succ_self _,sB,sB,?_⟩
            simp only [Rj,QU,QW,pB]
            exact mS
        · rcases hr4 with ⟨e',h,h7⟩|⟨n3,p3,h,h7⟩
          · cases h
            rcases hr2 with ⟨e4,h,h8⟩|⟨n4,p4,h,h8⟩
            · rw [h] at h7
              cases h7
              exact cY h8 (MSub.trans (.drop .hd (.refl _)) h3)
            · rw [h] at h7;cases h7
          · cases h
  · rintro ⟨n,q,lq,Bq,cq⟩ ⟨hn',hq1,hq2⟩
    dsimp only at hn' hq1 hq2 ⊢
    obtain ⟨u,hu⟩: ∃ u,hdT fin q.l=u:=⟨_,rfl⟩
    have hap:=zr hfn1 hfn2
    have hA:=fun w=>xD fn w
    obtain ⟨least,most,ae,hae⟩: ∃ a b c,eR fn=(a,b,c):=⟨_,_,_,rfl⟩
    rw [hae] at hA hap
    dsimp only at hA hap
    by_cases h10:u.kind≠10
    · simp only [dg,hu,if_pos h10] at hq2
      cases hq2
      repeat' (first|(apply ak;exact rfl;apply dR;exact rfl;exact rfl)|(apply aa (f:=177);exact rfl;exact rfl;(intro w' hm';exact At.head' (B:=Bq) (cb:=cq) (out:=q.out) (g:=g) (fin:=fin) hq1 hu (MSub.pick pK (MSub.pick pK (MSub.pick pK (MSub.nil _)))) w' hm'))|(refine bJ (f:=178) rfl rfl (jr _ _ _ _ _ (fun _ _=>False)) ?_ ?_)|(exact fun _ _ h=>h.elim)|(rintro _ _ ⟨rfl,rfl⟩)|refine sT ?_|refine sP ?_|refine sM fun _=> ?_|(refine sC ?_ ?_<;>intro hb<;>try omega)|exact cT|fail)
      all_goals first
        |(exfalso;omega)
        | (refine cY rfl ?_
           simp only [Rj,QU,QW,pB]
           exact mS)
    by_cases hlm:(n:Int)<least∨most<(n:Int)
    · simp only [dg,hu,if_neg h10,hae,if_pos hlm] at hq2
      cases hq2
      repeat' (first|(apply ak;exact rfl;apply dR;exact rfl;exact rfl)|(apply aa (f:=177);exact rfl;exact rfl;(intro w' hm';exact At.head' (B:=Bq) (cb:=cq) (out:=q.out) (g:=g) (fin:=fin) hq1 hu (MSub.pick pK (MSub.pick pK (MSub.pick pK (MSub.nil _)))) w' hm'))|(apply aa (f:=336);exact rfl;exact rfl;(intro w' _;exact hA w'))|(refine bJ (f:=178) rfl rfl (jr _ _ _ _ _ (fun _ _=>False)) ?_ ?_)|(exact fun _ _ h=>h.elim)|(rintro _ _ ⟨rfl,rfl⟩)|refine sT ?_|refine sP ?_|refine sM fun _=> ?_|(refine sC ?_ ?_<;>intro hb<;>try omega)|exact cT|fail)
      all_goals first
        |(exfalso;omega)
        | (refine cY rfl ?_
           simp only [Rj,QU,QW,pB]
           exact mS)
    have hpos:0<q.out.length:=by omega
    have hol:q.out.length≤1000000:=At.len hq1 hl
    obtain ⟨x,hx⟩: ∃ x,q.out[q.out.length - 1]? =some x:=⟨_,QV (by omega)⟩
    rw [xg hx,hu,hae,if_neg h10] at hq2
    dsimp only at hq2
    rw [if_neg hlm] at hq2
    refine dN (A:=Bq) (by simp only [Rj,QU,QW,pB];exact pK) hpos fun gb hB=> ?_
    subst hB
    by_cases hkx:46≤fn∧x.kind≠2∧x.kind≠3
    · rw [if_pos hkx] at hq2
      cases hq2
      repeat' (first|(apply ak;exact rfl;apply dR;exact rfl;exact rfl)|(apply aa (f:=177);exact rfl;exact rfl;(intro w' hm';exact At.head' (B:=some gb) (cb:=cq) (out:=q.out) (g:=g) (fin:=fin) hq1 hu (MSub.pick pK (MSub.pick pK (MSub.pick pK (MSub.nil _)))) w' hm'))|(apply aa (f:=336);exact rfl;exact rfl;(intro w' _;exact hA w'))|(apply aK;exact rfl;apply eC;exact rfl;exact rfl;exact hpos;(simp only [maxLen];omega))|(apply aK;exact rfl;apply aj;exact rfl;exact rfl;omega)|(apply aK;exact rfl;apply kG (k:=0);exact dJ;exact rfl;exact pK;decide;exact hx;exact rfl)|(refine bJ (f:=178) rfl rfl (jr _ _ _ _ _ (fun _ _=>False)) ?_ ?_)|(exact fun _ _ h=>h.elim)|(rintro _ _ ⟨rfl,rfl⟩)|refine sT ?_|refine sP ?_|refine sQ ?_|refine sN ?_|refine sNQ ?_|refine sD ?_|refine sM fun _=> ?_|(refine sC ?_ ?_<;>intro hb<;>try omega)|(refine sCQ ?_ ?_<;>intro hb<;>try omega)|exact cT|fail)
      all_goals first
        |(exfalso;omega)
        | (refine cY rfl ?_
           simp only [Rj,QU,QW,pB]
           exact mS)
    · rw [if_neg hkx] at hq2
      cases hq2
      repeat' (first|(apply ak;exact rfl;apply dR;exact rfl;exact rfl)|(apply aa (f:=177);exact rfl;exact rfl;(intro w' hm';exact At.head' (B:=some gb) (cb:=cq) (out:=q.out) (g:=g) (fin:=fin) hq1 hu (MSub.pick pK (MSub.pick pK (MSub.pick pK (MSub.nil _)))) w' hm'))|(apply aa (f:=336);exact rfl;exact rfl;(intro w' _;exact hA w'))|(apply aK;exact rfl;apply eC;exact rfl;exact rfl;exact hpos;(simp only [maxLen];omega))|(apply aK;exact rfl;apply aj;exact rfl;exact rfl;omega)|(apply aK;exact rfl;apply kG (k:=0);exact dJ;exact rfl;exact pK;decide;exact hx;exact rfl)|(apply ax (f:=275);exact rfl;exact rfl;exact hq1.skip hc (c:=10) (by rw [hu];omega) (by decide) (MSub.pick pK (MSub.pick pK (MSub.pick pK (MSub.refl _))));rintro _ _ ⟨rfl,lv1,h1',rfl⟩)|(apply ax (f:=276);exact rfl;exact rfl;exact FnIn.msub (kR ⟨7,bI,aN,0,fn,n⟩ _ _ _ _ _ _ _ _ _ (At.len hq1 hl) _ _) (MSub.pick pK (MSub.pick pK (MSub.pick pK (MSub.refl _))));rintro _ _ ⟨rfl,B3,cb3,rfl⟩)|refine sT ?_|refine sP ?_|refine sQ ?_|refine sN ?_|refine sNQ ?_|refine sD ?_|refine sM fun _=> ?_|(refine sC ?_ ?_<;>intro hb<;>try omega)|(refine sCQ ?_ ?_<;>intro hb<;>try omega)|exact cT|fail)
      all_goals first
        |(exfalso;omega)
        | (refine eX (p' := q.skip.put ⟨7, bI, aN, 0, fn, n⟩) (B' := B3) (cb' := cb3) (by first | exact .inr rfl | exact .inl rfl) rfl rfl (h1'.put _) ?_
           simp only [Rj,QU,QW,pB]
           exact mS)
end Go.SL
namespace Go.SL
open Go Go.Proofs
attribute [local irreducible] W WL WQ WG WA WX WLI WR WT WC VOp RW thn blk bp scp aR ba bE aF FnIn FnP ceP
instance fldTk1:FldT Tryz.prog 228 1 2 1:=⟨_,_,Tryz.underlying228,rfl,rfl,rfl⟩
instance fldTk4:FldT Tryz.prog 228 4 3 7:=⟨_,_,Tryz.underlying228,rfl,rfl,rfl⟩
def rC (sa:ByteArray) (A:Option Nat) (n cap k:Nat) (B:Option Nat) (m cb:Nat) (at_ e:Int):List Value:= [.string sa,sl A n cap,.int .i64 (k:Int),sl B m cb,.int .i64 at_,.int .i64 e]
def rB (g:Nat) (sa:ByteArray) (A:Option Nat) (cap:Nat) (toks:List Tk) (k:Nat) (B:Option Nat) (cb:Nat) (out:List Nd) (at_ e:Int):List Blk:=
 [.box g 245 (rC sa A toks.length cap k B out.length cb at_ e),.own A 228 8 toks.length cap (toks.flatMap bi),.own B 293 11 out.length cb (out.flatMap bN)]
theorem Qu {A:Option Nat} {cap:Nat} {toks:List Tk} {w0 w:World} {H:List Blk} (hm:Mem w0 w H) (hi:In (.own A 228 8 toks.length cap (toks.flatMap bi)) H) {k:Nat} (hk:k<toks.length): ∃ ga,A=some ga∧Ro w ga 0 (toks.flatMap bi):=by
 obtain ⟨_,_,_,h4⟩:=(hm.on _ hi.mem).1
 cases A with
 |none=>obtain ⟨h5,_⟩:=h4;omega
 |some ga=>exact ⟨ga,rfl,Ro.of_own hm hi⟩
theorem CN (g:Nat) (sa:ByteArray) (hsa:sa.size≤1000) (A:Option Nat) (cap:Nat) (toks:List Tk) (ht1:toks.length≤1000) (k:Nat) (B:Option Nat) (m cb:Nat) (at_ e:Int) (w:World) (hr:Ro w g 0 (rC sa A toks.length cap k B m cb at_ e))
  (ht:k<toks.length→ ∃ ga,A=some ga∧Ro w ga 0 (toks.flatMap bi)):aA Tryz.prog 197 [.pointer (some ⟨g,0,none⟩)] w (.agg (bi (hdT (sa.size:Int) (toks.drop k))).toArray):=by
 refine aq Tryz.func197 rfl Tryz.ntmps197 rfl ?_
 unfold rC at hr
 by_cases hlt:k<toks.length
 ·
  rw [HK hlt]
  obtain ⟨ga,rfl,hra⟩:=ht hlt
  have hra' :=hra.elem zi k hlt
  repeat' (first|(apply ib (id:=1);kernel_rfl;kernel_rfl)|(apply aK;exact rfl;apply aL (o:=0) (off:=1);exact hr;exact rfl;exact rfl)|(apply aK;exact rfl;apply aL (o:=0) (off:=2);exact hr;exact rfl;exact rfl)|refine sT ?_|refine sS ?_|refine sQ ?_|refine sM fun _=> ?_|(refine sC ?_ ?_<;>intro hb<;>try omega)|(refine sCQ ?_ ?_<;>intro hb<;>try omega)|fail)
  all_goals try (exfalso;omega)
  rename_i g2
  refine ia (id:=2) [10] [] [] (by kernel_rfl) (by kernel_rfl) (by kernel_rfl) mS ?_
  repeat' (first|(apply dm;(iterate 3 exact rfl);apply aL (o:=0) (off:=1);exact hr;exact rfl;exact rfl)|(apply dm;(iterate 3 exact rfl);apply aL (o:=0) (off:=2);exact hr;exact rfl;exact rfl)|(apply dm;(iterate 3 exact rfl);apply aj (j:=k);exact rfl;exact rfl;exact hlt)|(apply dm;(iterate 3 exact rfl);apply aC;exact rfl;exact hra';exact rfl)|refine sT ?_|refine sS ?_|refine sW ?_|refine sM fun _=> ?_|(refine sC ?_ ?_<;>intro hb<;>try omega)|(refine sCW ?_ ?_<;>intro hb<;>try omega)|fail)
  all_goals try (exfalso;omega)
  (refine eRC ?_)
  rfl
 ·
  rw [uW (by omega)]
  repeat' (first|(apply ib (id:=1);kernel_rfl;kernel_rfl)|(apply aK;exact rfl;apply aL (o:=0) (off:=1);exact hr;exact rfl;exact rfl)|(apply aK;exact rfl;apply aL (o:=0) (off:=2);exact hr;exact rfl;exact rfl)|(apply ak;exact rfl;apply aL (o:=0) (off:=0);exact hr;exact rfl;exact rfl)|refine sT ?_|refine sS ?_|refine sQ ?_|refine sM fun _=> ?_|(refine sC ?_ ?_<;>intro hb<;>try omega)|(refine sCQ ?_ ?_<;>intro hb<;>try omega)|fail)
  all_goals try (exfalso;omega)
  (refine eRC ?_)
  rfl
theorem wq {g:Nat} {sa:ByteArray} (hsa:sa.size≤1000) {A:Option Nat} {cap:Nat} {toks:List Tk} (ht1:toks.length≤1000) {k:Nat} {B:Option Nat} {cb:Nat} {out:List Nd} {at_ e:Int} {t:Tk} (hd:hdT (sa.size:Int) (toks.drop k)=t) {H:List Blk} {w0:World} (hH:MSub (rB g sa A cap toks k B cb out at_ e) H) (w:World) (hm:Mem w0 w H):
  aA Tryz.prog 197 [.pointer (some ⟨g,0,none⟩)] w (.agg (bi t).toArray):=by
 have hm' :=hH.use hm
 rw [← hd]
 exact CN g sa hsa A cap toks ht1 k B out.length cb at_ e w (Ro.of_box hm' .hd) fun hlt=>Qu hm' (.tl .hd) hlt
theorem I4 (op:Int) (w:World):aA Tryz.prog 288 [.int .i64 op] w (.tuple #[.int .i64 (gR op),.bool (decide (op=5)),.int .i64 (if gR op=0 then 2 else 0)]):=by
 refine aq Tryz.func288 rfl Tryz.ntmps288 rfl ?_
 repeat' (first|refine sT ?_|refine sM fun _=> ?_|(refine sC ?_ ?_<;>intro hb<;>try omega)|fail)
 all_goals ((refine rT3 ?_);simp_all [gR];try omega)
theorem Pu (q:Int) {g:Nat} {sa:ByteArray} (hsa:sa.size≤1000) {A:Option Nat} {cap:Nat} {toks:List Tk} (ht1:toks.length≤1000) {k:Nat} {B:Option Nat} {cb:Nat} {out:List Nd} {at_ e:Int} {t:Tk} (hd:hdT (sa.size:Int) (toks.drop k)=t) {H:List Blk} {w0:World} (hH:MSub (rB g sa A cap toks k B cb out at_ e) H) (w:World) (hm:Mem w0 w H):
  aA Tryz.prog 241 [.pointer (some ⟨g,0,none⟩),.int .i64 q] w (.bool (decide (t.kind=8∧gR t.num=q))):=by
 have hm0:=hH.use hm
 refine aq Tryz.func241 rfl Tryz.ntmps241 rfl ?_
 have hh: ∀ w' H',Mem w w' H' →aA Tryz.prog 197 [.pointer (some ⟨g,0,none⟩)] w' (.agg (bi t).toArray):=fun w' H' hm' =>by
  rw [← hd]
  refine CN g sa hsa A cap toks ht1 k B out.length cb at_ e w' ((Ro.of_box hm0 .hd).next hm') fun hlt=> ?_
  obtain ⟨ga,h1,h2⟩:=Qu hm0 (.tl .hd) hlt
  exact ⟨ga,h1,h2.next hm'⟩
 repeat' (first|(apply aa (f:=197);exact rfl;exact rfl;(intro w' hm';exact hh w' _ hm'))|(apply aa (f:=288);exact rfl;exact rfl;(intro w' _;exact I4 _ w'))|refine sT ?_|refine sS ?_|refine sM fun _=> ?_|(refine sC ?_ ?_<;>intro hb<;>try omega)|fail)
 all_goals ((refine rT1 ?_);simp_all)
theorem fQ (g:Nat) (sa:ByteArray) (A:Option Nat) (n cap k:Nat) (B:Option Nat) (m cb:Nat) (at_ e a2 e2:Int) (R:List Blk) (w0:World):
  FnIn Tryz.prog 196 [.pointer (some ⟨g,0,none⟩),.int .i64 a2,.int .i64 e2] w0 (.box g 245 (rC sa A n cap k B m cb at_ e)::R) fun v H=>v= .tuple #[]∧H= .box g 245 (rC sa A n cap k B m cb (if e=0 then a2 else at_) (if e=0 then e2 else e))::R:=by
 refine eQ Tryz.func196 rfl Tryz.ntmps196 rfl ?_
 unfold rC
 by_cases he:e=0
 ·
  subst he
  rw [if_pos rfl,if_pos rfl]
  repeat' (first|refine sT ?_|refine sS ?_|refine sM fun _=> ?_|(refine sC ?_ ?_<;>intro hb<;>try omega)|fail)
  all_goals first|(exfalso;omega)|exact gC eIO rfl mS ⟨rfl,rfl⟩
 ·
  rw [if_neg he,if_neg he]
  repeat' (first|refine sT ?_|refine sS ?_|refine sM fun _=> ?_|(refine sC ?_ ?_<;>intro hb<;>try omega)|fail)
  all_goals first|(exfalso;omega)|exact gC eIO rfl mS ⟨rfl,rfl⟩
theorem lQ (c:Int) {g:Nat} {sa:ByteArray} (hsa:sa.size≤1000) {A:Option Nat} {cap:Nat} {toks:List Tk} (ht1:toks.length≤1000) {k:Nat} (hk1:k≤2000) {B:Option Nat} {cb:Nat} {out:List Nd} {at_ e:Int} {t:Tk} (hd:hdT (sa.size:Int) (toks.drop k)=t) (hc:t.kind=c) (R:List Blk) (w0:World):
  FnIn Tryz.prog 347 [.pointer (some ⟨g,0,none⟩),.int .u8 c] w0 (rB g sa A cap toks k B cb out at_ e++R) fun v H=>v= .tuple #[]∧H=rB g sa A cap toks (k+1) B cb out at_ e++R:=by
 refine eQ Tryz.func347 rfl Tryz.ntmps347 rfl ?_
 have hh:=fun w hm=>wq (g:=g) hsa ht1 hd (B:=B) (cb:=cb) (out:=out) (at_:=at_) (e:=e) (A:=A) (cap:=cap) (w0:=w0) (H:=rB g sa A cap toks k B cb out at_ e++R) ⟨R,.refl _⟩ w hm
 unfold rB rC at hh ⊢
 repeat' (first|(apply ak;exact rfl;apply dR;exact rfl;exact rfl)|(apply aa (f:=197);exact rfl;exact rfl;exact hh)|refine sT ?_|refine sS ?_|refine sN ?_|refine sM fun _=> ?_|(refine sC ?_ ?_<;>intro hb<;>try omega)|fail)
 all_goals first
  |(exfalso;omega)
  |exact gC eIO rfl (.refl _) ⟨rfl,rfl⟩
theorem wo (c:Int) {g:Nat} {sa:ByteArray} (hsa:sa.size≤1000) {A:Option Nat} {cap:Nat} {toks:List Tk} (ht1:toks.length≤1000) {k:Nat} {B:Option Nat} {cb:Nat} {out:List Nd} {at_ e:Int} {t:Tk} (hd:hdT (sa.size:Int) (toks.drop k)=t) (hc:t.kind≠c) (R:List Blk) (w0:World):
  FnIn Tryz.prog 347 [.pointer (some ⟨g,0,none⟩),.int .u8 c] w0 (rB g sa A cap toks k B cb out at_ e++R) fun v H=>v= .tuple #[]∧H=rB g sa A cap toks k B cb out (if e=0 then t.at_ else at_) (if e=0 then 4 else e)++R:=by
 refine eQ Tryz.func347 rfl Tryz.ntmps347 rfl ?_
 have hh:=fun w hm=>wq (g:=g) hsa ht1 hd (B:=B) (cb:=cb) (out:=out) (at_:=at_) (e:=e) (A:=A) (cap:=cap) (w0:=w0) (H:=rB g sa A cap toks k B cb out at_ e++R) ⟨R,.refl _⟩ w hm
 unfold rB at hh ⊢
 repeat' (first|(apply ak;exact rfl;apply dR;exact rfl;exact rfl)|(apply aa (f:=197);exact rfl;exact rfl;exact hh)|(apply ax (f:=196);exact rfl;exact rfl;exact FnIn.msub (fQ g sa A _ cap k B _ cb at_ e _ _ _ _) (MSub.pick .hd (.refl _));rintro _ _ ⟨rfl,rfl⟩)|refine sT ?_|refine sS ?_|refine sN ?_|refine sM fun _=> ?_|(refine sC ?_ ?_<;>intro hb<;>try omega)|fail)
 all_goals first
  |(exfalso;omega)
  |exact gC eIO rfl (.refl _) ⟨rfl,rfl⟩
end Go.SL
namespace Go.SL
open Go Go.Proofs
attribute [local irreducible] W WL WQ WG WA WX WLI WR WT VOp thn blk bp scp aR ba bE aF FnIn FnP
theorem yT (fin:Int) (f:Nat) (p:PS) (h:(hdT fin p.l).kind=7):bz fin (f+1) .prim p=xz f (hdT fin p.l) fin p:=by
 rw [bz]
 dsimp only
 rw [if_neg (by omega),if_neg (by omega),if_neg (by omega),if_pos h]
 rfl
set_option maxHeartbeats 4000000 in
theorem Fx (f:Nat) (ih: ∀ f' ≤f,POK f' (.level 1) 176 []):POK (f+1) .prim 335 []:=by
  intro toks A cap fin g p lv B cb r R w0 hc hl hat hrun
  refine w8 Tryz.func335 rfl Tryz.ntmps335 rfl ?_
  obtain ⟨t,ht⟩: ∃ t,hdT fin p.l=t:=⟨_,rfl⟩
  have hh:=fun w hm=>At.head' (fin:=fin) (g:=g) (B:=B) (cb:=cb) (out:=p.out) (H:=pB g lv A cap fin toks B cb p.out++R) (w0:=w0) hat ht (MSub.pick .hd (.pick .hd (.pick .hd (.nil _)))) w hm
  by_cases h7:t.kind=7
  · rw [yT _ _ _ (by rw [ht];exact h7),ht] at hrun
    have hcl:=Oi f t ih toks A cap fin g p lv B cb r
    unfold AZ at hcl
    rw [if_pos ⟨ht,h7⟩] at hcl
    repeat' (first|(apply aa (f:=177);exact rfl;exact rfl;exact hh)|(refine bJ (f:=356) rfl rfl (FnP.msub (hcl _ w0 hc hl hat hrun) (MSub.pick pK (MSub.pick pK (MSub.pick pK (MSub.refl _))))) ?_ ?_)|(rintro _ _ ⟨rfl,n,p',lv',B',cb',rfl,h2,rfl⟩)|(rintro _ _ ⟨e,rfl,rfl,h3⟩)|refine sT ?_|refine sP ?_|refine sM fun _=> ?_|(refine sC ?_ ?_<;>intro hb<;>try omega)|fail)
    · refine eX (B' :=B') (cb' :=cb') (by first|exact .inr rfl|exact .inl rfl) rfl rfl h2 ?_
      simp only [Rj,QU,QW,pB]
      exact mS
    · exact cY rfl (MSub.trans (.drop .hd (.refl _)) h3)
  rw [bz] at hrun
  dsimp only at hrun
  rw [ht] at hrun
  by_cases h14:1≤t.kind∧t.kind≤4
  · rw [if_pos h14] at hrun
    cases hrun
    rcases (by omega:t.kind=1∨t.kind=2∨t.kind=3∨t.kind=4) with hk|hk|hk|hk
    · repeat' (first|(apply aa (f:=177);exact rfl;exact rfl;exact hh)|(refine bJ (f:=354) rfl rfl (FnP.msub (qK ⟨1,t.num,av⟩ toks A cap fin g p _ B cb (.ok (0,p.skip.put (mK t))) _ w0 hc hl hat (by dsimp only;rw [if_neg (by rw [ht];omega)];simp [mK,hk])) (MSub.pick pK (MSub.pick pK (MSub.pick pK (MSub.refl _))))) ?_ ?_)|(rintro _ _ ⟨rfl,n,p',lv',B',cb',h,h2,rfl⟩)|(rintro _ _ ⟨e,h,rfl,h3⟩;cases h)|refine sT ?_|refine sP ?_|refine sM fun _=> ?_|(refine sC ?_ ?_<;>intro hb<;>try omega)|fail)
      all_goals first
        |(exfalso;omega)
        | (refine eX (B' := B') (cb' := cb') (by first | exact .inr rfl | exact .inl rfl) rfl h h2 ?_
           simp only [Rj,QU,QW,pB]
           exact mS)
    · repeat' (first|(apply aa (f:=177);exact rfl;exact rfl;exact hh)|(refine bJ (f:=354) rfl rfl (FnP.msub (qK ⟨3,0,t.text⟩ toks A cap fin g p _ B cb (.ok (0,p.skip.put (mK t))) _ w0 hc hl hat (by dsimp only;rw [if_neg (by rw [ht];omega)];simp [mK,hk])) (MSub.pick pK (MSub.pick pK (MSub.pick pK (MSub.refl _))))) ?_ ?_)|(rintro _ _ ⟨rfl,n,p',lv',B',cb',h,h2,rfl⟩)|(rintro _ _ ⟨e,h,rfl,h3⟩;cases h)|refine sT ?_|refine sP ?_|refine sM fun _=> ?_|(refine sC ?_ ?_<;>intro hb<;>try omega)|fail)
      all_goals first
        |(exfalso;omega)
        | (refine eX (B' := B') (cb' := cb') (by first | exact .inr rfl | exact .inl rfl) rfl h h2 ?_
           simp only [Rj,QU,QW,pB]
           exact mS)
    · repeat' (first|(apply aa (f:=177);exact rfl;exact rfl;exact hh)|(refine bJ (f:=354) rfl rfl (FnP.msub (qK ⟨2,t.num,av⟩ toks A cap fin g p _ B cb (.ok (0,p.skip.put (mK t))) _ w0 hc hl hat (by dsimp only;rw [if_neg (by rw [ht];omega)];simp [mK,hk])) (MSub.pick pK (MSub.pick pK (MSub.pick pK (MSub.refl _))))) ?_ ?_)|(rintro _ _ ⟨rfl,n,p',lv',B',cb',h,h2,rfl⟩)|(rintro _ _ ⟨e,h,rfl,h3⟩;cases h)|refine sT ?_|refine sP ?_|refine sM fun _=> ?_|(refine sC ?_ ?_<;>intro hb<;>try omega)|fail)
      all_goals first
        |(exfalso;omega)
        | (refine eX (B' := B') (cb' := cb') (by first | exact .inr rfl | exact .inl rfl) rfl h h2 ?_
           simp only [Rj,QU,QW,pB]
           exact mS)
    · repeat' (first|(apply aa (f:=177);exact rfl;exact rfl;exact hh)|(refine bJ (f:=354) rfl rfl (FnP.msub (qK ⟨4,t.num,av⟩ toks A cap fin g p _ B cb (.ok (0,p.skip.put (mK t))) _ w0 hc hl hat (by dsimp only;rw [if_neg (by rw [ht];omega)];simp [mK,hk])) (MSub.pick pK (MSub.pick pK (MSub.pick pK (MSub.refl _))))) ?_ ?_)|(rintro _ _ ⟨rfl,n,p',lv',B',cb',h,h2,rfl⟩)|(rintro _ _ ⟨e,h,rfl,h3⟩;cases h)|refine sT ?_|refine sP ?_|refine sM fun _=> ?_|(refine sC ?_ ?_<;>intro hb<;>try omega)|fail)
      all_goals first
        |(exfalso;omega)
        | (refine eX (B' := B') (cb' := cb') (by first | exact .inr rfl | exact .inl rfl) rfl h h2 ?_
           simp only [Rj,QU,QW,pB]
           exact mS)
  rw [if_neg h14] at hrun
  by_cases h5:t.kind=5
  · rw [if_pos h5] at hrun
    cases hrun
    repeat' (first|(apply aa (f:=177);exact rfl;exact rfl;exact hh)|(apply ax (f:=275);exact rfl;exact rfl;exact hat.skip hc (c:=5) (by rw [ht];exact h5) (by decide) (MSub.pick pK (MSub.pick pK (MSub.pick pK (MSub.refl _))));rintro _ _ ⟨rfl,lv1,h1,rfl⟩)|(apply ax (f:=276);exact rfl;exact rfl;exact FnIn.msub (kR ⟨2,bI,t.rect,0,0,0⟩ _ _ _ _ _ _ _ _ _ (At.len hat hl) _ _) (MSub.pick pK (MSub.pick pK (MSub.pick pK (MSub.refl _))));rintro _ _ ⟨rfl,B3,cb3,rfl⟩)|refine sT ?_|refine sP ?_|refine sM fun _=> ?_|(refine sC ?_ ?_<;>intro hb<;>try omega)|fail)
    all_goals first
      |(exfalso;omega)
      | (refine eX (p' := p.skip.put ⟨2, bI, t.rect, 0, 0, 0⟩) (B' := B3) (cb' := cb3) (by first | exact .inr rfl | exact .inl rfl) rfl rfl (h1.put _) ?_
         simp only [Rj,QU,QW,pB]
         exact mS)
  rw [if_neg h5] at hrun
  by_cases h9:t.kind=9
  · rw [if_pos h9] at hrun
    obtain ⟨r1,hr1,hr2⟩:=bG hrun
    repeat' (first|(apply aa (f:=177);exact rfl;exact rfl;exact hh)|(apply ax (f:=275);exact rfl;exact rfl;exact hat.skip hc (c:=9) (by rw [ht];exact h9) (by decide) (MSub.pick pK (MSub.pick pK (MSub.pick pK (MSub.refl _))));rintro _ _ ⟨rfl,lv1,h1,rfl⟩)|(refine bJ (f:=176) rfl rfl (FnP.msub (ih f (Re _) toks A cap fin g p.skip _ B cb r1 _ w0 hc hl (At1.at h1) hr1) (MSub.pick pK (MSub.pick pK (MSub.pick pK (MSub.refl _))))) ?_ ?_)|(rintro _ _ ⟨rfl,n,p',lv',B',cb',rfl,h2,rfl⟩)|(rintro _ _ ⟨e,rfl,rfl,h3⟩)|(rcases hr2 with ⟨e,h,_⟩|⟨n1,p1,h,hw⟩;cases h;cases h;refine bJ (f:=355) rfl rfl (FnP.msub (zJ 10 (by decide) toks A cap fin g p' _ B' cb' r _ w0 hc hl h2 hw) (MSub.pick pK (MSub.pick pK (MSub.pick pK (MSub.refl _))))) ?_ ?_)|refine sT ?_|refine sP ?_|refine sM fun _=> ?_|(refine sC ?_ ?_<;>intro hb<;>try omega)|fail)
    · refine eX (B' :=B') (cb' :=cb') (by first|exact .inr rfl|exact .inl rfl) rfl rfl h2 ?_
      simp only [Rj,QU,QW,pB]
      exact mS
    · exact cY rfl (MSub.trans (.drop .hd (.refl _)) h3)
    · rcases hr2 with ⟨e',h,h5⟩|⟨n1,p1,h,h5⟩
      · cases h
        exact cY h5 (MSub.trans (.drop .hd (.refl _)) h3)
      · cases h
  rw [if_neg h9,if_neg h7] at hrun
  cases hrun
  repeat' (first|(apply aa (f:=177);exact rfl;exact rfl;exact hh)|(refine bJ (f:=178) rfl rfl (jr _ _ _ _ _ (fun _ _=>False)) ?_ ?_)|(exact fun _ _ h=>h.elim)|(rintro _ _ ⟨rfl,rfl⟩)|refine sT ?_|refine sP ?_|refine sM fun _=> ?_|(refine sC ?_ ?_<;>intro hb<;>try omega)|fail)
  all_goals first
    |(exfalso;omega)
    | (refine cY rfl ?_
       simp only [Rj,QU,QW,pB]
       exact mS)
theorem I9 (f:Nat):(∀ k:Int,1≤k→k≤4→POK f (.level k) 226 [.int .i64 k])∧POK f .sign 272 []∧POK f .pct 304 []∧POK f .prim 335 []∧POK f (.level 1) 176 []:=by
 induction f using Nat.strongRecOn with
 |_ f ih=>
  cases f with
  |zero=>
   refine ⟨fun k _ _=> ?_,?_,?_,?_,?_⟩
   all_goals exact fun toks A cap fin g p lv B cb r R w0 hc hl hat h=>by cases h
  |succ f=>
   have hL: ∀ k:Int,1≤k→k≤4→POK (f+1) (.level k) 226 [.int .i64 k]:=fun k h1 h4=>
    LL f k h1 h4 (fun h3 f' hf' =>(ih f' (by omega)).1 (k+1) (by omega) (by omega)) (fun f' hf' =>(ih f' (by omega)).2.1)
   refine ⟨hL,Nr f (ih f (by omega)).2.1 (ih f (by omega)).2.2.1,FA f (ih f (by omega)).2.2.2.1,Fx f (fun f' hf' =>(ih f' (by omega)).2.2.2.2),FX (f+1) (hL 1 (by omega) (by omega))⟩
end Go.SL
